/- What the Go functions that the statement SumClose reaches compute, and the mathematics on it, in the order in which one leans on the other; for every input. -/
import Derived.Test.YtbpmnmceajmmcaaVSumClose0
import Derived.Test.YtbpmnmceajmmcaaMSumClose0
namespace Go.Proofs.Ytbpmnmceajmmcaa.PA
open Go.RowKit Go.Proofs.YtbpmnmceajmmcaaW.PrintWords Go.Proofs.YtbpmnmceajmmcaaW.PrintLast Go.Proofs.YtbpmnmceajmmcaaW.PrintMore
attribute [local go_sem] max2_int min2_int max_two min_two max_three min_three max_four min_four   -- for this text's walks alone
set_option linter.unusedVariables false
set_option linter.unusedSimpArgs false
set_option maxHeartbeats 8000000
set_option maxRecDepth 100000
def r1_at.f (l0 : List Int) (a1 : Int) : Option (Int) := if a1 < (l0.length : Int) then (if 0 ≤ a1 then (some (rd l0 a1)) else (none)) else (some 0)
theorem r1_at.calls (A0 : Option Addr) (c0 : Nat) (l0 : List Int) (a1 : Int) (r : Int) (w : World) (hr0 : Kd.C (Kd.int .u64) w A0 l0.length l0) (hc0 : l0.length ≤ c0) (h : r1_at.f l0 a1 = some r) :
  Calls Try.prog 93 #[.slice A0 l0.length c0, .int .i64 a1] w fun e w' => e = .returned (.int .u64 r) ∧ Drawn0 w w' := by
 have HR0 := A_ hr0;have HC0 := A_ hc0;clear hr0 hc0
 have H : (if a1 < (l0.length : Int) then (if 0 ≤ a1 then (some (rd l0 a1)) else (none)) else (some 0)) = some r := h
 clear h
 by_cases c3 : a1 < (l0.length : Int)
 ·rw [if_pos c3] at H
  have c3b0 : decide (a1 < (l0.length : Int)) = true := decide_eq_true c3
  clear c3
  by_cases c4 : 0 ≤ a1
  ·rw [if_pos c4] at H
   have c4b0 : decide (0 ≤ a1) = true := decide_eq_true c4
   clear c4
   obtain rfl := Option.some.inj H
   have p384 : 0 ≤ (a1 : Int) := of_decide_eq_true (by first | (with_reducible assumption) | assumption)
   have q384 : a1 < (l0.length : Int) := of_decide_eq_true (by first | (with_reducible assumption) | assumption)
   obtain ⟨ad384, e384, hx384_0⟩ := Kd.at_int HR0.out a1 p384 q384
   cases e384
   replace p384 := eq_true p384
   replace q384 := eq_true q384
   go_enter Try.func93, Try.ntmps93
   go_wp2
   go_ret
   exact ⟨sm_, by repeat (first | exact Drawn0.refl _ | apply Drawn0.step)⟩
  ·rw [if_neg c4] at H
   exact absurd H (by simp)
 ·rw [if_neg c3] at H
  have c3b0 : decide (a1 < (l0.length : Int)) = false := decide_eq_false c3
  clear c3
  obtain rfl := Option.some.inj H
  go_enter Try.func93, Try.ntmps93
  go_wp2
  go_ret
  exact ⟨sm_, by repeat (first | exact Drawn0.refl _ | apply Drawn0.step)⟩
def r1_trim.l0 : Nat → List Int → Int → Option (List Int)
 | 0, _, _ => none
 | k + 1, x0, x3 => if x3 > 0 then (if 0 ≤ (wrap64 (x3 - 1)) then (if (wrap64 (x3 - 1)) < (x0.length : Int) then (if (rd x0 (wrap64 (x3 - 1))) = 0 then (r1_trim.l0 k x0 (wrap64 (x3 - 1))) else (if 0 ≤ x3 then (if x3 ≤ (x0.length : Int) then (some (x0.take (x3 : Int).toNat)) else (none)) else (none))) else (none)) else (none)) else (if 0 ≤ x3 then (if x3 ≤ (x0.length : Int) then (some (x0.take (x3 : Int).toNat)) else (none)) else (none))
def r1_trim.f (k : Nat) (l0 : List Int) : Option (List Int) := r1_trim.l0 k l0 (l0.length : Int)
theorem r1_trim.mono_l : ∀ k, (∀ y0 y1, LeO (r1_trim.l0 k y0 y1) (r1_trim.l0 (k + 1) y0 y1))
 | 0 => fun _ _ r h => by simp [r1_trim.l0] at h
 | k + 1 => by
  have ih0 := r1_trim.mono_l k
  ·intro y0 y1
   unfold r1_trim.l0
   repeat' first
   | (with_reducible exact ih0 _ _)
   | (with_reducible exact LeO.refl _)
   | (with_reducible exact LeO.none _)
   | (with_reducible refine LeO.ite ?_ ?_)
   | (with_reducible refine LeO.bind ?_ (fun _ => ?_))
   | exact ih0 _ _
   | exact LeO.none _
   | refine LeO.ite ?_ ?_
   | refine LeO.bind ?_ (fun _ => ?_)
theorem r1_trim.mono : ∀ a0 k, LeO (r1_trim.f k a0) (r1_trim.f (k + 1) a0) := by
 intro a0 k
 have ih0 := r1_trim.mono_l k
 unfold r1_trim.f
 repeat' first
   | (with_reducible exact ih0 _ _)
   | (with_reducible exact LeO.refl _)
   | (with_reducible exact LeO.none _)
   | (with_reducible refine LeO.ite ?_ ?_)
   | (with_reducible refine LeO.bind ?_ (fun _ => ?_))
   | exact ih0 _ _
   | exact LeO.none _
   | refine LeO.ite ?_ ?_
   | refine LeO.bind ?_ (fun _ => ?_)
theorem r1_trim.calls (k : Nat) (P0_ : Nat → Prop) (u9000_ : Value) (l0 : List Int) (r : List Int) (w0 w : World) (hB : Below w0.heap.size w0 w) (ho0 : Kd.R (Kd.int .u64) 22 w w0.heap.size P0_ u9000_ l0) (h : r1_trim.f k l0 = some r) :
  Calls Try.prog 94 #[u9000_] w fun e w' => ∃ v0_ : Value, e = .returned (.agg #[v0_]) ∧ Kd.R (Kd.int .u64) 22 w' w0.heap.size (fun k_ => (P0_ k_ ∨ w.heap.size ≤ k_)) v0_ r ∧ Below w0.heap.size w0 w' ∧ Kept w w' (fun k_ => P0_ k_) := by
 have hu63 := Try.underlying63
 have HO0 := A_ (show Kd.R (Kd.int .u64) 22 w w0.heap.size (fun k_ => (P0_ k_ ∨ w.heap.size ≤ k_)) u9000_ l0 from Kd.R_mono ho0 (fun k_ hk => (.inl hk)))
 have HK := A_ (Kept.refl w (fun k_ => P0_ k_))
 have HW0 := A_ hB.size
 have HB := A_ hB;clear hB
 have H : (r1_trim.l0 k l0 (l0.length : Int)) = some r := h
 clear h
 have H' := A_ H
 clear H
 go_enter Try.func94, Try.ntmps94
 go_wp2_with (first | ((with_reducible refine gate_dst (N := 2) rfl ?_); refine be_ 2 #[.slice none 0 0] 63 ?_; intro gb350 hg w2 hbox hb; have BK350 := A_ (hbox); have GW350 := A_ ((by rw [hg]; exact (by first | exact HK.out.1 | exact (show Kept w _ (fun k_ => P0_ k_) from by repeat (first | (with_reducible first | exact HK.out | apply Kept.alloc | apply Kept.drewN | apply Kept.drew) | exact HK.out)).1) : w.heap.size ≤ gb350)); have GE350 := A_ ((by rw [hg]; exact (below_size (hb_ HB.out)) : w0.heap.size ≤ gb350)); replace HO0 := A_ (Kd.R_below (kr_ HO0.out) hb); replace HK := A_ (Kept.below (S := (fun k_ => P0_ k_)) (by repeat (first | (with_reducible first | exact HK.out | apply Kept.alloc | apply Kept.drewN | apply Kept.drew) | exact HK.out)) hb); replace HB := A_ (below_step (hb_ HB.out) hb); clear hb hbox hg; obtain ⟨Ao3, co3, eo3⟩ := Kd.R_slice HO0.out; subst eo3))
 go_loopg [3] k (fun kq v3 w' => ∃ (x3_1 : Int), v3 = .int .i64 x3_1 ∧ Aside0 (r1_trim.l0 kq l0 x3_1 = some r) ∧ Aside0 (kq ≤ k) ∧ Aside0 (Kd.R (Kd.int .u64) 22 w' w0.heap.size (fun k_ => (P0_ k_ ∨ w.heap.size ≤ k_)) (.slice Ao3 l0.length co3) l0) ∧ Aside0 (w'.heap[gb350]? = some (.cells #[(.slice none 0 0)] 63 (0, 0))) ∧ Aside0 (Kept w w' (fun k_ => P0_ k_)) ∧ Aside0 (Below w0.heap.size w0 w'))
 case atStart => exact ⟨((l0.length : Int)), sm_, H', ⟨Nat.le_refl _⟩, ⟨by (with_reducible repeat (first | apply Kd.R_alloc | apply Kd.R_drewN | apply Kd.R_drew)); exact HO0.out⟩, ⟨bk_ BK350.out⟩, ⟨by repeat (first | (with_reducible first | exact HK.out | apply Kept.alloc | apply Kept.drewN | apply Kept.drew | refine Kept.setCell ?_ (.inr GW350.out) _) | exact HK.out)⟩, ⟨hb1_ HB.out GE350.out⟩⟩
 case round =>
  clear H'
  try clear p2
  obtain ⟨x3_1, rfl, HA, HK1, HO_0, BK350, HK, HB⟩ := hrel
  cases gk with
  | zero => exact absurd HA.out (by simp [r1_trim.l0])
  | succ k1 =>
   have H := HA.out
   clear HA
   simp only [r1_trim.l0] at H
   by_cases c4 : x3_1 > 0
   ·rw [if_pos c4] at H
    have c4b0 : decide (0 < x3_1) = true := decide_eq_true c4
    clear c4
    obtain ⟨ji5, hji5⟩ : ∃ j_ : Int, (wrap64 (x3_1 - 1)) = j_ := ⟨_, rfl⟩
    replace H : (if 0 ≤ (ji5) then (if (ji5) < (l0.length : Int) then (if (rd l0 (ji5)) = 0 then (r1_trim.l0 k1 l0 ji5) else (if 0 ≤ x3_1 then (if x3_1 ≤ (l0.length : Int) then (some (l0.take (x3_1 : Int).toNat)) else (none)) else (none))) else (none)) else (none)) = some r := by first | (rw [hji5] at H; exact H) | (simp only [hji5] at H ⊢; exact H)
    have hji5w : (IntKind.i64.wrap (x3_1 - 1)) = ji5 := (i64_w _).trans hji5
    by_cases c6 : 0 ≤ (ji5)
    ·rw [if_pos c6] at H
     have c6b0 : decide (0 ≤ (ji5)) = true := decide_eq_true c6
     clear c6
     by_cases c7 : (ji5) < (l0.length : Int)
     ·rw [if_pos c7] at H
      have c7b0 : decide ((ji5) < (l0.length : Int)) = true := decide_eq_true c7
      clear c7
      by_cases c8 : (rd l0 (ji5)) = 0
      ·rw [if_pos c8] at H
       have c8b0 : ((rd l0 (ji5)) == 0) = true := beq_iff_eq.mpr c8
       have c8b1 : ((rd l0 (ji5)) != 0) = false := bne_eq_false_iff_eq.mpr c8
       clear c8
       have H' := A_ H
       clear H
       have p351 : 0 ≤ ((ji5) : Int) := of_decide_eq_true (by first | (with_reducible assumption) | assumption)
       have q351 : (ji5) < (l0.length : Int) := of_decide_eq_true (by first | (with_reducible assumption) | assumption)
       obtain ⟨ad351, e351, hx351_0⟩ := Kd.at_int (Kd.R_reads' HO_0.out).2.2 (ji5) p351 q351
       cases e351
       replace p351 := eq_true p351
       replace q351 := eq_true q351
       go_wp2
       go_roundg k1
       case measure => have := HK1.out; omega
       case rel => exact ⟨(ji5), (by first | rfl | (simp; done) | (simp only [← hji5] <;> (first | rfl | simp)) | (simp [*]; done)), H', ⟨by have := HK1.out; omega⟩, ⟨by (with_reducible repeat (first | apply Kd.R_alloc | apply Kd.R_drewN | apply Kd.R_drew)); exact HO_0.out⟩, ⟨bk_ BK350.out⟩, ⟨by repeat (first | (with_reducible first | exact HK.out | apply Kept.alloc | apply Kept.drewN | apply Kept.drew | refine Kept.setCell ?_ (.inr GW350.out) _) | exact HK.out)⟩, ⟨hb1_ HB.out GE350.out⟩⟩
      ·rw [if_neg c8] at H
       have c8b0 : ((rd l0 (ji5)) == 0) = false := beq_eq_false_iff_ne.mpr c8
       have c8b1 : ((rd l0 (ji5)) != 0) = true := bne_iff_ne.mpr c8
       by_cases c9 : 0 ≤ x3_1
       ·rw [if_pos c9] at H
        have c9b0 := eq_true c9
        have c9b1 : decide (0 ≤ x3_1) = true := decide_eq_true c9
        clear c9
        by_cases c10 : x3_1 ≤ (l0.length : Int)
        ·rw [if_pos c10] at H
         have c10b0 := eq_true c10
         have c10b1 : decide (x3_1 ≤ (l0.length : Int)) = true := decide_eq_true c10
         clear c10
         obtain ⟨y352, hy352⟩ : ∃ y_ : List Int, y_ = (l0.take (x3_1 : Int).toNat) := ⟨_, rfl⟩
         replace H : (some y352) = some r := by first | (rw [hy352]; with_reducible exact H) | (have H2_ := (Option.bind_some _ _).symm.trans H; rw [hy352]; with_reducible exact H2_) | (have H2_ := (Option.bind_some _ _).symm.trans H; with_reducible exact H2_) | with_reducible exact H | (rw [hy352]; exact H) | exact H
         have Ny352 := A_ hy352;clear hy352
         obtain rfl := Option.some.inj H
         have p351 : 0 ≤ ((ji5) : Int) := of_decide_eq_true (by first | (with_reducible assumption) | assumption)
         have q351 : (ji5) < (l0.length : Int) := of_decide_eq_true (by first | (with_reducible assumption) | assumption)
         obtain ⟨ad351, e351, hx351_0⟩ := Kd.at_int (Kd.R_reads' HO_0.out).2.2 (ji5) p351 q351
         cases e351
         replace p351 := eq_true p351
         replace q351 := eq_true q351
         have q11 : (x3_1 : Int) ≤ ((l0.length : Int) : Int) := of_decide_eq_true (by first | (with_reducible assumption) | assumption)
         obtain ⟨i011, hi011, _, hsz11, _⟩ := info_parts info22
         have hcut11 := cut_to (P := Try.prog) 30 22 .i64 Try.underlying30 hi011 (some ad351) l0.length co3 x3_1 (of_decide_eq_true (by first | (with_reducible assumption) | assumption)) q11 (Kd.R_reads' HO_0.out).2.1
         have hr11 := Kd.R_take (m := (x3_1 : Int).toNat) HO_0.out (by omega)
         have hy11 : y352.length = (x3_1 : Int).toNat := (by rw [Ny352.out, List.length_take]; omega)
         rw [← Ny352.out] at hr11
         rw [← hy11] at hr11 hcut11
         clear hy11 hi011 hsz11 HO_0;have HO354 := A_ hr11;clear hr11
         replace q11 := eq_true q11
         have hcz12_0 := bv_ BK350.out 0
         have hfz12_0 := blk_frozen BK350.out 0
         go_wp2
         refine bodyPost_ret (results_cell_row rfl _ _ gb350 63 #[.slice (some ad351) y352.length co3] (0, 0) _ rfl (by (with_reducible repeat (first | refine blk_drewN ?_ _ | refine blk_drew ?_ | refine blk_alloc ?_ _)); refine blk_put (cs := #[.slice none 0 0]) ?_ 0 _ rfl; (with_reducible repeat (first | refine blk_drewN ?_ _ | refine blk_drew ?_ | refine blk_alloc ?_ _)); exact BK350.out) Try.underlying63 rfl (by kernel_rfl)) rfl ?_
         exact ⟨_, by first | rfl | (simp [errW_none, errW_some] <;> rfl) | (simp only [← hji5]; first | rfl | (simp [errW_none, errW_some] <;> rfl)) | (simp [*, errW_none, errW_some] <;> rfl), by (with_reducible repeat (first | apply Kd.R_alloc | apply Kd.R_drewN | apply Kd.R_drew)); exact Kd.R_mono (Kd.R_far (p := ⟨gb350, 0, none⟩) (Kd.R_types HO354.out BK350.out (by decide)) (fun _ hk => hk.2) (.slice (some ad351) y352.length co3)) (fun _ hk => hk.1), by repeat (first | (with_reducible first | exact HB.out | apply below_alloc | apply pw_below_drewN | apply below_drew1 | refine below_set ?_ GE350.out) | exact HB.out), by repeat (first | (with_reducible first | exact HK.out | apply Kept.alloc | apply Kept.drewN | apply Kept.drew | refine Kept.setCell ?_ (.inr GW350.out) _) | exact HK.out)⟩
        ·rw [if_neg c10] at H
         exact absurd H (by simp)
       ·rw [if_neg c9] at H
        exact absurd H (by simp)
     ·rw [if_neg c7] at H
      exact absurd H (by simp)
    ·rw [if_neg c6] at H
     exact absurd H (by simp)
   ·rw [if_neg c4] at H
    have c4b0 : decide (0 < x3_1) = false := decide_eq_false c4
    clear c4
    by_cases c13 : 0 ≤ x3_1
    ·rw [if_pos c13] at H
     have c13b0 := eq_true c13
     have c13b1 : decide (0 ≤ x3_1) = true := decide_eq_true c13
     clear c13
     by_cases c14 : x3_1 ≤ (l0.length : Int)
     ·rw [if_pos c14] at H
      have c14b0 := eq_true c14
      have c14b1 : decide (x3_1 ≤ (l0.length : Int)) = true := decide_eq_true c14
      clear c14
      obtain ⟨y355, hy355⟩ : ∃ y_ : List Int, y_ = (l0.take (x3_1 : Int).toNat) := ⟨_, rfl⟩
      replace H : (some y355) = some r := by first | (rw [hy355]; with_reducible exact H) | (have H2_ := (Option.bind_some _ _).symm.trans H; rw [hy355]; with_reducible exact H2_) | (have H2_ := (Option.bind_some _ _).symm.trans H; with_reducible exact H2_) | with_reducible exact H | (rw [hy355]; exact H) | exact H
      have Ny355 := A_ hy355;clear hy355
      obtain rfl := Option.some.inj H
      have q15 : (x3_1 : Int) ≤ ((l0.length : Int) : Int) := of_decide_eq_true (by first | (with_reducible assumption) | assumption)
      obtain ⟨i015, hi015, _, hsz15, _⟩ := info_parts info22
      have hcut15 := cut_to (P := Try.prog) 30 22 .i64 Try.underlying30 hi015 Ao3 l0.length co3 x3_1 (of_decide_eq_true (by first | (with_reducible assumption) | assumption)) q15 (Kd.R_reads' HO_0.out).2.1
      have hr15 := Kd.R_take (m := (x3_1 : Int).toNat) HO_0.out (by omega)
      have hy15 : y355.length = (x3_1 : Int).toNat := (by rw [Ny355.out, List.length_take]; omega)
      rw [← Ny355.out] at hr15
      rw [← hy15] at hr15 hcut15
      clear hy15 hi015 hsz15 HO_0;have HO357 := A_ hr15;clear hr15
      replace q15 := eq_true q15
      have hcz16_0 := bv_ BK350.out 0
      have hfz16_0 := blk_frozen BK350.out 0
      go_wp2
      refine bodyPost_ret (results_cell_row rfl _ _ gb350 63 #[.slice Ao3 y355.length co3] (0, 0) _ rfl (by (with_reducible repeat (first | refine blk_drewN ?_ _ | refine blk_drew ?_ | refine blk_alloc ?_ _)); refine blk_put (cs := #[.slice none 0 0]) ?_ 0 _ rfl; (with_reducible repeat (first | refine blk_drewN ?_ _ | refine blk_drew ?_ | refine blk_alloc ?_ _)); exact BK350.out) Try.underlying63 rfl (by kernel_rfl)) rfl ?_
      exact ⟨_, by first | rfl | (simp [errW_none, errW_some] <;> rfl) | (simp [*, errW_none, errW_some] <;> rfl), by (with_reducible repeat (first | apply Kd.R_alloc | apply Kd.R_drewN | apply Kd.R_drew)); exact Kd.R_mono (Kd.R_far (p := ⟨gb350, 0, none⟩) (Kd.R_types HO357.out BK350.out (by decide)) (fun _ hk => hk.2) (.slice Ao3 y355.length co3)) (fun _ hk => hk.1), by repeat (first | (with_reducible first | exact HB.out | apply below_alloc | apply pw_below_drewN | apply below_drew1 | refine below_set ?_ GE350.out) | exact HB.out), by repeat (first | (with_reducible first | exact HK.out | apply Kept.alloc | apply Kept.drewN | apply Kept.drew | refine Kept.setCell ?_ (.inr GW350.out) _) | exact HK.out)⟩
     ·rw [if_neg c14] at H
      exact absurd H (by simp)
    ·rw [if_neg c13] at H
     exact absurd H (by simp)
mutual
def r1_Add.l0 : Nat → List Int → Int → Int → List Int → List Int → Option (List Int)
 | 0, _, _, _, _, _ => none
 | k + 1, x5, x6, x7, x400000, x401000 => if x7 < (mx (x400000.length : Int) (x401000.length : Int)) then (r1_Add.j1 k x5 x6 x7 true x400000 x401000) else (r1_Add.j1 k x5 x6 x7 (decide (x6 > 0)) x400000 x401000)
def r1_Add.j1 : Nat → List Int → Int → Int → Bool → List Int → List Int → Option (List Int)
 | 0, _, _, _, _, _, _ => none
 | k + 1, x5, x6, x7, x21, x400000, x401000 => if x21 = true then ((r1_at.f x400000 x7).bind fun t402 => ((r1_at.f x401000 x7).bind fun t403 => (if x5.length < 17592186044416 then (r1_Add.l0 k (x5 ++ [Int.tmod (IntKind.u64.wrap ((IntKind.u64.wrap (t402 + t403)) + x6)) 4294967296]) (IntKind.u64.wrap (Int.tdiv (IntKind.u64.wrap ((IntKind.u64.wrap (t402 + t403)) + x6)) 4294967296)) (wrap64 (x7 + 1)) x400000 x401000) else (none)))) else ((r1_trim.f k x5).bind fun t407 => (some t407))
end
def r1_Add.f (k : Nat) (l0_0 : List Int) (l1_0 : List Int) : Option (List Int) := r1_Add.l0 k ([] : List Int) 0 0 l0_0 l1_0
theorem r1_Add.mono_l : ∀ k, (∀ y0 y1 y2 y3 y4, LeO (r1_Add.l0 k y0 y1 y2 y3 y4) (r1_Add.l0 (k + 1) y0 y1 y2 y3 y4)) ∧ (∀ y0 y1 y2 y3 y4 y5, LeO (r1_Add.j1 k y0 y1 y2 y3 y4 y5) (r1_Add.j1 (k + 1) y0 y1 y2 y3 y4 y5))
 | 0 => ⟨fun _ _ _ _ _ r h => by simp [r1_Add.l0] at h, fun _ _ _ _ _ _ r h => by simp [r1_Add.j1] at h⟩
 | k + 1 => by
  obtain ⟨ih0, ih1⟩ := r1_Add.mono_l k
  refine ⟨?_, ?_⟩
  ·intro y0 y1 y2 y3 y4
   unfold r1_Add.l0
   repeat' first
   | (with_reducible exact ih0 _ _ _ _ _)
   | (with_reducible exact ih1 _ _ _ _ _ _)
   | (with_reducible exact r1_trim.mono _ _)
   | (with_reducible exact LeO.refl _)
   | (with_reducible exact LeO.none _)
   | (with_reducible refine LeO.ite ?_ ?_)
   | (with_reducible refine LeO.bind ?_ (fun _ => ?_))
   | exact ih0 _ _ _ _ _
   | exact ih1 _ _ _ _ _ _
   | exact r1_trim.mono _ _
   | exact LeO.none _
   | refine LeO.ite ?_ ?_
   | refine LeO.bind ?_ (fun _ => ?_)
  ·intro y0 y1 y2 y3 y4 y5
   unfold r1_Add.j1
   repeat' first
   | (with_reducible exact ih0 _ _ _ _ _)
   | (with_reducible exact ih1 _ _ _ _ _ _)
   | (with_reducible exact r1_trim.mono _ _)
   | (with_reducible exact LeO.refl _)
   | (with_reducible exact LeO.none _)
   | (with_reducible refine LeO.ite ?_ ?_)
   | (with_reducible refine LeO.bind ?_ (fun _ => ?_))
   | exact ih0 _ _ _ _ _
   | exact ih1 _ _ _ _ _ _
   | exact r1_trim.mono _ _
   | exact LeO.none _
   | refine LeO.ite ?_ ?_
   | refine LeO.bind ?_ (fun _ => ?_)
theorem r1_Add.mono : ∀ a0 a1 k, LeO (r1_Add.f k a0 a1) (r1_Add.f (k + 1) a0 a1) := by
 intro a0 a1 k
 obtain ⟨ih0, ih1⟩ := r1_Add.mono_l k
 unfold r1_Add.f
 repeat' first
   | (with_reducible exact ih0 _ _ _ _ _)
   | (with_reducible exact ih1 _ _ _ _ _ _)
   | (with_reducible exact r1_trim.mono _ _)
   | (with_reducible exact LeO.refl _)
   | (with_reducible exact LeO.none _)
   | (with_reducible refine LeO.ite ?_ ?_)
   | (with_reducible refine LeO.bind ?_ (fun _ => ?_))
   | exact ih0 _ _ _ _ _
   | exact ih1 _ _ _ _ _ _
   | exact r1_trim.mono _ _
   | exact LeO.none _
   | refine LeO.ite ?_ ?_
   | refine LeO.bind ?_ (fun _ => ?_)
theorem r1_Add.calls (k : Nat) (A0_0 : Option Addr) (c0_0 : Nat) (l0_0 : List Int) (A1_0 : Option Addr) (c1_0 : Nat) (l1_0 : List Int) (r : List Int) (w : World) (hr0_0 : Kd.C (Kd.int .u64) w A0_0 l0_0.length l0_0) (hc0_0 : l0_0.length ≤ c0_0) (hr1_0 : Kd.C (Kd.int .u64) w A1_0 l1_0.length l1_0) (hc1_0 : l1_0.length ≤ c1_0) (h : r1_Add.f k l0_0 l1_0 = some r) :
  Calls Try.prog 80 #[.agg #[.slice A0_0 l0_0.length c0_0], .agg #[.slice A1_0 l1_0.length c1_0]] w fun e w' => ∃ v0_ : Value, e = .returned (.agg #[v0_]) ∧ Kd.R (Kd.int .u64) 22 w' w.heap.size (fun _ => True) v0_ r ∧ Below w.heap.size w w' := by
 have hu63 := Try.underlying63
 have HR0_0 := A_ hr0_0;have HC0_0 := A_ hc0_0;clear hr0_0 hc0_0;have HR1_0 := A_ hr1_0;have HC1_0 := A_ hc1_0;clear hr1_0 hc1_0
 have HB := A_ (Below.refl w.heap.size w)
 have H : (r1_Add.l0 k ([] : List Int) 0 0 l0_0 l1_0) = some r := h
 clear h
 have H' := A_ H
 clear H
 go_enter Try.func80, Try.ntmps80
 go_wp2_with (first | ((with_reducible refine gate_dst (N := 2) rfl ?_); refine be_ 2 #[.slice A0_0 l0_0.length c0_0] 63 ?_; intro gb399 hg w3 hbox hb; have BK399 := A_ (hbox); have GW399 := A_ (sz_ hg (hb_ HB.out)); have GE399 := A_ (sz_ hg (hb_ HB.out)); replace HB := A_ (below_step (hb_ HB.out) hb); clear hb hbox hg) | ((with_reducible refine gate_dst (N := 3) rfl ?_); refine be_ 3 #[.slice A1_0 l1_0.length c1_0] 63 ?_; intro gb400 hg w4 hbox hb; have BK400 := A_ (hbox); have GW400 := A_ (sz_ hg (hb1_ HB.out GE399.out)); have GE400 := A_ (sz_ hg (hb1_ HB.out GE399.out)); have NB399_400 := A_ (nl_ hg BK399.out); have NB400_399 := A_ (ng_ hg BK399.out); replace BK399 := A_ (bb_ BK399.out hb); replace HB := A_ (below_step (hb1_ HB.out GE399.out) hb); clear hb hbox hg) | ((with_reducible refine gate_dst (N := 4) rfl ?_); refine be_ 4 #[.slice none 0 0] 63 ?_; intro gb401 hg w5 hbox hb; have BK401 := A_ (hbox); have GW401 := A_ (sz_ hg (hb2_ HB.out GE399.out GE400.out)); have GE401 := A_ (sz_ hg (hb2_ HB.out GE399.out GE400.out)); have NB399_401 := A_ (nl_ hg BK399.out); have NB401_399 := A_ (ng_ hg BK399.out); have NB400_401 := A_ (nl_ hg BK400.out); have NB401_400 := A_ (ng_ hg BK400.out); replace BK399 := A_ (bb_ BK399.out hb); replace BK400 := A_ (bb_ BK400.out hb); replace HB := A_ (below_step (hb2_ HB.out GE399.out GE400.out) hb); clear hb hbox hg))
 repeat (go_quiet (first | ((with_reducible refine gate_dst (N := 2) rfl ?_); refine be_ 2 #[.slice A0_0 l0_0.length c0_0] 63 ?_; intro gb399 hg w3 hbox hb; have BK399 := A_ (hbox); have GW399 := A_ (sz_ hg (hb_ HB.out)); have GE399 := A_ (sz_ hg (hb_ HB.out)); replace HB := A_ (below_step (hb_ HB.out) hb); clear hb hbox hg) | ((with_reducible refine gate_dst (N := 3) rfl ?_); refine be_ 3 #[.slice A1_0 l1_0.length c1_0] 63 ?_; intro gb400 hg w4 hbox hb; have BK400 := A_ (hbox); have GW400 := A_ (sz_ hg (hb1_ HB.out GE399.out)); have GE400 := A_ (sz_ hg (hb1_ HB.out GE399.out)); have NB399_400 := A_ (nl_ hg BK399.out); have NB400_399 := A_ (ng_ hg BK399.out); replace BK399 := A_ (bb_ BK399.out hb); replace HB := A_ (below_step (hb1_ HB.out GE399.out) hb); clear hb hbox hg) | ((with_reducible refine gate_dst (N := 4) rfl ?_); refine be_ 4 #[.slice none 0 0] 63 ?_; intro gb401 hg w5 hbox hb; have BK401 := A_ (hbox); have GW401 := A_ (sz_ hg (hb2_ HB.out GE399.out GE400.out)); have GE401 := A_ (sz_ hg (hb2_ HB.out GE399.out GE400.out)); have NB399_401 := A_ (nl_ hg BK399.out); have NB401_399 := A_ (ng_ hg BK399.out); have NB400_401 := A_ (nl_ hg BK400.out); have NB401_400 := A_ (ng_ hg BK400.out); replace BK399 := A_ (bb_ BK399.out hb); replace BK400 := A_ (bb_ BK400.out hb); replace HB := A_ (below_step (hb2_ HB.out GE399.out GE400.out) hb); clear hb hbox hg)); try go_wp2_with (first | ((with_reducible refine gate_dst (N := 2) rfl ?_); refine be_ 2 #[.slice A0_0 l0_0.length c0_0] 63 ?_; intro gb399 hg w3 hbox hb; have BK399 := A_ (hbox); have GW399 := A_ (sz_ hg (hb_ HB.out)); have GE399 := A_ (sz_ hg (hb_ HB.out)); replace HB := A_ (below_step (hb_ HB.out) hb); clear hb hbox hg) | ((with_reducible refine gate_dst (N := 3) rfl ?_); refine be_ 3 #[.slice A1_0 l1_0.length c1_0] 63 ?_; intro gb400 hg w4 hbox hb; have BK400 := A_ (hbox); have GW400 := A_ (sz_ hg (hb1_ HB.out GE399.out)); have GE400 := A_ (sz_ hg (hb1_ HB.out GE399.out)); have NB399_400 := A_ (nl_ hg BK399.out); have NB400_399 := A_ (ng_ hg BK399.out); replace BK399 := A_ (bb_ BK399.out hb); replace HB := A_ (below_step (hb1_ HB.out GE399.out) hb); clear hb hbox hg) | ((with_reducible refine gate_dst (N := 4) rfl ?_); refine be_ 4 #[.slice none 0 0] 63 ?_; intro gb401 hg w5 hbox hb; have BK401 := A_ (hbox); have GW401 := A_ (sz_ hg (hb2_ HB.out GE399.out GE400.out)); have GE401 := A_ (sz_ hg (hb2_ HB.out GE399.out GE400.out)); have NB399_401 := A_ (nl_ hg BK399.out); have NB401_399 := A_ (ng_ hg BK399.out); have NB400_401 := A_ (nl_ hg BK400.out); have NB401_400 := A_ (ng_ hg BK400.out); replace BK399 := A_ (bb_ BK399.out hb); replace BK400 := A_ (bb_ BK400.out hb); replace HB := A_ (below_step (hb2_ HB.out GE399.out GE400.out) hb); clear hb hbox hg)))
 go_loopg [5, 6, 7] k (fun kq v5 v6 v7 w' => ∃ (x5_1 : List Int) (x6_1 : Int) (x7_1 : Int), v6 = .int .u64 x6_1 ∧ v7 = .int .i64 x7_1 ∧ Aside0 (r1_Add.l0 kq x5_1 x6_1 x7_1 l0_0 l1_0 = some r) ∧ Aside0 (kq ≤ k) ∧ Aside0 (Kd.R (Kd.int .u64) 22 w' w.heap.size (fun _ => True) v5 x5_1) ∧ Aside0 (w'.heap[gb399]? = some (.cells #[(.slice A0_0 l0_0.length c0_0)] 63 (0, 0))) ∧ Aside0 (w'.heap[gb400]? = some (.cells #[(.slice A1_0 l1_0.length c1_0)] 63 (0, 0))) ∧ Aside0 (w'.heap[gb401]? = some (.cells #[(.slice none 0 0)] 63 (0, 0))) ∧ Aside0 (Below w.heap.size w w'))
 case atStart => exact ⟨(([] : List Int)), (0), (0), sm_, sm_, H', ⟨Nat.le_refl _⟩, ⟨by first | exact Kd.R_nil _ _ _ _ _ | exact Kd.N_nil _ _ _ _ _ | exact Kd.V_nil _ _ _ _ _ | exact Kd.Q_nil _ _ _ _ _ | exact Kd.S_nil _ _ _ _ _⟩, ⟨bk_ BK399.out⟩, ⟨bk_ BK400.out⟩, ⟨bk_ BK401.out⟩, ⟨hb3_ HB.out GE399.out GE400.out GE401.out⟩⟩
 case round =>
  clear H'
  try clear c1
  try clear p2
  obtain ⟨x5_1, x6_1, x7_1, rfl, rfl, HA, HK1, HO_5, BK399, BK400, BK401, HB⟩ := hrel
  cases gk with
  | zero => exact absurd HA.out (by simp [r1_Add.l0])
  | succ k1 =>
   have H := HA.out
   clear HA
   simp only [r1_Add.l0] at H
   have HC6 := A_ H;clear H
   go_upto_region 4 with (fail)
   repeat (go_quiet (fail); go_upto_region 4 with (fail))
   go_cut [21] (fun v21 wc => ∃ (kq : Nat) (x21_5 : Bool), v21 = .bool x21_5 ∧ Aside0 (r1_Add.j1 kq x5_1 x6_1 x7_1 x21_5 l0_0 l1_0 = some r) ∧ Aside0 (kq ≤ k1) ∧ Aside0 (Kd.R (Kd.int .u64) 22 wc w.heap.size (fun _ => True) u5 x5_1) ∧ Aside0 (wc.heap[gb399]? = some (.cells #[(.slice A0_0 l0_0.length c0_0)] 63 (0, 0))) ∧ Aside0 (wc.heap[gb400]? = some (.cells #[(.slice A1_0 l1_0.length c1_0)] 63 (0, 0))) ∧ Aside0 (wc.heap[gb401]? = some (.cells #[(.slice none 0 0)] 63 (0, 0))) ∧ Aside0 (Below w.heap.size w wc))
   case first =>
    have H := HC6.out
    clear HC6
    obtain ⟨ji7, hji7⟩ : ∃ j_ : Int, (mx (l0_0.length : Int) (l1_0.length : Int)) = j_ := ⟨_, rfl⟩
    replace H : (if x7_1 < (ji7) then (r1_Add.j1 k1 x5_1 x6_1 x7_1 true l0_0 l1_0) else (r1_Add.j1 k1 x5_1 x6_1 x7_1 (decide (x6_1 > 0)) l0_0 l1_0)) = some r := by first | (rw [hji7] at H; exact H) | (simp only [hji7] at H ⊢; exact H)
    (try (have hji7l : 0 ≤ ji7 := by (rw [← hji7]; unfold mx; (repeat' split) <;> omega)))
    (try (have hji7m : 0 ≤ ji7 := by omega))
    have hji7_ : (if (l0_0.length : Int) < (l1_0.length : Int) then (l1_0.length : Int) else (l0_0.length : Int)) = ji7 := hji7
    have hji7n_ : (if l0_0.length < l1_0.length then (l1_0.length : Int) else (l0_0.length : Int)) = ji7 := by have h_ := hji7_; simpa only [Int.ofNat_lt] using h_
    by_cases c8 : x7_1 < (ji7)
    ·rw [if_pos c8] at H
     have c8b0 : decide (x7_1 < (ji7)) = true := decide_eq_true c8
     clear c8
     (first | rw [c8b0] | (simp only [i64_w, i32_w]; rw [c8b0]) | skip)
     have H' := A_ H
     clear H
     have hnb9 := NB399_400.out
     have hnc9 := NB400_399.out
     have hnb10 := NB399_401.out
     have hnc10 := NB401_399.out
     have hcz11_0 := bv_ BK399.out 0
     have hfz11_0 := blk_frozen BK399.out 0
     have hnb12 := NB400_401.out
     have hnc12 := NB401_400.out
     have hcz13_0 := bv_ BK400.out 0
     have hfz13_0 := blk_frozen BK400.out 0
     go_wp2
     repeat (go_quiet (fail); try go_wp2)
     go_meet
     case rel => exact ⟨_, (true), sm_, H', ⟨by have := HK1.out; first | omega | exact Nat.le_refl _⟩, ⟨by (with_reducible repeat (first | apply Kd.R_alloc | apply Kd.R_drewN | apply Kd.R_drew)); exact HO_5.out⟩, ⟨bk_ BK399.out⟩, ⟨bk_ BK400.out⟩, ⟨bk_ BK401.out⟩, ⟨hb3_ HB.out GE399.out GE400.out GE401.out⟩⟩
    ·rw [if_neg c8] at H
     have c8b0 : decide (x7_1 < (ji7)) = false := decide_eq_false c8
     clear c8
     (first | rw [c8b0] | (simp only [i64_w, i32_w]; rw [c8b0]) | skip)
     have H' := A_ H
     clear H
     have hnb14 := NB399_400.out
     have hnc14 := NB400_399.out
     have hnb15 := NB399_401.out
     have hnc15 := NB401_399.out
     have hcz16_0 := bv_ BK399.out 0
     have hfz16_0 := blk_frozen BK399.out 0
     have hnb17 := NB400_401.out
     have hnc17 := NB401_400.out
     have hcz18_0 := bv_ BK400.out 0
     have hfz18_0 := blk_frozen BK400.out 0
     go_wp2
     repeat (go_quiet (fail); try go_wp2)
     go_meet
     case rel => exact ⟨_, (decide (x6_1 > 0)), sm_, H', ⟨by have := HK1.out; first | omega | exact Nat.le_refl _⟩, ⟨by (with_reducible repeat (first | apply Kd.R_alloc | apply Kd.R_drewN | apply Kd.R_drew)); exact HO_5.out⟩, ⟨bk_ BK399.out⟩, ⟨bk_ BK400.out⟩, ⟨bk_ BK401.out⟩, ⟨hb3_ HB.out GE399.out GE400.out GE401.out⟩⟩
   case rest =>
    clear HC6
    try clear c1
    try clear p2
    try clear c8
    try clear c8b0
    try clear c9
    try clear c10
    try clear c12
    try clear c14
    try clear c15
    try clear c17
    try clear hcz11_0
    try clear hcz13_0
    try clear hcz16_0
    try clear hcz18_0
    try clear hfz11_0
    try clear hfz13_0
    try clear hfz16_0
    try clear hfz18_0
    try clear p2
    obtain ⟨kq, x21_5, rfl, HA, HJ5, HO_5, BK399, BK400, BK401, HB⟩ := hcut
    cases kq with
    | zero => exact absurd HA.out (by simp [r1_Add.j1])
    | succ kj5 =>
     have H := HA.out
     clear HA
     simp only [r1_Add.j1] at H
     by_cases c19 : x21_5 = true
     ·subst c19
      have H1 : ((r1_at.f l0_0 x7_1).bind fun t402 => ((r1_at.f l1_0 x7_1).bind fun t403 => (if x5_1.length < 17592186044416 then (r1_Add.l0 kj5 (x5_1 ++ [Int.tmod (IntKind.u64.wrap ((IntKind.u64.wrap (t402 + t403)) + x6_1)) 4294967296]) (IntKind.u64.wrap (Int.tdiv (IntKind.u64.wrap ((IntKind.u64.wrap (t402 + t403)) + x6_1)) 4294967296)) (wrap64 (x7_1 + 1)) l0_0 l1_0) else (none)))) = some r := by rw [if_pos rfl] at H; exact H
      clear H;have H := H1;clear H1
      replace H := ob_ H
      obtain ⟨t402, A200, H⟩ := H
      replace H : ((r1_at.f l1_0 x7_1).bind fun t403 => (if x5_1.length < 17592186044416 then (r1_Add.l0 kj5 (x5_1 ++ [Int.tmod (IntKind.u64.wrap ((IntKind.u64.wrap (t402 + t403)) + x6_1)) 4294967296]) (IntKind.u64.wrap (Int.tdiv (IntKind.u64.wrap ((IntKind.u64.wrap (t402 + t403)) + x6_1)) 4294967296)) (wrap64 (x7_1 + 1)) l0_0 l1_0) else (none))) = some r := H
      have A20 := A_ A200;clear A200
      replace H := ob_ H
      obtain ⟨t403, A210, H⟩ := H
      replace H : (if x5_1.length < 17592186044416 then (r1_Add.l0 kj5 (x5_1 ++ [Int.tmod (IntKind.u64.wrap ((IntKind.u64.wrap (t402 + t403)) + x6_1)) 4294967296]) (IntKind.u64.wrap (Int.tdiv (IntKind.u64.wrap ((IntKind.u64.wrap (t402 + t403)) + x6_1)) 4294967296)) (wrap64 (x7_1 + 1)) l0_0 l1_0) else (none)) = some r := H
      have A21 := A_ A210;clear A210
      by_cases c22 : x5_1.length < 17592186044416
      ·rw [if_pos c22] at H
       have LMc22 := A_ c22;clear c22
       obtain ⟨y404, hy404⟩ : ∃ y_ : List Int, y_ = (x5_1 ++ [Int.tmod (IntKind.u64.wrap ((IntKind.u64.wrap (t402 + t403)) + x6_1)) 4294967296]) := ⟨_, rfl⟩
       replace H : (r1_Add.l0 kj5 y404 (IntKind.u64.wrap (Int.tdiv (IntKind.u64.wrap ((IntKind.u64.wrap (t402 + t403)) + x6_1)) 4294967296)) (wrap64 (x7_1 + 1)) l0_0 l1_0) = some r := by first | (rw [hy404]; with_reducible exact H) | (have H2_ := (Option.bind_some _ _).symm.trans H; rw [hy404]; with_reducible exact H2_) | (have H2_ := (Option.bind_some _ _).symm.trans H; with_reducible exact H2_) | with_reducible exact H | (rw [hy404]; exact H) | exact H
       have Ny404 := A_ hy404;clear hy404
       have H' := A_ H
       clear H
       have hnb23 := NB399_400.out
       have hnc23 := NB400_399.out
       have hnb24 := NB399_401.out
       have hnc24 := NB401_399.out
       have hcz25_0 := bv_ BK399.out 0
       have hfz25_0 := blk_frozen BK399.out 0
       go_wp2_with (first | (go_at_call 93; (with_reducible refine (r1_at.calls _ _ l0_0 x7_1 t402 _ ?side1 ?side2 A20.out).mono ?_); (case side1 => exact cs_ ((Kd.C_below HR0_0.out HB.out))); (case side2 => exact HC0_0.out); rintro e w' ⟨rfl, ⟨nd, rfl⟩⟩; (try first | exact ⟨rfl, _, World.drewN_drewN _ _ _⟩ | exact ⟨rfl, _, Eq.trans (World.drewN_drewN _ _ _) (congrArg (World.drewN _) (Nat.add_assoc _ _ _))⟩); have hnb26 := NB400_401.out; have hnc26 := NB401_400.out; have hcz27_0 := bv_ BK400.out 0; have hfz27_0 := blk_frozen BK400.out 0) | (go_at_call 93; (with_reducible refine (r1_at.calls _ _ l1_0 x7_1 t403 _ ?side1 ?side2 A21.out).mono ?_); (case side1 => exact cs_ ((Kd.C_below HR1_0.out (hb3_ HB.out GE399.out GE400.out GE401.out)))); (case side2 => exact HC1_0.out); rintro e w' ⟨rfl, ⟨nd, rfl⟩⟩; (try first | exact ⟨rfl, _, World.drewN_drewN _ _ _⟩ | exact ⟨rfl, _, Eq.trans (World.drewN_drewN _ _ _) (congrArg (World.drewN _) (Nat.add_assoc _ _ _))⟩)) | ((with_reducible refine gate_builtin (b := .append) (xs := #[.tmp 35, .tmp 38]) rfl ?_); at_builtin; refine Kd.R_append (Kd.int .u64) (w0 := w) w.heap.size rfl (.tmp 35) (.tmp 38) 30 22 (.int .u64 0) 8 rfl Try.underlying30 info22 rfl (by decide) (by omega) u5 x5_1 (Int.tmod (IntKind.u64.wrap ((IntKind.u64.wrap (t402 + t403)) + x6_1)) 4294967296) [.int .u64 (Int.tmod (IntKind.u64.wrap ((IntKind.u64.wrap (t402 + t403)) + x6_1)) 4294967296)] (fun _ => True) (fun _ => False) rfl rfl ?aP (fun _ hk => hk.elim) ?aF ?aO ?aB ?aS ?aL ?_; (case aP => exact rfl); (case aB => exact (hb3_ HB.out GE399.out GE400.out GE401.out)); (case aF => exact (fun _ _ => trivial)); (case aO => exact (kr_ HO_5.out)); (case aS => exact (below_size (hb3_ HB.out GE399.out GE400.out GE401.out))); (case aL => have := LMc22.out; omega); intro v405 w28 ho hb hg hat; rw [← Ny404.out] at ho; have n0_ := A_ (blk_grown (g := gb399) (o := .cells #[.slice A0_0 l0_0.length c0_0] 63 (0, 0)) (bk_ BK399.out) hg (Kd.R_ne HO_5.out BK399.out (by decide))); have n1_ := A_ (blk_grown (g := gb400) (o := .cells #[.slice A1_0 l1_0.length c1_0] 63 (0, 0)) (bk_ BK400.out) hg (Kd.R_ne HO_5.out BK400.out (by decide))); have n2_ := A_ (blk_grown (g := gb401) (o := .cells #[.slice none 0 0] 63 (0, 0)) (bk_ BK401.out) hg (Kd.R_ne HO_5.out BK401.out (by decide))); have n3_ := A_ (hb); have n4_ := A_ (ho); clear BK399; clear BK400; clear BK401; clear HB; clear HO_5; have BK399 := n0_; have BK400 := n1_; have BK401 := n2_; have HB := n3_; have HO406 := n4_; clear n0_ n1_ n2_ n3_ n4_; clear ho hb hg hat))
       repeat (go_quiet (first | (go_at_call 93; (with_reducible refine (r1_at.calls _ _ l0_0 x7_1 t402 _ ?side1 ?side2 A20.out).mono ?_); (case side1 => exact cs_ ((Kd.C_below HR0_0.out HB.out))); (case side2 => exact HC0_0.out); rintro e w' ⟨rfl, ⟨nd, rfl⟩⟩; (try first | exact ⟨rfl, _, World.drewN_drewN _ _ _⟩ | exact ⟨rfl, _, Eq.trans (World.drewN_drewN _ _ _) (congrArg (World.drewN _) (Nat.add_assoc _ _ _))⟩); have hnb26 := NB400_401.out; have hnc26 := NB401_400.out; have hcz27_0 := bv_ BK400.out 0; have hfz27_0 := blk_frozen BK400.out 0) | (go_at_call 93; (with_reducible refine (r1_at.calls _ _ l1_0 x7_1 t403 _ ?side1 ?side2 A21.out).mono ?_); (case side1 => exact cs_ ((Kd.C_below HR1_0.out (hb3_ HB.out GE399.out GE400.out GE401.out)))); (case side2 => exact HC1_0.out); rintro e w' ⟨rfl, ⟨nd, rfl⟩⟩; (try first | exact ⟨rfl, _, World.drewN_drewN _ _ _⟩ | exact ⟨rfl, _, Eq.trans (World.drewN_drewN _ _ _) (congrArg (World.drewN _) (Nat.add_assoc _ _ _))⟩)) | ((with_reducible refine gate_builtin (b := .append) (xs := #[.tmp 35, .tmp 38]) rfl ?_); at_builtin; refine Kd.R_append (Kd.int .u64) (w0 := w) w.heap.size rfl (.tmp 35) (.tmp 38) 30 22 (.int .u64 0) 8 rfl Try.underlying30 info22 rfl (by decide) (by omega) u5 x5_1 (Int.tmod (IntKind.u64.wrap ((IntKind.u64.wrap (t402 + t403)) + x6_1)) 4294967296) [.int .u64 (Int.tmod (IntKind.u64.wrap ((IntKind.u64.wrap (t402 + t403)) + x6_1)) 4294967296)] (fun _ => True) (fun _ => False) rfl rfl ?aP (fun _ hk => hk.elim) ?aF ?aO ?aB ?aS ?aL ?_; (case aP => exact rfl); (case aB => exact (hb3_ HB.out GE399.out GE400.out GE401.out)); (case aF => exact (fun _ _ => trivial)); (case aO => exact (kr_ HO_5.out)); (case aS => exact (below_size (hb3_ HB.out GE399.out GE400.out GE401.out))); (case aL => have := LMc22.out; omega); intro v405 w28 ho hb hg hat; rw [← Ny404.out] at ho; have n0_ := A_ (blk_grown (g := gb399) (o := .cells #[.slice A0_0 l0_0.length c0_0] 63 (0, 0)) (bk_ BK399.out) hg (Kd.R_ne HO_5.out BK399.out (by decide))); have n1_ := A_ (blk_grown (g := gb400) (o := .cells #[.slice A1_0 l1_0.length c1_0] 63 (0, 0)) (bk_ BK400.out) hg (Kd.R_ne HO_5.out BK400.out (by decide))); have n2_ := A_ (blk_grown (g := gb401) (o := .cells #[.slice none 0 0] 63 (0, 0)) (bk_ BK401.out) hg (Kd.R_ne HO_5.out BK401.out (by decide))); have n3_ := A_ (hb); have n4_ := A_ (ho); clear BK399; clear BK400; clear BK401; clear HB; clear HO_5; have BK399 := n0_; have BK400 := n1_; have BK401 := n2_; have HB := n3_; have HO406 := n4_; clear n0_ n1_ n2_ n3_ n4_; clear ho hb hg hat)); try go_wp2_with (first | (go_at_call 93; (with_reducible refine (r1_at.calls _ _ l0_0 x7_1 t402 _ ?side1 ?side2 A20.out).mono ?_); (case side1 => exact cs_ ((Kd.C_below HR0_0.out HB.out))); (case side2 => exact HC0_0.out); rintro e w' ⟨rfl, ⟨nd, rfl⟩⟩; (try first | exact ⟨rfl, _, World.drewN_drewN _ _ _⟩ | exact ⟨rfl, _, Eq.trans (World.drewN_drewN _ _ _) (congrArg (World.drewN _) (Nat.add_assoc _ _ _))⟩); have hnb26 := NB400_401.out; have hnc26 := NB401_400.out; have hcz27_0 := bv_ BK400.out 0; have hfz27_0 := blk_frozen BK400.out 0) | (go_at_call 93; (with_reducible refine (r1_at.calls _ _ l1_0 x7_1 t403 _ ?side1 ?side2 A21.out).mono ?_); (case side1 => exact cs_ ((Kd.C_below HR1_0.out (hb3_ HB.out GE399.out GE400.out GE401.out)))); (case side2 => exact HC1_0.out); rintro e w' ⟨rfl, ⟨nd, rfl⟩⟩; (try first | exact ⟨rfl, _, World.drewN_drewN _ _ _⟩ | exact ⟨rfl, _, Eq.trans (World.drewN_drewN _ _ _) (congrArg (World.drewN _) (Nat.add_assoc _ _ _))⟩)) | ((with_reducible refine gate_builtin (b := .append) (xs := #[.tmp 35, .tmp 38]) rfl ?_); at_builtin; refine Kd.R_append (Kd.int .u64) (w0 := w) w.heap.size rfl (.tmp 35) (.tmp 38) 30 22 (.int .u64 0) 8 rfl Try.underlying30 info22 rfl (by decide) (by omega) u5 x5_1 (Int.tmod (IntKind.u64.wrap ((IntKind.u64.wrap (t402 + t403)) + x6_1)) 4294967296) [.int .u64 (Int.tmod (IntKind.u64.wrap ((IntKind.u64.wrap (t402 + t403)) + x6_1)) 4294967296)] (fun _ => True) (fun _ => False) rfl rfl ?aP (fun _ hk => hk.elim) ?aF ?aO ?aB ?aS ?aL ?_; (case aP => exact rfl); (case aB => exact (hb3_ HB.out GE399.out GE400.out GE401.out)); (case aF => exact (fun _ _ => trivial)); (case aO => exact (kr_ HO_5.out)); (case aS => exact (below_size (hb3_ HB.out GE399.out GE400.out GE401.out))); (case aL => have := LMc22.out; omega); intro v405 w28 ho hb hg hat; rw [← Ny404.out] at ho; have n0_ := A_ (blk_grown (g := gb399) (o := .cells #[.slice A0_0 l0_0.length c0_0] 63 (0, 0)) (bk_ BK399.out) hg (Kd.R_ne HO_5.out BK399.out (by decide))); have n1_ := A_ (blk_grown (g := gb400) (o := .cells #[.slice A1_0 l1_0.length c1_0] 63 (0, 0)) (bk_ BK400.out) hg (Kd.R_ne HO_5.out BK400.out (by decide))); have n2_ := A_ (blk_grown (g := gb401) (o := .cells #[.slice none 0 0] 63 (0, 0)) (bk_ BK401.out) hg (Kd.R_ne HO_5.out BK401.out (by decide))); have n3_ := A_ (hb); have n4_ := A_ (ho); clear BK399; clear BK400; clear BK401; clear HB; clear HO_5; have BK399 := n0_; have BK400 := n1_; have BK401 := n2_; have HB := n3_; have HO406 := n4_; clear n0_ n1_ n2_ n3_ n4_; clear ho hb hg hat)))
       go_roundg kj5
       case measure => have := HK1.out; have := HJ5.out; omega
       case rel => exact ⟨(y404), (IntKind.u64.wrap (Int.tdiv (IntKind.u64.wrap ((IntKind.u64.wrap (t402 + t403)) + x6_1)) 4294967296)), (wrap64 (x7_1 + 1)), sm_, sm_, H', ⟨by have := HK1.out; have := HJ5.out; omega⟩, ⟨by (with_reducible repeat (first | apply Kd.R_alloc | apply Kd.R_drewN | apply Kd.R_drew)); exact HO406.out⟩, ⟨bk_ BK399.out⟩, ⟨bk_ BK400.out⟩, ⟨bk_ BK401.out⟩, ⟨hb3_ HB.out GE399.out GE400.out GE401.out⟩⟩
      ·rw [if_neg c22] at H
       exact absurd H (by simp)
     ·replace c19 := Bool.eq_false_iff.mpr c19
      subst c19
      have H1 : ((r1_trim.f kj5 x5_1).bind fun t407 => (some t407)) = some r := by rw [if_neg (show ¬ (false = true) by decide)] at H; exact H
      clear H;have H := H1;clear H1
      replace H := ob_ H
      obtain ⟨t407, A290, H⟩ := H
      replace H : (some t407) = some r := H
      have A29 := A_ A290;clear A290
      obtain rfl := Option.some.inj H
      obtain ⟨Ao30, co30, eo30⟩ := Kd.R_slice HO_5.out
      subst eo30
      go_wp2_with (first | (go_at_call 94; (with_reducible refine (r1_trim.calls kj5 (fun k_ => some k_ = (.slice Ao30 x5_1.length co30 : Value).ownBlock) (.slice Ao30 x5_1.length co30) x5_1 t407 w _ ?side1 ?side2 A29.out).mono ?_); (case side1 => exact hb3_ HB.out GE399.out GE400.out GE401.out); (case side2 => exact Kd.R_tight rfl HO_5.out); rintro e w31 ⟨v408, rfl, ho0, hb, hkp⟩; have n0_ := A_ (blk_kept (bk_ BK399.out) hkp (fun hs_ => (fun e_ => (Kd.R_ne HO_5.out BK399.out (by decide)) e_) hs_)); have n1_ := A_ (blk_kept (bk_ BK400.out) hkp (fun hs_ => (fun e_ => (Kd.R_ne HO_5.out BK400.out (by decide)) e_) hs_)); have n2_ := A_ (blk_kept (bk_ BK401.out) hkp (fun hs_ => (fun e_ => (Kd.R_ne HO_5.out BK401.out (by decide)) e_) hs_)); have n3_ := A_ (Kd.R_mono (ok' := fun k_ => True) ho0 (fun k_ hk_ => trivial)); have n4_ := A_ (hb); clear BK399; clear BK400; clear BK401; clear HB; clear HO_5; have BK399 := n0_; have BK400 := n1_; have BK401 := n2_; have HO409 := n3_; have HB := n4_; clear n0_ n1_ n2_ n3_ n4_; (try clear hb); (try clear hkp); (try clear ho0); obtain ⟨Ao32, co32, eo32⟩ := Kd.R_slice HO409.out; subst eo32; have hnb33 := NB401_399.out; have hnc33 := NB399_401.out; have hnb34 := NB401_400.out; have hnc34 := NB400_401.out; have hcz35_0 := bv_ BK401.out 0; have hfz35_0 := blk_frozen BK401.out 0))
      repeat (go_quiet (first | (go_at_call 94; (with_reducible refine (r1_trim.calls kj5 (fun k_ => some k_ = (.slice Ao30 x5_1.length co30 : Value).ownBlock) (.slice Ao30 x5_1.length co30) x5_1 t407 w _ ?side1 ?side2 A29.out).mono ?_); (case side1 => exact hb3_ HB.out GE399.out GE400.out GE401.out); (case side2 => exact Kd.R_tight rfl HO_5.out); rintro e w31 ⟨v408, rfl, ho0, hb, hkp⟩; have n0_ := A_ (blk_kept (bk_ BK399.out) hkp (fun hs_ => (fun e_ => (Kd.R_ne HO_5.out BK399.out (by decide)) e_) hs_)); have n1_ := A_ (blk_kept (bk_ BK400.out) hkp (fun hs_ => (fun e_ => (Kd.R_ne HO_5.out BK400.out (by decide)) e_) hs_)); have n2_ := A_ (blk_kept (bk_ BK401.out) hkp (fun hs_ => (fun e_ => (Kd.R_ne HO_5.out BK401.out (by decide)) e_) hs_)); have n3_ := A_ (Kd.R_mono (ok' := fun k_ => True) ho0 (fun k_ hk_ => trivial)); have n4_ := A_ (hb); clear BK399; clear BK400; clear BK401; clear HB; clear HO_5; have BK399 := n0_; have BK400 := n1_; have BK401 := n2_; have HO409 := n3_; have HB := n4_; clear n0_ n1_ n2_ n3_ n4_; (try clear hb); (try clear hkp); (try clear ho0); obtain ⟨Ao32, co32, eo32⟩ := Kd.R_slice HO409.out; subst eo32; have hnb33 := NB401_399.out; have hnc33 := NB399_401.out; have hnb34 := NB401_400.out; have hnc34 := NB400_401.out; have hcz35_0 := bv_ BK401.out 0; have hfz35_0 := blk_frozen BK401.out 0)); try go_wp2_with (first | (go_at_call 94; (with_reducible refine (r1_trim.calls kj5 (fun k_ => some k_ = (.slice Ao30 x5_1.length co30 : Value).ownBlock) (.slice Ao30 x5_1.length co30) x5_1 t407 w _ ?side1 ?side2 A29.out).mono ?_); (case side1 => exact hb3_ HB.out GE399.out GE400.out GE401.out); (case side2 => exact Kd.R_tight rfl HO_5.out); rintro e w31 ⟨v408, rfl, ho0, hb, hkp⟩; have n0_ := A_ (blk_kept (bk_ BK399.out) hkp (fun hs_ => (fun e_ => (Kd.R_ne HO_5.out BK399.out (by decide)) e_) hs_)); have n1_ := A_ (blk_kept (bk_ BK400.out) hkp (fun hs_ => (fun e_ => (Kd.R_ne HO_5.out BK400.out (by decide)) e_) hs_)); have n2_ := A_ (blk_kept (bk_ BK401.out) hkp (fun hs_ => (fun e_ => (Kd.R_ne HO_5.out BK401.out (by decide)) e_) hs_)); have n3_ := A_ (Kd.R_mono (ok' := fun k_ => True) ho0 (fun k_ hk_ => trivial)); have n4_ := A_ (hb); clear BK399; clear BK400; clear BK401; clear HB; clear HO_5; have BK399 := n0_; have BK400 := n1_; have BK401 := n2_; have HO409 := n3_; have HB := n4_; clear n0_ n1_ n2_ n3_ n4_; (try clear hb); (try clear hkp); (try clear ho0); obtain ⟨Ao32, co32, eo32⟩ := Kd.R_slice HO409.out; subst eo32; have hnb33 := NB401_399.out; have hnc33 := NB399_401.out; have hnb34 := NB401_400.out; have hnc34 := NB400_401.out; have hcz35_0 := bv_ BK401.out 0; have hfz35_0 := blk_frozen BK401.out 0)))
      refine bodyPost_ret (results_cell_row rfl _ _ gb401 63 #[.slice Ao32 t407.length co32] (0, 0) _ rfl (by (with_reducible repeat (first | refine blk_drewN ?_ _ | refine blk_drew ?_ | refine blk_alloc ?_ _)); refine blk_put (cs := #[.slice none 0 0]) ?_ 0 _ rfl; (with_reducible repeat (first | refine blk_drewN ?_ _ | refine blk_drew ?_ | refine blk_alloc ?_ _)); exact BK401.out) Try.underlying63 rfl (by kernel_rfl)) rfl ?_
      exact ⟨_, by first | rfl | (simp [errW_none, errW_some] <;> rfl) | (simp [*, errW_none, errW_some] <;> rfl), by (with_reducible repeat (first | apply Kd.R_alloc | apply Kd.R_drewN | apply Kd.R_drew)); exact Kd.R_mono (Kd.R_far (p := ⟨gb401, 0, none⟩) (Kd.R_types HO409.out BK401.out (by decide)) (fun _ hk => hk.2) (.slice Ao32 t407.length co32)) (fun _ hk => trivial), hb3_ HB.out GE399.out GE400.out GE401.out⟩
def r1_Uint.f (l0_0 : List Int) : Option (Int) := (r1_at.f l0_0 1).bind fun t411 => ((r1_at.f l0_0 0).bind fun t412 => (some (IntKind.u64.wrap ((IntKind.u64.wrap (t411 * 4294967296)) + t412))))
theorem r1_Uint.calls (A0_0 : Option Addr) (c0_0 : Nat) (l0_0 : List Int) (r : Int) (w : World) (hr0_0 : Kd.C (Kd.int .u64) w A0_0 l0_0.length l0_0) (hc0_0 : l0_0.length ≤ c0_0) (h : r1_Uint.f l0_0 = some r) :
  Calls Try.prog 101 #[.agg #[.slice A0_0 l0_0.length c0_0]] w fun e w' => e = .returned (.int .u64 r) ∧ Below w.heap.size w w' := by
 have hu63 := Try.underlying63
 have HR0_0 := A_ hr0_0;have HC0_0 := A_ hc0_0;clear hr0_0 hc0_0
 have HB := A_ (Below.refl w.heap.size w)
 have H : ((r1_at.f l0_0 1).bind fun t411 => ((r1_at.f l0_0 0).bind fun t412 => (some (IntKind.u64.wrap ((IntKind.u64.wrap (t411 * 4294967296)) + t412))))) = some r := h
 clear h
 replace H := ob_ H
 obtain ⟨t411, A20, H⟩ := H
 replace H : ((r1_at.f l0_0 0).bind fun t412 => (some (IntKind.u64.wrap ((IntKind.u64.wrap (t411 * 4294967296)) + t412)))) = some r := H
 have A2 := A_ A20;clear A20
 replace H := ob_ H
 obtain ⟨t412, A30, H⟩ := H
 replace H : (some (IntKind.u64.wrap ((IntKind.u64.wrap (t411 * 4294967296)) + t412))) = some r := H
 have A3 := A_ A30;clear A30
 obtain rfl := Option.some.inj H
 go_enter Try.func101, Try.ntmps101
 go_wp2_with (first | ((with_reducible refine gate_dst (N := 1) rfl ?_); refine be_ 1 #[.slice A0_0 l0_0.length c0_0] 63 ?_; intro gb410 hg w4 hbox hb; have BK410 := A_ (hbox); have GW410 := A_ (sz_ hg (hb_ HB.out)); have GE410 := A_ (sz_ hg (hb_ HB.out)); replace HB := A_ (below_step (hb_ HB.out) hb); clear hb hbox hg; have hcz5_0 := bv_ BK410.out 0; have hfz5_0 := blk_frozen BK410.out 0) | (go_at_call 93; (with_reducible refine (r1_at.calls _ _ l0_0 1 t411 _ ?side1 ?side2 A2.out).mono ?_); (case side1 => exact cs_ ((Kd.C_below HR0_0.out HB.out))); (case side2 => exact HC0_0.out); rintro e w' ⟨rfl, ⟨nd, rfl⟩⟩; (try first | exact ⟨rfl, _, World.drewN_drewN _ _ _⟩ | exact ⟨rfl, _, Eq.trans (World.drewN_drewN _ _ _) (congrArg (World.drewN _) (Nat.add_assoc _ _ _))⟩)) | (go_at_call 93; (with_reducible refine (r1_at.calls _ _ l0_0 0 t412 _ ?side1 ?side2 A3.out).mono ?_); (case side1 => exact cs_ ((Kd.C_below HR0_0.out (hb1_ HB.out GE410.out)))); (case side2 => exact HC0_0.out); rintro e w' ⟨rfl, ⟨nd, rfl⟩⟩; (try first | exact ⟨rfl, _, World.drewN_drewN _ _ _⟩ | exact ⟨rfl, _, Eq.trans (World.drewN_drewN _ _ _) (congrArg (World.drewN _) (Nat.add_assoc _ _ _))⟩)))
 repeat (go_quiet (first | ((with_reducible refine gate_dst (N := 1) rfl ?_); refine be_ 1 #[.slice A0_0 l0_0.length c0_0] 63 ?_; intro gb410 hg w4 hbox hb; have BK410 := A_ (hbox); have GW410 := A_ (sz_ hg (hb_ HB.out)); have GE410 := A_ (sz_ hg (hb_ HB.out)); replace HB := A_ (below_step (hb_ HB.out) hb); clear hb hbox hg; have hcz5_0 := bv_ BK410.out 0; have hfz5_0 := blk_frozen BK410.out 0) | (go_at_call 93; (with_reducible refine (r1_at.calls _ _ l0_0 1 t411 _ ?side1 ?side2 A2.out).mono ?_); (case side1 => exact cs_ ((Kd.C_below HR0_0.out HB.out))); (case side2 => exact HC0_0.out); rintro e w' ⟨rfl, ⟨nd, rfl⟩⟩; (try first | exact ⟨rfl, _, World.drewN_drewN _ _ _⟩ | exact ⟨rfl, _, Eq.trans (World.drewN_drewN _ _ _) (congrArg (World.drewN _) (Nat.add_assoc _ _ _))⟩)) | (go_at_call 93; (with_reducible refine (r1_at.calls _ _ l0_0 0 t412 _ ?side1 ?side2 A3.out).mono ?_); (case side1 => exact cs_ ((Kd.C_below HR0_0.out (hb1_ HB.out GE410.out)))); (case side2 => exact HC0_0.out); rintro e w' ⟨rfl, ⟨nd, rfl⟩⟩; (try first | exact ⟨rfl, _, World.drewN_drewN _ _ _⟩ | exact ⟨rfl, _, Eq.trans (World.drewN_drewN _ _ _) (congrArg (World.drewN _) (Nat.add_assoc _ _ _))⟩))); try go_wp2_with (first | ((with_reducible refine gate_dst (N := 1) rfl ?_); refine be_ 1 #[.slice A0_0 l0_0.length c0_0] 63 ?_; intro gb410 hg w4 hbox hb; have BK410 := A_ (hbox); have GW410 := A_ (sz_ hg (hb_ HB.out)); have GE410 := A_ (sz_ hg (hb_ HB.out)); replace HB := A_ (below_step (hb_ HB.out) hb); clear hb hbox hg; have hcz5_0 := bv_ BK410.out 0; have hfz5_0 := blk_frozen BK410.out 0) | (go_at_call 93; (with_reducible refine (r1_at.calls _ _ l0_0 1 t411 _ ?side1 ?side2 A2.out).mono ?_); (case side1 => exact cs_ ((Kd.C_below HR0_0.out HB.out))); (case side2 => exact HC0_0.out); rintro e w' ⟨rfl, ⟨nd, rfl⟩⟩; (try first | exact ⟨rfl, _, World.drewN_drewN _ _ _⟩ | exact ⟨rfl, _, Eq.trans (World.drewN_drewN _ _ _) (congrArg (World.drewN _) (Nat.add_assoc _ _ _))⟩)) | (go_at_call 93; (with_reducible refine (r1_at.calls _ _ l0_0 0 t412 _ ?side1 ?side2 A3.out).mono ?_); (case side1 => exact cs_ ((Kd.C_below HR0_0.out (hb1_ HB.out GE410.out)))); (case side2 => exact HC0_0.out); rintro e w' ⟨rfl, ⟨nd, rfl⟩⟩; (try first | exact ⟨rfl, _, World.drewN_drewN _ _ _⟩ | exact ⟨rfl, _, Eq.trans (World.drewN_drewN _ _ _) (congrArg (World.drewN _) (Nat.add_assoc _ _ _))⟩))))
 go_ret
 exact ⟨er_, hb1_ HB.out GE410.out⟩
def r1_Of.f (k : Nat) (a0 : Int) : Option (List Int) := (r1_trim.f k (([Int.tmod a0 4294967296, IntKind.u64.wrap (Int.tdiv a0 4294967296)] : List Int))).bind fun t362 => (some t362)
theorem r1_Of.mono : ∀ a0 k, LeO (r1_Of.f k a0) (r1_Of.f (k + 1) a0) := by
 intro a0 k
 unfold r1_Of.f
 repeat' first
   | (with_reducible exact r1_trim.mono _ _)
   | (with_reducible exact LeO.refl _)
   | (with_reducible exact LeO.none _)
   | (with_reducible refine LeO.ite ?_ ?_)
   | (with_reducible refine LeO.bind ?_ (fun _ => ?_))
   | exact r1_trim.mono _ _
   | exact LeO.none _
   | refine LeO.ite ?_ ?_
   | refine LeO.bind ?_ (fun _ => ?_)
theorem r1_Of.calls (k : Nat) (a0 : Int) (r : List Int) (w : World) (h : r1_Of.f k a0 = some r) :
  Calls Try.prog 62 #[.int .u64 a0] w fun e w' => ∃ v0_ : Value, e = .returned (.agg #[v0_]) ∧ Kd.R (Kd.int .u64) 22 w' w.heap.size (fun _ => True) v0_ r ∧ Below w.heap.size w w' := by
 have hu63 := Try.underlying63
 have HB := A_ (Below.refl w.heap.size w)
 have H : ((r1_trim.f k (([Int.tmod a0 4294967296, IntKind.u64.wrap (Int.tdiv a0 4294967296)] : List Int))).bind fun t362 => (some t362)) = some r := h
 clear h
 obtain ⟨y359, hy359⟩ : ∃ y_ : List Int, y_ = (([Int.tmod a0 4294967296, IntKind.u64.wrap (Int.tdiv a0 4294967296)] : List Int)) := ⟨_, rfl⟩
 replace H : ((r1_trim.f k y359).bind fun t362 => (some t362)) = some r := by first | (rw [hy359]; with_reducible exact H) | (have H2_ := (Option.bind_some _ _).symm.trans H; rw [hy359]; with_reducible exact H2_) | (have H2_ := (Option.bind_some _ _).symm.trans H; with_reducible exact H2_) | with_reducible exact H | (rw [hy359]; exact H) | exact H
 have Ny359 := A_ hy359;clear hy359
 replace H := ob_ H
 obtain ⟨t362, A20, H⟩ := H
 replace H : (some t362) = some r := H
 have A2 := A_ A20;clear A20
 obtain rfl := Option.some.inj H
 go_enter Try.func62, Try.ntmps62
 go_wp2_with (first | ((with_reducible refine gate_dst (N := 2) rfl ?_); refine be_ 2 #[.slice none 0 0] 63 ?_; intro gb358 hg w3 hbox hb; have BK358 := A_ (hbox); have GW358 := A_ (sz_ hg (hb_ HB.out)); have GE358 := A_ (sz_ hg (hb_ HB.out)); replace HB := A_ (below_step (hb_ HB.out) hb); clear hb hbox hg) | ((with_reducible refine gate_dst (N := 7) rfl ?_); refine Kd.R_lit (Kd.int .u64) _ 22 ?hg (N := 7) ?hd (xs := ([Int.tmod a0 4294967296, IntKind.u64.wrap (Int.tdiv a0 4294967296)] : List Int)) (inner := [.int .u64 (Int.tmod a0 4294967296), .int .u64 (IntKind.u64.wrap (Int.tdiv a0 4294967296))]) (ok := fun _ => True) (okp := fun _ => True) ?hr ?hp (fun _ hk => hk) trivial (Below.refl _ _) (Nat.le_refl _) (by simp) ?_; (case hd => rfl); (case hg => rfl); (case hr => first | (go_simp; done) | (go_simp; rfl)); (case hp => exact (Reps.one (show Kd.M (Kd.int .u64) _ _ _ (Int.tmod a0 4294967296) [.int .u64 (Int.tmod a0 4294967296)] from rfl) (Reps.one (show Kd.M (Kd.int .u64) _ _ _ (IntKind.u64.wrap (Int.tdiv a0 4294967296)) [.int .u64 (IntKind.u64.wrap (Int.tdiv a0 4294967296))] from rfl) (Reps.none _ _)))); intro v360 w4 ho5 hb hg_ hnew_; clear hg_ hnew_; (first | rw [← Ny359.out] at ho5 | (simp only [Int.reduceToNat] at ho5; rw [← Ny359.out] at ho5)); have HO361 := A_ (Kd.R_lower ho5 (below_size (hb1_ HB.out GE358.out))); replace BK358 := A_ (bb_ BK358.out hb); replace HB := A_ (below_step (hb1_ HB.out GE358.out) hb); clear hb ho5; obtain ⟨Ao6, co6, eo6⟩ := Kd.R_slice HO361.out; subst eo6) | ((with_reducible refine gate_callee (f := 94) rfl ?_); refine gl_ (some 8) Try.func94 #[.slice Ao6 y359.length co6] ?_; (with_reducible refine (r1_trim.calls k (fun k_ => some k_ = (.slice Ao6 y359.length co6 : Value).ownBlock) (.slice Ao6 y359.length co6) y359 t362 w _ ?side1 ?side2 A2.out).mono ?_); (case side1 => exact hb1_ HB.out GE358.out); (case side2 => exact Kd.R_tight rfl HO361.out); rintro e w7 ⟨v363, rfl, ho0, hb, hkp⟩; refine ⟨_, rfl, ?_⟩; have n0_ := A_ (blk_kept (bk_ BK358.out) hkp (fun hs_ => (fun e_ => (Kd.R_ne HO361.out BK358.out (by decide)) e_) hs_)); have n1_ := A_ (Kd.R_mono (ok' := fun k_ => True) ho0 (fun k_ hk_ => trivial)); have n2_ := A_ (hb); clear BK358; clear HB; clear HO361; have BK358 := n0_; have HO364 := n1_; have HB := n2_; clear n0_ n1_ n2_; (try clear hb); (try clear hkp); (try clear ho0); obtain ⟨Ao8, co8, eo8⟩ := Kd.R_slice HO364.out; subst eo8; have hcz9_0 := bv_ BK358.out 0; have hfz9_0 := blk_frozen BK358.out 0))
 refine bodyPost_ret (results_cell_row rfl _ _ gb358 63 #[.slice Ao8 t362.length co8] (0, 0) _ rfl (by (with_reducible repeat (first | refine blk_drewN ?_ _ | refine blk_drew ?_ | refine blk_alloc ?_ _)); refine blk_put (cs := #[.slice none 0 0]) ?_ 0 _ rfl; (with_reducible repeat (first | refine blk_drewN ?_ _ | refine blk_drew ?_ | refine blk_alloc ?_ _)); exact BK358.out) Try.underlying63 rfl (by kernel_rfl)) rfl ?_
 exact ⟨_, by first | rfl | (simp [errW_none, errW_some] <;> rfl) | (simp [*, errW_none, errW_some] <;> rfl), by (with_reducible repeat (first | apply Kd.R_alloc | apply Kd.R_drewN | apply Kd.R_drew)); exact Kd.R_mono (Kd.R_far (p := ⟨gb358, 0, none⟩) (Kd.R_types HO364.out BK358.out (by decide)) (fun _ hk => hk.2) (.slice Ao8 t362.length co8)) (fun _ hk => trivial), hb1_ HB.out GE358.out⟩
mutual
def r1_Shl.l0 : Nat → Int → List Int → Int → List Int → Option (List Int)
 | 0, _, _, _, _ => none
 | k + 1, x1, x5, x6, x370000 => if x6 < (wrap64 (Int.tdiv x1 32)) then (if x5.length < 17592186044416 then (r1_Shl.l0 k x1 (x5 ++ [0]) (wrap64 (x6 + 1)) x370000) else (none)) else (r1_Shl.l1 k x1 x5 1 0 x370000)
def r1_Shl.l1 : Nat → Int → List Int → Int → Int → List Int → Option (List Int)
 | 0, _, _, _, _, _ => none
 | k + 1, x1, x5, x7, x8, x370000 => if x8 < (Int.tmod x1 32) then (r1_Shl.l1 k x1 x5 (IntKind.u64.wrap (2 * x7)) (wrap64 (x8 + 1)) x370000) else (r1_Shl.l2 k x5 x7 0 0 x370000)
def r1_Shl.l2 : Nat → List Int → Int → Int → Int → List Int → Option (List Int)
 | 0, _, _, _, _, _ => none
 | k + 1, x5, x7, x9, x10, x370000 => if x10 < (x370000.length : Int) then (if 0 ≤ x10 then (if x5.length < 17592186044416 then (r1_Shl.l2 k (x5 ++ [Int.tmod (IntKind.u64.wrap ((IntKind.u64.wrap ((rd x370000 x10) * x7)) + x9)) 4294967296]) x7 (IntKind.u64.wrap (Int.tdiv (IntKind.u64.wrap ((IntKind.u64.wrap ((rd x370000 x10) * x7)) + x9)) 4294967296)) (wrap64 (x10 + 1)) x370000) else (none)) else (none)) else (if x5.length < 17592186044416 then ((r1_trim.f k (x5 ++ [x9])).bind fun t381 => (some t381)) else (none))
end
def r1_Shl.f (k : Nat) (l0_0 : List Int) (a1 : Int) : Option (List Int) := r1_Shl.l0 k a1 ([] : List Int) 0 l0_0
theorem r1_Shl.mono_l : ∀ k, (∀ y0 y1 y2 y3, LeO (r1_Shl.l0 k y0 y1 y2 y3) (r1_Shl.l0 (k + 1) y0 y1 y2 y3)) ∧ (∀ y0 y1 y2 y3 y4, LeO (r1_Shl.l1 k y0 y1 y2 y3 y4) (r1_Shl.l1 (k + 1) y0 y1 y2 y3 y4)) ∧ (∀ y0 y1 y2 y3 y4, LeO (r1_Shl.l2 k y0 y1 y2 y3 y4) (r1_Shl.l2 (k + 1) y0 y1 y2 y3 y4))
 | 0 => ⟨fun _ _ _ _ r h => by simp [r1_Shl.l0] at h, fun _ _ _ _ _ r h => by simp [r1_Shl.l1] at h, fun _ _ _ _ _ r h => by simp [r1_Shl.l2] at h⟩
 | k + 1 => by
  obtain ⟨ih0, ih1, ih2⟩ := r1_Shl.mono_l k
  refine ⟨?_, ?_, ?_⟩
  ·intro y0 y1 y2 y3
   unfold r1_Shl.l0
   repeat' first
   | (with_reducible exact ih0 _ _ _ _)
   | (with_reducible exact ih1 _ _ _ _ _)
   | (with_reducible exact ih2 _ _ _ _ _)
   | (with_reducible exact r1_trim.mono _ _)
   | (with_reducible exact LeO.refl _)
   | (with_reducible exact LeO.none _)
   | (with_reducible refine LeO.ite ?_ ?_)
   | (with_reducible refine LeO.bind ?_ (fun _ => ?_))
   | exact ih0 _ _ _ _
   | exact ih1 _ _ _ _ _
   | exact ih2 _ _ _ _ _
   | exact r1_trim.mono _ _
   | exact LeO.none _
   | refine LeO.ite ?_ ?_
   | refine LeO.bind ?_ (fun _ => ?_)
  ·intro y0 y1 y2 y3 y4
   unfold r1_Shl.l1
   repeat' first
   | (with_reducible exact ih0 _ _ _ _)
   | (with_reducible exact ih1 _ _ _ _ _)
   | (with_reducible exact ih2 _ _ _ _ _)
   | (with_reducible exact r1_trim.mono _ _)
   | (with_reducible exact LeO.refl _)
   | (with_reducible exact LeO.none _)
   | (with_reducible refine LeO.ite ?_ ?_)
   | (with_reducible refine LeO.bind ?_ (fun _ => ?_))
   | exact ih0 _ _ _ _
   | exact ih1 _ _ _ _ _
   | exact ih2 _ _ _ _ _
   | exact r1_trim.mono _ _
   | exact LeO.none _
   | refine LeO.ite ?_ ?_
   | refine LeO.bind ?_ (fun _ => ?_)
  ·intro y0 y1 y2 y3 y4
   unfold r1_Shl.l2
   repeat' first
   | (with_reducible exact ih0 _ _ _ _)
   | (with_reducible exact ih1 _ _ _ _ _)
   | (with_reducible exact ih2 _ _ _ _ _)
   | (with_reducible exact r1_trim.mono _ _)
   | (with_reducible exact LeO.refl _)
   | (with_reducible exact LeO.none _)
   | (with_reducible refine LeO.ite ?_ ?_)
   | (with_reducible refine LeO.bind ?_ (fun _ => ?_))
   | exact ih0 _ _ _ _
   | exact ih1 _ _ _ _ _
   | exact ih2 _ _ _ _ _
   | exact r1_trim.mono _ _
   | exact LeO.none _
   | refine LeO.ite ?_ ?_
   | refine LeO.bind ?_ (fun _ => ?_)
theorem r1_Shl.mono : ∀ a0 a1 k, LeO (r1_Shl.f k a0 a1) (r1_Shl.f (k + 1) a0 a1) := by
 intro a0 a1 k
 obtain ⟨ih0, ih1, ih2⟩ := r1_Shl.mono_l k
 unfold r1_Shl.f
 repeat' first
   | (with_reducible exact ih0 _ _ _ _)
   | (with_reducible exact ih1 _ _ _ _ _)
   | (with_reducible exact ih2 _ _ _ _ _)
   | (with_reducible exact r1_trim.mono _ _)
   | (with_reducible exact LeO.refl _)
   | (with_reducible exact LeO.none _)
   | (with_reducible refine LeO.ite ?_ ?_)
   | (with_reducible refine LeO.bind ?_ (fun _ => ?_))
   | exact ih0 _ _ _ _
   | exact ih1 _ _ _ _ _
   | exact ih2 _ _ _ _ _
   | exact r1_trim.mono _ _
   | exact LeO.none _
   | refine LeO.ite ?_ ?_
   | refine LeO.bind ?_ (fun _ => ?_)
theorem r1_Shl.calls (k : Nat) (A0_0 : Option Addr) (c0_0 : Nat) (l0_0 : List Int) (a1 : Int) (r : List Int) (w : World) (hr0_0 : Kd.C (Kd.int .u64) w A0_0 l0_0.length l0_0) (hc0_0 : l0_0.length ≤ c0_0) (h : r1_Shl.f k l0_0 a1 = some r) :
  Calls Try.prog 78 #[.agg #[.slice A0_0 l0_0.length c0_0], .int .i64 a1] w fun e w' => ∃ v0_ : Value, e = .returned (.agg #[v0_]) ∧ Kd.R (Kd.int .u64) 22 w' w.heap.size (fun _ => True) v0_ r ∧ Below w.heap.size w w' := by
 have hu63 := Try.underlying63
 have HR0_0 := A_ hr0_0;have HC0_0 := A_ hc0_0;clear hr0_0 hc0_0
 have HB := A_ (Below.refl w.heap.size w)
 have H : (r1_Shl.l0 k a1 ([] : List Int) 0 l0_0) = some r := h
 clear h
 have H' := A_ H
 clear H
 go_enter Try.func78, Try.ntmps78
 go_wp2_with (first | ((with_reducible refine gate_dst (N := 2) rfl ?_); refine be_ 2 #[.slice A0_0 l0_0.length c0_0] 63 ?_; intro gb369 hg w3 hbox hb; have BK369 := A_ (hbox); have GW369 := A_ (sz_ hg (hb_ HB.out)); have GE369 := A_ (sz_ hg (hb_ HB.out)); replace HB := A_ (below_step (hb_ HB.out) hb); clear hb hbox hg) | ((with_reducible refine gate_dst (N := 4) rfl ?_); refine be_ 4 #[.slice none 0 0] 63 ?_; intro gb370 hg w4 hbox hb; have BK370 := A_ (hbox); have GW370 := A_ (sz_ hg (hb1_ HB.out GE369.out)); have GE370 := A_ (sz_ hg (hb1_ HB.out GE369.out)); have NB369_370 := A_ (nl_ hg BK369.out); have NB370_369 := A_ (ng_ hg BK369.out); replace BK369 := A_ (bb_ BK369.out hb); replace HB := A_ (below_step (hb1_ HB.out GE369.out) hb); clear hb hbox hg))
 go_loopg [5, 6] k (fun kq v5 v6 w' => ∃ (x5_1 : List Int) (x6_1 : Int), v6 = .int .i64 x6_1 ∧ Aside0 (r1_Shl.l0 kq a1 x5_1 x6_1 l0_0 = some r) ∧ Aside0 (kq ≤ k) ∧ Aside0 (Kd.R (Kd.int .u64) 22 w' w.heap.size (fun _ => True) v5 x5_1) ∧ Aside0 (w'.heap[gb369]? = some (.cells #[(.slice A0_0 l0_0.length c0_0)] 63 (0, 0))) ∧ Aside0 (w'.heap[gb370]? = some (.cells #[(.slice none 0 0)] 63 (0, 0))) ∧ Aside0 (Below w.heap.size w w'))
 case atStart => exact ⟨(([] : List Int)), (0), sm_, H', ⟨Nat.le_refl _⟩, ⟨by first | exact Kd.R_nil _ _ _ _ _ | exact Kd.N_nil _ _ _ _ _ | exact Kd.V_nil _ _ _ _ _ | exact Kd.Q_nil _ _ _ _ _ | exact Kd.S_nil _ _ _ _ _⟩, ⟨bk_ BK369.out⟩, ⟨bk_ BK370.out⟩, ⟨hb2_ HB.out GE369.out GE370.out⟩⟩
 case round =>
  clear H'
  try clear p2
  obtain ⟨x5_1, x6_1, rfl, HA, HK1, HO_5, BK369, BK370, HB⟩ := hrel
  cases gk with
  | zero => exact absurd HA.out (by simp [r1_Shl.l0])
  | succ k1 =>
   have H := HA.out
   clear HA
   simp only [r1_Shl.l0] at H
   by_cases c5 : x6_1 < (wrap64 (Int.tdiv a1 32))
   ·rw [if_pos c5] at H
    have c5b0 : decide (x6_1 < (wrap64 (Int.tdiv a1 32))) = true := decide_eq_true c5
    clear c5
    by_cases c6 : x5_1.length < 17592186044416
    ·rw [if_pos c6] at H
     have LMc6 := A_ c6;clear c6
     obtain ⟨y371, hy371⟩ : ∃ y_ : List Int, y_ = (x5_1 ++ [0]) := ⟨_, rfl⟩
     replace H : (r1_Shl.l0 k1 a1 y371 (wrap64 (x6_1 + 1)) l0_0) = some r := by first | (rw [hy371]; with_reducible exact H) | (have H2_ := (Option.bind_some _ _).symm.trans H; rw [hy371]; with_reducible exact H2_) | (have H2_ := (Option.bind_some _ _).symm.trans H; with_reducible exact H2_) | with_reducible exact H | (rw [hy371]; exact H) | exact H
     have Ny371 := A_ hy371;clear hy371
     have H' := A_ H
     clear H
     go_wp2_with (first | ((with_reducible refine gate_builtin (b := .append) (xs := #[.tmp 18, .tmp 19]) rfl ?_); at_builtin; refine Kd.R_append (Kd.int .u64) (w0 := w) w.heap.size rfl (.tmp 18) (.tmp 19) 30 22 (.int .u64 0) 8 rfl Try.underlying30 info22 rfl (by decide) (by omega) u5 x5_1 0 [.int .u64 0] (fun _ => True) (fun _ => False) rfl rfl ?aP (fun _ hk => hk.elim) ?aF ?aO ?aB ?aS ?aL ?_; (case aP => exact rfl); (case aB => exact (hb2_ HB.out GE369.out GE370.out)); (case aF => exact (fun _ _ => trivial)); (case aO => exact (kr_ HO_5.out)); (case aS => exact (below_size (hb2_ HB.out GE369.out GE370.out))); (case aL => have := LMc6.out; omega); intro v372 w7 ho hb hg hat; rw [← Ny371.out] at ho; have n0_ := A_ (blk_grown (g := gb369) (o := .cells #[.slice A0_0 l0_0.length c0_0] 63 (0, 0)) (bk_ BK369.out) hg (Kd.R_ne HO_5.out BK369.out (by decide))); have n1_ := A_ (blk_grown (g := gb370) (o := .cells #[.slice none 0 0] 63 (0, 0)) (bk_ BK370.out) hg (Kd.R_ne HO_5.out BK370.out (by decide))); have n2_ := A_ (hb); have n3_ := A_ (ho); clear BK369; clear BK370; clear HB; clear HO_5; have BK369 := n0_; have BK370 := n1_; have HB := n2_; have HO373 := n3_; clear n0_ n1_ n2_ n3_; clear ho hb hg hat))
     go_roundg k1
     case measure => have := HK1.out; omega
     case rel => exact ⟨(y371), (wrap64 (x6_1 + 1)), sm_, H', ⟨by have := HK1.out; omega⟩, ⟨by (with_reducible repeat (first | apply Kd.R_alloc | apply Kd.R_drewN | apply Kd.R_drew)); exact HO373.out⟩, ⟨bk_ BK369.out⟩, ⟨bk_ BK370.out⟩, ⟨hb2_ HB.out GE369.out GE370.out⟩⟩
    ·rw [if_neg c6] at H
     exact absurd H (by simp)
   ·rw [if_neg c5] at H
    have c5b0 : decide (x6_1 < (wrap64 (Int.tdiv a1 32))) = false := decide_eq_false c5
    clear c5
    have H' := A_ H
    clear H
    go_wp2
    go_loopg [7, 8] k1 (fun kq v7 v8 w' => ∃ (x7_2 : Int) (x8_2 : Int), v7 = .int .u64 x7_2 ∧ v8 = .int .i64 x8_2 ∧ Aside0 (r1_Shl.l1 kq a1 x5_1 x7_2 x8_2 l0_0 = some r) ∧ Aside0 (kq ≤ k1) ∧ Aside0 (Kd.R (Kd.int .u64) 22 w' w.heap.size (fun _ => True) u5 x5_1) ∧ Aside0 (w'.heap[gb369]? = some (.cells #[(.slice A0_0 l0_0.length c0_0)] 63 (0, 0))) ∧ Aside0 (w'.heap[gb370]? = some (.cells #[(.slice none 0 0)] 63 (0, 0))) ∧ Aside0 (Below w.heap.size w w'))
    case atStart => exact ⟨(1), (0), sm_, sm_, H', ⟨Nat.le_refl _⟩, ⟨by (with_reducible repeat (first | apply Kd.R_alloc | apply Kd.R_drewN | apply Kd.R_drew)); exact HO_5.out⟩, ⟨bk_ BK369.out⟩, ⟨bk_ BK370.out⟩, ⟨hb2_ HB.out GE369.out GE370.out⟩⟩
    case round =>
     clear H'
     try clear p2
     try clear c5
     try clear c5b0
     try clear c6
     try clear p6
     try clear c7
     try clear p2
     obtain ⟨x7_2, x8_2, rfl, rfl, HA, HK2, HO_5, BK369, BK370, HB⟩ := hrel
     cases gk with
     | zero => exact absurd HA.out (by simp [r1_Shl.l1])
     | succ k2 =>
      have H := HA.out
      clear HA
      simp only [r1_Shl.l1] at H
      by_cases c8 : x8_2 < (Int.tmod a1 32)
      ·rw [if_pos c8] at H
       have c8b0 : decide (x8_2 < (Int.tmod a1 32)) = true := decide_eq_true c8
       clear c8
       have H' := A_ H
       clear H
       go_wp2
       go_roundg k2
       case measure => have := HK1.out; have := HK2.out; omega
       case rel => exact ⟨(IntKind.u64.wrap (2 * x7_2)), (wrap64 (x8_2 + 1)), sm_, sm_, H', ⟨by have := HK1.out; have := HK2.out; omega⟩, ⟨by (with_reducible repeat (first | apply Kd.R_alloc | apply Kd.R_drewN | apply Kd.R_drew)); exact HO_5.out⟩, ⟨bk_ BK369.out⟩, ⟨bk_ BK370.out⟩, ⟨hb2_ HB.out GE369.out GE370.out⟩⟩
      ·rw [if_neg c8] at H
       have c8b0 : decide (x8_2 < (Int.tmod a1 32)) = false := decide_eq_false c8
       clear c8
       have H' := A_ H
       clear H
       go_wp2
       go_loopg [5, 9, 10] k2 (fun kq v5 v9 v10 w' => ∃ (x5_3 : List Int) (x9_3 : Int) (x10_3 : Int), v9 = .int .u64 x9_3 ∧ v10 = .int .i64 x10_3 ∧ Aside0 (r1_Shl.l2 kq x5_3 x7_2 x9_3 x10_3 l0_0 = some r) ∧ Aside0 (kq ≤ k2) ∧ Aside0 (Kd.R (Kd.int .u64) 22 w' w.heap.size (fun _ => True) v5 x5_3) ∧ Aside0 (w'.heap[gb369]? = some (.cells #[(.slice A0_0 l0_0.length c0_0)] 63 (0, 0))) ∧ Aside0 (w'.heap[gb370]? = some (.cells #[(.slice none 0 0)] 63 (0, 0))) ∧ Aside0 (Below w.heap.size w w'))
       case atStart => exact ⟨(x5_1), (0), (0), sm_, sm_, H', ⟨Nat.le_refl _⟩, ⟨by (with_reducible repeat (first | apply Kd.R_alloc | apply Kd.R_drewN | apply Kd.R_drew)); exact HO_5.out⟩, ⟨bk_ BK369.out⟩, ⟨bk_ BK370.out⟩, ⟨hb2_ HB.out GE369.out GE370.out⟩⟩
       case round =>
        clear H'
        try clear p2
        try clear c5
        try clear c5b0
        try clear c6
        try clear p6
        try clear c7
        try clear c8
        try clear c8b0
        try clear p2
        try clear p6
        obtain ⟨x5_3, x9_3, x10_3, rfl, rfl, HA, HK3, HO_5, BK369, BK370, HB⟩ := hrel
        cases gk with
        | zero => exact absurd HA.out (by simp [r1_Shl.l2])
        | succ k3 =>
         have H := HA.out
         clear HA
         simp only [r1_Shl.l2] at H
         by_cases c9 : x10_3 < (l0_0.length : Int)
         ·rw [if_pos c9] at H
          have c9b0 : decide (x10_3 < (l0_0.length : Int)) = true := decide_eq_true c9
          clear c9
          by_cases c10 : 0 ≤ x10_3
          ·rw [if_pos c10] at H
           have c10b0 : decide (0 ≤ x10_3) = true := decide_eq_true c10
           clear c10
           by_cases c11 : x5_3.length < 17592186044416
           ·rw [if_pos c11] at H
            have LMc11 := A_ c11;clear c11
            obtain ⟨y375, hy375⟩ : ∃ y_ : List Int, y_ = (x5_3 ++ [Int.tmod (IntKind.u64.wrap ((IntKind.u64.wrap ((rd l0_0 x10_3) * x7_2)) + x9_3)) 4294967296]) := ⟨_, rfl⟩
            replace H : (r1_Shl.l2 k3 y375 x7_2 (IntKind.u64.wrap (Int.tdiv (IntKind.u64.wrap ((IntKind.u64.wrap ((rd l0_0 x10_3) * x7_2)) + x9_3)) 4294967296)) (wrap64 (x10_3 + 1)) l0_0) = some r := by first | (rw [hy375]; with_reducible exact H) | (have H2_ := (Option.bind_some _ _).symm.trans H; rw [hy375]; with_reducible exact H2_) | (have H2_ := (Option.bind_some _ _).symm.trans H; with_reducible exact H2_) | with_reducible exact H | (rw [hy375]; exact H) | exact H
            have Ny375 := A_ hy375;clear hy375
            have H' := A_ H
            clear H
            have hnb12 := NB369_370.out
            have hnc12 := NB370_369.out
            have hcz13_0 := bv_ BK369.out 0
            have hfz13_0 := blk_frozen BK369.out 0
            have p374 : 0 ≤ (x10_3 : Int) := of_decide_eq_true (by first | (with_reducible assumption) | assumption)
            have q374 : x10_3 < (l0_0.length : Int) := of_decide_eq_true (by first | (with_reducible assumption) | assumption)
            obtain ⟨ad374, e374, hx374_0⟩ := Kd.at_int HR0_0.out x10_3 p374 q374
            cases e374
            replace hx374_0 := (HB.out.cell (World.block_lt_of_cell? w _ hx374_0)).trans hx374_0
            replace p374 := eq_true p374
            replace q374 := eq_true q374
            go_wp2_with (first | ((with_reducible refine gate_builtin (b := .append) (xs := #[.tmp 45, .tmp 48]) rfl ?_); at_builtin; refine Kd.R_append (Kd.int .u64) (w0 := w) w.heap.size rfl (.tmp 45) (.tmp 48) 30 22 (.int .u64 0) 8 rfl Try.underlying30 info22 rfl (by decide) (by omega) u5 x5_3 (Int.tmod (IntKind.u64.wrap ((IntKind.u64.wrap ((rd l0_0 x10_3) * x7_2)) + x9_3)) 4294967296) [.int .u64 (Int.tmod (IntKind.u64.wrap ((IntKind.u64.wrap ((rd l0_0 x10_3) * x7_2)) + x9_3)) 4294967296)] (fun _ => True) (fun _ => False) rfl rfl ?aP (fun _ hk => hk.elim) ?aF ?aO ?aB ?aS ?aL ?_; (case aP => exact rfl); (case aB => exact (hb2_ HB.out GE369.out GE370.out)); (case aF => exact (fun _ _ => trivial)); (case aO => exact (kr_ HO_5.out)); (case aS => exact (below_size (hb2_ HB.out GE369.out GE370.out))); (case aL => have := LMc11.out; omega); intro v376 w14 ho hb hg hat; rw [← Ny375.out] at ho; have n0_ := A_ (blk_grown (g := gb369) (o := .cells #[.slice (some ad374) l0_0.length c0_0] 63 (0, 0)) (bk_ BK369.out) hg (Kd.R_ne HO_5.out BK369.out (by decide))); have n1_ := A_ (blk_grown (g := gb370) (o := .cells #[.slice none 0 0] 63 (0, 0)) (bk_ BK370.out) hg (Kd.R_ne HO_5.out BK370.out (by decide))); have n2_ := A_ (hb); have n3_ := A_ (ho); clear BK369; clear BK370; clear HB; clear HO_5; have BK369 := n0_; have BK370 := n1_; have HB := n2_; have HO377 := n3_; clear n0_ n1_ n2_ n3_; clear ho hb hg hat))
            go_roundg k3
            case measure => have := HK1.out; have := HK2.out; have := HK3.out; omega
            case rel => exact ⟨(y375), (IntKind.u64.wrap (Int.tdiv (IntKind.u64.wrap ((IntKind.u64.wrap ((rd l0_0 x10_3) * x7_2)) + x9_3)) 4294967296)), (wrap64 (x10_3 + 1)), sm_, sm_, H', ⟨by have := HK1.out; have := HK2.out; have := HK3.out; omega⟩, ⟨by (with_reducible repeat (first | apply Kd.R_alloc | apply Kd.R_drewN | apply Kd.R_drew)); exact HO377.out⟩, ⟨bk_ BK369.out⟩, ⟨bk_ BK370.out⟩, ⟨hb2_ HB.out GE369.out GE370.out⟩⟩
           ·rw [if_neg c11] at H
            exact absurd H (by simp)
          ·rw [if_neg c10] at H
           exact absurd H (by simp)
         ·rw [if_neg c9] at H
          have c9b0 : decide (x10_3 < (l0_0.length : Int)) = false := decide_eq_false c9
          clear c9
          by_cases c15 : x5_3.length < 17592186044416
          ·rw [if_pos c15] at H
           have LMc15 := A_ c15;clear c15
           obtain ⟨y378, hy378⟩ : ∃ y_ : List Int, y_ = (x5_3 ++ [x9_3]) := ⟨_, rfl⟩
           replace H : ((r1_trim.f k3 y378).bind fun t381 => (some t381)) = some r := by first | (rw [hy378]; with_reducible exact H) | (have H2_ := (Option.bind_some _ _).symm.trans H; rw [hy378]; with_reducible exact H2_) | (have H2_ := (Option.bind_some _ _).symm.trans H; with_reducible exact H2_) | with_reducible exact H | (rw [hy378]; exact H) | exact H
           have Ny378 := A_ hy378;clear hy378
           replace H := ob_ H
           obtain ⟨t381, A160, H⟩ := H
           replace H : (some t381) = some r := H
           have A16 := A_ A160;clear A160
           obtain rfl := Option.some.inj H
           have hnb17 := NB369_370.out
           have hnc17 := NB370_369.out
           have hcz18_0 := bv_ BK369.out 0
           have hfz18_0 := blk_frozen BK369.out 0
           go_wp2_with (first | ((with_reducible refine gate_builtin (b := .append) (xs := #[.tmp 52, .tmp 54]) rfl ?_); at_builtin; refine Kd.R_append (Kd.int .u64) (w0 := w) w.heap.size rfl (.tmp 52) (.tmp 54) 30 22 (.int .u64 0) 8 rfl Try.underlying30 info22 rfl (by decide) (by omega) u5 x5_3 x9_3 [.int .u64 x9_3] (fun _ => True) (fun _ => False) rfl rfl ?aP (fun _ hk => hk.elim) ?aF ?aO ?aB ?aS ?aL ?_; (case aP => exact rfl); (case aB => exact (hb2_ HB.out GE369.out GE370.out)); (case aF => exact (fun _ _ => trivial)); (case aO => exact (kr_ HO_5.out)); (case aS => exact (below_size (hb2_ HB.out GE369.out GE370.out))); (case aL => have := LMc15.out; omega); intro v379 w19 ho hb hg hat; rw [← Ny378.out] at ho; have n0_ := A_ (blk_grown (g := gb369) (o := .cells #[.slice A0_0 l0_0.length c0_0] 63 (0, 0)) (bk_ BK369.out) hg (Kd.R_ne HO_5.out BK369.out (by decide))); have n1_ := A_ (blk_grown (g := gb370) (o := .cells #[.slice none 0 0] 63 (0, 0)) (bk_ BK370.out) hg (Kd.R_ne HO_5.out BK370.out (by decide))); have n2_ := A_ (hb); have n3_ := A_ (ho); clear BK369; clear BK370; clear HB; clear HO_5; have BK369 := n0_; have BK370 := n1_; have HB := n2_; have HO380 := n3_; clear n0_ n1_ n2_ n3_; clear ho hb hg hat; obtain ⟨Ao20, co20, eo20⟩ := Kd.R_slice HO380.out; subst eo20) | ((with_reducible refine gate_callee (f := 94) rfl ?_); refine gl_ (some 56) Try.func94 #[.slice Ao20 y378.length co20] ?_; (with_reducible refine (r1_trim.calls k3 (fun k_ => some k_ = (.slice Ao20 y378.length co20 : Value).ownBlock) (.slice Ao20 y378.length co20) y378 t381 w _ ?side1 ?side2 A16.out).mono ?_); (case side1 => exact hb2_ HB.out GE369.out GE370.out); (case side2 => exact Kd.R_tight rfl HO380.out); rintro e w21 ⟨v382, rfl, ho0, hb, hkp⟩; refine ⟨_, rfl, ?_⟩; have n0_ := A_ (blk_kept (bk_ BK369.out) hkp (fun hs_ => (fun e_ => (Kd.R_ne HO380.out BK369.out (by decide)) e_) hs_)); have n1_ := A_ (blk_kept (bk_ BK370.out) hkp (fun hs_ => (fun e_ => (Kd.R_ne HO380.out BK370.out (by decide)) e_) hs_)); have n2_ := A_ (Kd.R_mono (ok' := fun k_ => True) ho0 (fun k_ hk_ => trivial)); have n3_ := A_ (hb); clear BK369; clear BK370; clear HB; clear HO380; have BK369 := n0_; have BK370 := n1_; have HO383 := n2_; have HB := n3_; clear n0_ n1_ n2_ n3_; (try clear hb); (try clear hkp); (try clear ho0); obtain ⟨Ao22, co22, eo22⟩ := Kd.R_slice HO383.out; subst eo22; have hcz23_0 := bv_ BK370.out 0; have hfz23_0 := blk_frozen BK370.out 0))
           refine bodyPost_ret (results_cell_row rfl _ _ gb370 63 #[.slice Ao22 t381.length co22] (0, 0) _ rfl (by (with_reducible repeat (first | refine blk_drewN ?_ _ | refine blk_drew ?_ | refine blk_alloc ?_ _)); refine blk_put (cs := #[.slice none 0 0]) ?_ 0 _ rfl; (with_reducible repeat (first | refine blk_drewN ?_ _ | refine blk_drew ?_ | refine blk_alloc ?_ _)); exact BK370.out) Try.underlying63 rfl (by kernel_rfl)) rfl ?_
           exact ⟨_, by first | rfl | (simp [errW_none, errW_some] <;> rfl) | (simp [*, errW_none, errW_some] <;> rfl), by (with_reducible repeat (first | apply Kd.R_alloc | apply Kd.R_drewN | apply Kd.R_drew)); exact Kd.R_mono (Kd.R_far (p := ⟨gb370, 0, none⟩) (Kd.R_types HO383.out BK370.out (by decide)) (fun _ hk => hk.2) (.slice Ao22 t381.length co22)) (fun _ hk => trivial), hb2_ HB.out GE369.out GE370.out⟩
          ·rw [if_neg c15] at H
           exact absurd H (by simp)
def r1_Sub.l0 : Nat → List Int → Int → Int → List Int → List Int → Option (List Int)
 | 0, _, _, _, _, _ => none
 | k + 1, x5, x6, x7, x414000, x415000 => if x7 < (x414000.length : Int) then (if 0 ≤ x7 then ((r1_at.f x415000 x7).bind fun t417 => (if x5.length < 17592186044416 then (r1_Sub.l0 k (x5 ++ [Int.tmod (IntKind.u64.wrap ((IntKind.u64.wrap ((IntKind.u64.wrap ((rd x414000 x7) + 4294967296)) - t417)) - x6)) 4294967296]) (IntKind.u64.wrap (1 - (IntKind.u64.wrap (Int.tdiv (IntKind.u64.wrap ((IntKind.u64.wrap ((IntKind.u64.wrap ((rd x414000 x7) + 4294967296)) - t417)) - x6)) 4294967296)))) (wrap64 (x7 + 1)) x414000 x415000) else (none))) else (none)) else ((r1_trim.f k x5).bind fun t421 => (some t421))
def r1_Sub.f (k : Nat) (l0_0 : List Int) (l1_0 : List Int) : Option (List Int) := r1_Sub.l0 k ([] : List Int) 0 0 l0_0 l1_0
theorem r1_Sub.mono_l : ∀ k, (∀ y0 y1 y2 y3 y4, LeO (r1_Sub.l0 k y0 y1 y2 y3 y4) (r1_Sub.l0 (k + 1) y0 y1 y2 y3 y4))
 | 0 => fun _ _ _ _ _ r h => by simp [r1_Sub.l0] at h
 | k + 1 => by
  have ih0 := r1_Sub.mono_l k
  ·intro y0 y1 y2 y3 y4
   unfold r1_Sub.l0
   repeat' first
   | (with_reducible exact ih0 _ _ _ _ _)
   | (with_reducible exact r1_trim.mono _ _)
   | (with_reducible exact LeO.refl _)
   | (with_reducible exact LeO.none _)
   | (with_reducible refine LeO.ite ?_ ?_)
   | (with_reducible refine LeO.bind ?_ (fun _ => ?_))
   | exact ih0 _ _ _ _ _
   | exact r1_trim.mono _ _
   | exact LeO.none _
   | refine LeO.ite ?_ ?_
   | refine LeO.bind ?_ (fun _ => ?_)
theorem r1_Sub.mono : ∀ a0 a1 k, LeO (r1_Sub.f k a0 a1) (r1_Sub.f (k + 1) a0 a1) := by
 intro a0 a1 k
 have ih0 := r1_Sub.mono_l k
 unfold r1_Sub.f
 repeat' first
   | (with_reducible exact ih0 _ _ _ _ _)
   | (with_reducible exact r1_trim.mono _ _)
   | (with_reducible exact LeO.refl _)
   | (with_reducible exact LeO.none _)
   | (with_reducible refine LeO.ite ?_ ?_)
   | (with_reducible refine LeO.bind ?_ (fun _ => ?_))
   | exact ih0 _ _ _ _ _
   | exact r1_trim.mono _ _
   | exact LeO.none _
   | refine LeO.ite ?_ ?_
   | refine LeO.bind ?_ (fun _ => ?_)
theorem r1_Sub.calls (k : Nat) (A0_0 : Option Addr) (c0_0 : Nat) (l0_0 : List Int) (A1_0 : Option Addr) (c1_0 : Nat) (l1_0 : List Int) (r : List Int) (w : World) (hr0_0 : Kd.C (Kd.int .u64) w A0_0 l0_0.length l0_0) (hc0_0 : l0_0.length ≤ c0_0) (hr1_0 : Kd.C (Kd.int .u64) w A1_0 l1_0.length l1_0) (hc1_0 : l1_0.length ≤ c1_0) (h : r1_Sub.f k l0_0 l1_0 = some r) :
  Calls Try.prog 118 #[.agg #[.slice A0_0 l0_0.length c0_0], .agg #[.slice A1_0 l1_0.length c1_0]] w fun e w' => ∃ v0_ : Value, e = .returned (.agg #[v0_]) ∧ Kd.R (Kd.int .u64) 22 w' w.heap.size (fun _ => True) v0_ r ∧ Below w.heap.size w w' := by
 have hu63 := Try.underlying63
 have HR0_0 := A_ hr0_0;have HC0_0 := A_ hc0_0;clear hr0_0 hc0_0;have HR1_0 := A_ hr1_0;have HC1_0 := A_ hc1_0;clear hr1_0 hc1_0
 have HB := A_ (Below.refl w.heap.size w)
 have H : (r1_Sub.l0 k ([] : List Int) 0 0 l0_0 l1_0) = some r := h
 clear h
 have H' := A_ H
 clear H
 go_enter Try.func118, Try.ntmps118
 go_wp2_with (first | ((with_reducible refine gate_dst (N := 2) rfl ?_); refine be_ 2 #[.slice A0_0 l0_0.length c0_0] 63 ?_; intro gb413 hg w3 hbox hb; have BK413 := A_ (hbox); have GW413 := A_ (sz_ hg (hb_ HB.out)); have GE413 := A_ (sz_ hg (hb_ HB.out)); replace HB := A_ (below_step (hb_ HB.out) hb); clear hb hbox hg) | ((with_reducible refine gate_dst (N := 3) rfl ?_); refine be_ 3 #[.slice A1_0 l1_0.length c1_0] 63 ?_; intro gb414 hg w4 hbox hb; have BK414 := A_ (hbox); have GW414 := A_ (sz_ hg (hb1_ HB.out GE413.out)); have GE414 := A_ (sz_ hg (hb1_ HB.out GE413.out)); have NB413_414 := A_ (nl_ hg BK413.out); have NB414_413 := A_ (ng_ hg BK413.out); replace BK413 := A_ (bb_ BK413.out hb); replace HB := A_ (below_step (hb1_ HB.out GE413.out) hb); clear hb hbox hg) | ((with_reducible refine gate_dst (N := 4) rfl ?_); refine be_ 4 #[.slice none 0 0] 63 ?_; intro gb415 hg w5 hbox hb; have BK415 := A_ (hbox); have GW415 := A_ (sz_ hg (hb2_ HB.out GE413.out GE414.out)); have GE415 := A_ (sz_ hg (hb2_ HB.out GE413.out GE414.out)); have NB413_415 := A_ (nl_ hg BK413.out); have NB415_413 := A_ (ng_ hg BK413.out); have NB414_415 := A_ (nl_ hg BK414.out); have NB415_414 := A_ (ng_ hg BK414.out); replace BK413 := A_ (bb_ BK413.out hb); replace BK414 := A_ (bb_ BK414.out hb); replace HB := A_ (below_step (hb2_ HB.out GE413.out GE414.out) hb); clear hb hbox hg))
 repeat (go_quiet (first | ((with_reducible refine gate_dst (N := 2) rfl ?_); refine be_ 2 #[.slice A0_0 l0_0.length c0_0] 63 ?_; intro gb413 hg w3 hbox hb; have BK413 := A_ (hbox); have GW413 := A_ (sz_ hg (hb_ HB.out)); have GE413 := A_ (sz_ hg (hb_ HB.out)); replace HB := A_ (below_step (hb_ HB.out) hb); clear hb hbox hg) | ((with_reducible refine gate_dst (N := 3) rfl ?_); refine be_ 3 #[.slice A1_0 l1_0.length c1_0] 63 ?_; intro gb414 hg w4 hbox hb; have BK414 := A_ (hbox); have GW414 := A_ (sz_ hg (hb1_ HB.out GE413.out)); have GE414 := A_ (sz_ hg (hb1_ HB.out GE413.out)); have NB413_414 := A_ (nl_ hg BK413.out); have NB414_413 := A_ (ng_ hg BK413.out); replace BK413 := A_ (bb_ BK413.out hb); replace HB := A_ (below_step (hb1_ HB.out GE413.out) hb); clear hb hbox hg) | ((with_reducible refine gate_dst (N := 4) rfl ?_); refine be_ 4 #[.slice none 0 0] 63 ?_; intro gb415 hg w5 hbox hb; have BK415 := A_ (hbox); have GW415 := A_ (sz_ hg (hb2_ HB.out GE413.out GE414.out)); have GE415 := A_ (sz_ hg (hb2_ HB.out GE413.out GE414.out)); have NB413_415 := A_ (nl_ hg BK413.out); have NB415_413 := A_ (ng_ hg BK413.out); have NB414_415 := A_ (nl_ hg BK414.out); have NB415_414 := A_ (ng_ hg BK414.out); replace BK413 := A_ (bb_ BK413.out hb); replace BK414 := A_ (bb_ BK414.out hb); replace HB := A_ (below_step (hb2_ HB.out GE413.out GE414.out) hb); clear hb hbox hg)); try go_wp2_with (first | ((with_reducible refine gate_dst (N := 2) rfl ?_); refine be_ 2 #[.slice A0_0 l0_0.length c0_0] 63 ?_; intro gb413 hg w3 hbox hb; have BK413 := A_ (hbox); have GW413 := A_ (sz_ hg (hb_ HB.out)); have GE413 := A_ (sz_ hg (hb_ HB.out)); replace HB := A_ (below_step (hb_ HB.out) hb); clear hb hbox hg) | ((with_reducible refine gate_dst (N := 3) rfl ?_); refine be_ 3 #[.slice A1_0 l1_0.length c1_0] 63 ?_; intro gb414 hg w4 hbox hb; have BK414 := A_ (hbox); have GW414 := A_ (sz_ hg (hb1_ HB.out GE413.out)); have GE414 := A_ (sz_ hg (hb1_ HB.out GE413.out)); have NB413_414 := A_ (nl_ hg BK413.out); have NB414_413 := A_ (ng_ hg BK413.out); replace BK413 := A_ (bb_ BK413.out hb); replace HB := A_ (below_step (hb1_ HB.out GE413.out) hb); clear hb hbox hg) | ((with_reducible refine gate_dst (N := 4) rfl ?_); refine be_ 4 #[.slice none 0 0] 63 ?_; intro gb415 hg w5 hbox hb; have BK415 := A_ (hbox); have GW415 := A_ (sz_ hg (hb2_ HB.out GE413.out GE414.out)); have GE415 := A_ (sz_ hg (hb2_ HB.out GE413.out GE414.out)); have NB413_415 := A_ (nl_ hg BK413.out); have NB415_413 := A_ (ng_ hg BK413.out); have NB414_415 := A_ (nl_ hg BK414.out); have NB415_414 := A_ (ng_ hg BK414.out); replace BK413 := A_ (bb_ BK413.out hb); replace BK414 := A_ (bb_ BK414.out hb); replace HB := A_ (below_step (hb2_ HB.out GE413.out GE414.out) hb); clear hb hbox hg)))
 go_loopg [5, 6, 7] k (fun kq v5 v6 v7 w' => ∃ (x5_1 : List Int) (x6_1 : Int) (x7_1 : Int), v6 = .int .u64 x6_1 ∧ v7 = .int .i64 x7_1 ∧ Aside0 (r1_Sub.l0 kq x5_1 x6_1 x7_1 l0_0 l1_0 = some r) ∧ Aside0 (kq ≤ k) ∧ Aside0 (Kd.R (Kd.int .u64) 22 w' w.heap.size (fun _ => True) v5 x5_1) ∧ Aside0 (w'.heap[gb413]? = some (.cells #[(.slice A0_0 l0_0.length c0_0)] 63 (0, 0))) ∧ Aside0 (w'.heap[gb414]? = some (.cells #[(.slice A1_0 l1_0.length c1_0)] 63 (0, 0))) ∧ Aside0 (w'.heap[gb415]? = some (.cells #[(.slice none 0 0)] 63 (0, 0))) ∧ Aside0 (Below w.heap.size w w'))
 case atStart => exact ⟨(([] : List Int)), (0), (0), sm_, sm_, H', ⟨Nat.le_refl _⟩, ⟨by first | exact Kd.R_nil _ _ _ _ _ | exact Kd.N_nil _ _ _ _ _ | exact Kd.V_nil _ _ _ _ _ | exact Kd.Q_nil _ _ _ _ _ | exact Kd.S_nil _ _ _ _ _⟩, ⟨bk_ BK413.out⟩, ⟨bk_ BK414.out⟩, ⟨bk_ BK415.out⟩, ⟨hb3_ HB.out GE413.out GE414.out GE415.out⟩⟩
 case round =>
  clear H'
  try clear c1
  try clear p2
  obtain ⟨x5_1, x6_1, x7_1, rfl, rfl, HA, HK1, HO_5, BK413, BK414, BK415, HB⟩ := hrel
  cases gk with
  | zero => exact absurd HA.out (by simp [r1_Sub.l0])
  | succ k1 =>
   have H := HA.out
   clear HA
   simp only [r1_Sub.l0] at H
   by_cases c6 : x7_1 < (l0_0.length : Int)
   ·rw [if_pos c6] at H
    have c6b0 : decide (x7_1 < (l0_0.length : Int)) = true := decide_eq_true c6
    clear c6
    by_cases c7 : 0 ≤ x7_1
    ·rw [if_pos c7] at H
     have c7b0 : decide (0 ≤ x7_1) = true := decide_eq_true c7
     clear c7
     replace H := ob_ H
     obtain ⟨t417, A80, H⟩ := H
     replace H : (if x5_1.length < 17592186044416 then (r1_Sub.l0 k1 (x5_1 ++ [Int.tmod (IntKind.u64.wrap ((IntKind.u64.wrap ((IntKind.u64.wrap ((rd l0_0 x7_1) + 4294967296)) - t417)) - x6_1)) 4294967296]) (IntKind.u64.wrap (1 - (IntKind.u64.wrap (Int.tdiv (IntKind.u64.wrap ((IntKind.u64.wrap ((IntKind.u64.wrap ((rd l0_0 x7_1) + 4294967296)) - t417)) - x6_1)) 4294967296)))) (wrap64 (x7_1 + 1)) l0_0 l1_0) else (none)) = some r := H
     have A8 := A_ A80;clear A80
     by_cases c9 : x5_1.length < 17592186044416
     ·rw [if_pos c9] at H
      have LMc9 := A_ c9;clear c9
      obtain ⟨y418, hy418⟩ : ∃ y_ : List Int, y_ = (x5_1 ++ [Int.tmod (IntKind.u64.wrap ((IntKind.u64.wrap ((IntKind.u64.wrap ((rd l0_0 x7_1) + 4294967296)) - t417)) - x6_1)) 4294967296]) := ⟨_, rfl⟩
      replace H : (r1_Sub.l0 k1 y418 (IntKind.u64.wrap (1 - (IntKind.u64.wrap (Int.tdiv (IntKind.u64.wrap ((IntKind.u64.wrap ((IntKind.u64.wrap ((rd l0_0 x7_1) + 4294967296)) - t417)) - x6_1)) 4294967296)))) (wrap64 (x7_1 + 1)) l0_0 l1_0) = some r := by first | (rw [hy418]; with_reducible exact H) | (have H2_ := (Option.bind_some _ _).symm.trans H; rw [hy418]; with_reducible exact H2_) | (have H2_ := (Option.bind_some _ _).symm.trans H; with_reducible exact H2_) | with_reducible exact H | (rw [hy418]; exact H) | exact H
      have Ny418 := A_ hy418;clear hy418
      have H' := A_ H
      clear H
      have hnb10 := NB413_414.out
      have hnc10 := NB414_413.out
      have hnb11 := NB413_415.out
      have hnc11 := NB415_413.out
      have hcz12_0 := bv_ BK413.out 0
      have hfz12_0 := blk_frozen BK413.out 0
      have p416 : 0 ≤ (x7_1 : Int) := of_decide_eq_true (by first | (with_reducible assumption) | assumption)
      have q416 : x7_1 < (l0_0.length : Int) := of_decide_eq_true (by first | (with_reducible assumption) | assumption)
      obtain ⟨ad416, e416, hx416_0⟩ := Kd.at_int HR0_0.out x7_1 p416 q416
      cases e416
      replace hx416_0 := (HB.out.cell (World.block_lt_of_cell? w _ hx416_0)).trans hx416_0
      replace p416 := eq_true p416
      replace q416 := eq_true q416
      have hnb13 := NB414_415.out
      have hnc13 := NB415_414.out
      have hcz14_0 := bv_ BK414.out 0
      have hfz14_0 := blk_frozen BK414.out 0
      go_wp2_with (first | (go_at_call 93; (with_reducible refine (r1_at.calls _ _ l1_0 x7_1 t417 _ ?side1 ?side2 A8.out).mono ?_); (case side1 => exact cs_ ((Kd.C_below HR1_0.out HB.out))); (case side2 => exact HC1_0.out); rintro e w' ⟨rfl, ⟨nd, rfl⟩⟩; (try first | exact ⟨rfl, _, World.drewN_drewN _ _ _⟩ | exact ⟨rfl, _, Eq.trans (World.drewN_drewN _ _ _) (congrArg (World.drewN _) (Nat.add_assoc _ _ _))⟩)) | ((with_reducible refine gate_builtin (b := .append) (xs := #[.tmp 29, .tmp 32]) rfl ?_); at_builtin; refine Kd.R_append (Kd.int .u64) (w0 := w) w.heap.size rfl (.tmp 29) (.tmp 32) 30 22 (.int .u64 0) 8 rfl Try.underlying30 info22 rfl (by decide) (by omega) u5 x5_1 (Int.tmod (IntKind.u64.wrap ((IntKind.u64.wrap ((IntKind.u64.wrap ((rd l0_0 x7_1) + 4294967296)) - t417)) - x6_1)) 4294967296) [.int .u64 (Int.tmod (IntKind.u64.wrap ((IntKind.u64.wrap ((IntKind.u64.wrap ((rd l0_0 x7_1) + 4294967296)) - t417)) - x6_1)) 4294967296)] (fun _ => True) (fun _ => False) rfl rfl ?aP (fun _ hk => hk.elim) ?aF ?aO ?aB ?aS ?aL ?_; (case aP => exact rfl); (case aB => exact (hb3_ HB.out GE413.out GE414.out GE415.out)); (case aF => exact (fun _ _ => trivial)); (case aO => exact (kr_ HO_5.out)); (case aS => exact (below_size (hb3_ HB.out GE413.out GE414.out GE415.out))); (case aL => have := LMc9.out; omega); intro v419 w15 ho hb hg hat; rw [← Ny418.out] at ho; have n0_ := A_ (blk_grown (g := gb413) (o := .cells #[.slice (some ad416) l0_0.length c0_0] 63 (0, 0)) (bk_ BK413.out) hg (Kd.R_ne HO_5.out BK413.out (by decide))); have n1_ := A_ (blk_grown (g := gb414) (o := .cells #[.slice A1_0 l1_0.length c1_0] 63 (0, 0)) (bk_ BK414.out) hg (Kd.R_ne HO_5.out BK414.out (by decide))); have n2_ := A_ (blk_grown (g := gb415) (o := .cells #[.slice none 0 0] 63 (0, 0)) (bk_ BK415.out) hg (Kd.R_ne HO_5.out BK415.out (by decide))); have n3_ := A_ (hb); have n4_ := A_ (ho); clear BK413; clear BK414; clear BK415; clear HB; clear HO_5; have BK413 := n0_; have BK414 := n1_; have BK415 := n2_; have HB := n3_; have HO420 := n4_; clear n0_ n1_ n2_ n3_ n4_; clear ho hb hg hat))
      repeat (go_quiet (first | (go_at_call 93; (with_reducible refine (r1_at.calls _ _ l1_0 x7_1 t417 _ ?side1 ?side2 A8.out).mono ?_); (case side1 => exact cs_ ((Kd.C_below HR1_0.out HB.out))); (case side2 => exact HC1_0.out); rintro e w' ⟨rfl, ⟨nd, rfl⟩⟩; (try first | exact ⟨rfl, _, World.drewN_drewN _ _ _⟩ | exact ⟨rfl, _, Eq.trans (World.drewN_drewN _ _ _) (congrArg (World.drewN _) (Nat.add_assoc _ _ _))⟩)) | ((with_reducible refine gate_builtin (b := .append) (xs := #[.tmp 29, .tmp 32]) rfl ?_); at_builtin; refine Kd.R_append (Kd.int .u64) (w0 := w) w.heap.size rfl (.tmp 29) (.tmp 32) 30 22 (.int .u64 0) 8 rfl Try.underlying30 info22 rfl (by decide) (by omega) u5 x5_1 (Int.tmod (IntKind.u64.wrap ((IntKind.u64.wrap ((IntKind.u64.wrap ((rd l0_0 x7_1) + 4294967296)) - t417)) - x6_1)) 4294967296) [.int .u64 (Int.tmod (IntKind.u64.wrap ((IntKind.u64.wrap ((IntKind.u64.wrap ((rd l0_0 x7_1) + 4294967296)) - t417)) - x6_1)) 4294967296)] (fun _ => True) (fun _ => False) rfl rfl ?aP (fun _ hk => hk.elim) ?aF ?aO ?aB ?aS ?aL ?_; (case aP => exact rfl); (case aB => exact (hb3_ HB.out GE413.out GE414.out GE415.out)); (case aF => exact (fun _ _ => trivial)); (case aO => exact (kr_ HO_5.out)); (case aS => exact (below_size (hb3_ HB.out GE413.out GE414.out GE415.out))); (case aL => have := LMc9.out; omega); intro v419 w15 ho hb hg hat; rw [← Ny418.out] at ho; have n0_ := A_ (blk_grown (g := gb413) (o := .cells #[.slice (some ad416) l0_0.length c0_0] 63 (0, 0)) (bk_ BK413.out) hg (Kd.R_ne HO_5.out BK413.out (by decide))); have n1_ := A_ (blk_grown (g := gb414) (o := .cells #[.slice A1_0 l1_0.length c1_0] 63 (0, 0)) (bk_ BK414.out) hg (Kd.R_ne HO_5.out BK414.out (by decide))); have n2_ := A_ (blk_grown (g := gb415) (o := .cells #[.slice none 0 0] 63 (0, 0)) (bk_ BK415.out) hg (Kd.R_ne HO_5.out BK415.out (by decide))); have n3_ := A_ (hb); have n4_ := A_ (ho); clear BK413; clear BK414; clear BK415; clear HB; clear HO_5; have BK413 := n0_; have BK414 := n1_; have BK415 := n2_; have HB := n3_; have HO420 := n4_; clear n0_ n1_ n2_ n3_ n4_; clear ho hb hg hat)); try go_wp2_with (first | (go_at_call 93; (with_reducible refine (r1_at.calls _ _ l1_0 x7_1 t417 _ ?side1 ?side2 A8.out).mono ?_); (case side1 => exact cs_ ((Kd.C_below HR1_0.out HB.out))); (case side2 => exact HC1_0.out); rintro e w' ⟨rfl, ⟨nd, rfl⟩⟩; (try first | exact ⟨rfl, _, World.drewN_drewN _ _ _⟩ | exact ⟨rfl, _, Eq.trans (World.drewN_drewN _ _ _) (congrArg (World.drewN _) (Nat.add_assoc _ _ _))⟩)) | ((with_reducible refine gate_builtin (b := .append) (xs := #[.tmp 29, .tmp 32]) rfl ?_); at_builtin; refine Kd.R_append (Kd.int .u64) (w0 := w) w.heap.size rfl (.tmp 29) (.tmp 32) 30 22 (.int .u64 0) 8 rfl Try.underlying30 info22 rfl (by decide) (by omega) u5 x5_1 (Int.tmod (IntKind.u64.wrap ((IntKind.u64.wrap ((IntKind.u64.wrap ((rd l0_0 x7_1) + 4294967296)) - t417)) - x6_1)) 4294967296) [.int .u64 (Int.tmod (IntKind.u64.wrap ((IntKind.u64.wrap ((IntKind.u64.wrap ((rd l0_0 x7_1) + 4294967296)) - t417)) - x6_1)) 4294967296)] (fun _ => True) (fun _ => False) rfl rfl ?aP (fun _ hk => hk.elim) ?aF ?aO ?aB ?aS ?aL ?_; (case aP => exact rfl); (case aB => exact (hb3_ HB.out GE413.out GE414.out GE415.out)); (case aF => exact (fun _ _ => trivial)); (case aO => exact (kr_ HO_5.out)); (case aS => exact (below_size (hb3_ HB.out GE413.out GE414.out GE415.out))); (case aL => have := LMc9.out; omega); intro v419 w15 ho hb hg hat; rw [← Ny418.out] at ho; have n0_ := A_ (blk_grown (g := gb413) (o := .cells #[.slice (some ad416) l0_0.length c0_0] 63 (0, 0)) (bk_ BK413.out) hg (Kd.R_ne HO_5.out BK413.out (by decide))); have n1_ := A_ (blk_grown (g := gb414) (o := .cells #[.slice A1_0 l1_0.length c1_0] 63 (0, 0)) (bk_ BK414.out) hg (Kd.R_ne HO_5.out BK414.out (by decide))); have n2_ := A_ (blk_grown (g := gb415) (o := .cells #[.slice none 0 0] 63 (0, 0)) (bk_ BK415.out) hg (Kd.R_ne HO_5.out BK415.out (by decide))); have n3_ := A_ (hb); have n4_ := A_ (ho); clear BK413; clear BK414; clear BK415; clear HB; clear HO_5; have BK413 := n0_; have BK414 := n1_; have BK415 := n2_; have HB := n3_; have HO420 := n4_; clear n0_ n1_ n2_ n3_ n4_; clear ho hb hg hat)))
      go_roundg k1
      case measure => have := HK1.out; omega
      case rel => exact ⟨(y418), (IntKind.u64.wrap (1 - (IntKind.u64.wrap (Int.tdiv (IntKind.u64.wrap ((IntKind.u64.wrap ((IntKind.u64.wrap ((rd l0_0 x7_1) + 4294967296)) - t417)) - x6_1)) 4294967296)))), (wrap64 (x7_1 + 1)), sm_, sm_, H', ⟨by have := HK1.out; omega⟩, ⟨by (with_reducible repeat (first | apply Kd.R_alloc | apply Kd.R_drewN | apply Kd.R_drew)); exact HO420.out⟩, ⟨bk_ BK413.out⟩, ⟨bk_ BK414.out⟩, ⟨bk_ BK415.out⟩, ⟨hb3_ HB.out GE413.out GE414.out GE415.out⟩⟩
     ·rw [if_neg c9] at H
      exact absurd H (by simp)
    ·rw [if_neg c7] at H
     exact absurd H (by simp)
   ·rw [if_neg c6] at H
    have c6b0 : decide (x7_1 < (l0_0.length : Int)) = false := decide_eq_false c6
    clear c6
    replace H := ob_ H
    obtain ⟨t421, A160, H⟩ := H
    replace H : (some t421) = some r := H
    have A16 := A_ A160;clear A160
    obtain rfl := Option.some.inj H
    have hnb17 := NB413_414.out
    have hnc17 := NB414_413.out
    have hnb18 := NB413_415.out
    have hnc18 := NB415_413.out
    have hcz19_0 := bv_ BK413.out 0
    have hfz19_0 := blk_frozen BK413.out 0
    obtain ⟨Ao20, co20, eo20⟩ := Kd.R_slice HO_5.out
    subst eo20
    go_wp2_with (first | (go_at_call 94; (with_reducible refine (r1_trim.calls k1 (fun k_ => some k_ = (.slice Ao20 x5_1.length co20 : Value).ownBlock) (.slice Ao20 x5_1.length co20) x5_1 t421 w _ ?side1 ?side2 A16.out).mono ?_); (case side1 => exact hb3_ HB.out GE413.out GE414.out GE415.out); (case side2 => exact Kd.R_tight rfl HO_5.out); rintro e w21 ⟨v422, rfl, ho0, hb, hkp⟩; have n0_ := A_ (blk_kept (bk_ BK413.out) hkp (fun hs_ => (fun e_ => (Kd.R_ne HO_5.out BK413.out (by decide)) e_) hs_)); have n1_ := A_ (blk_kept (bk_ BK414.out) hkp (fun hs_ => (fun e_ => (Kd.R_ne HO_5.out BK414.out (by decide)) e_) hs_)); have n2_ := A_ (blk_kept (bk_ BK415.out) hkp (fun hs_ => (fun e_ => (Kd.R_ne HO_5.out BK415.out (by decide)) e_) hs_)); have n3_ := A_ (Kd.R_mono (ok' := fun k_ => True) ho0 (fun k_ hk_ => trivial)); have n4_ := A_ (hb); clear BK413; clear BK414; clear BK415; clear HB; clear HO_5; have BK413 := n0_; have BK414 := n1_; have BK415 := n2_; have HO423 := n3_; have HB := n4_; clear n0_ n1_ n2_ n3_ n4_; (try clear hb); (try clear hkp); (try clear ho0); obtain ⟨Ao22, co22, eo22⟩ := Kd.R_slice HO423.out; subst eo22; have hnb23 := NB415_414.out; have hnc23 := NB414_415.out; have hcz24_0 := bv_ BK415.out 0; have hfz24_0 := blk_frozen BK415.out 0))
    repeat (go_quiet (first | (go_at_call 94; (with_reducible refine (r1_trim.calls k1 (fun k_ => some k_ = (.slice Ao20 x5_1.length co20 : Value).ownBlock) (.slice Ao20 x5_1.length co20) x5_1 t421 w _ ?side1 ?side2 A16.out).mono ?_); (case side1 => exact hb3_ HB.out GE413.out GE414.out GE415.out); (case side2 => exact Kd.R_tight rfl HO_5.out); rintro e w21 ⟨v422, rfl, ho0, hb, hkp⟩; have n0_ := A_ (blk_kept (bk_ BK413.out) hkp (fun hs_ => (fun e_ => (Kd.R_ne HO_5.out BK413.out (by decide)) e_) hs_)); have n1_ := A_ (blk_kept (bk_ BK414.out) hkp (fun hs_ => (fun e_ => (Kd.R_ne HO_5.out BK414.out (by decide)) e_) hs_)); have n2_ := A_ (blk_kept (bk_ BK415.out) hkp (fun hs_ => (fun e_ => (Kd.R_ne HO_5.out BK415.out (by decide)) e_) hs_)); have n3_ := A_ (Kd.R_mono (ok' := fun k_ => True) ho0 (fun k_ hk_ => trivial)); have n4_ := A_ (hb); clear BK413; clear BK414; clear BK415; clear HB; clear HO_5; have BK413 := n0_; have BK414 := n1_; have BK415 := n2_; have HO423 := n3_; have HB := n4_; clear n0_ n1_ n2_ n3_ n4_; (try clear hb); (try clear hkp); (try clear ho0); obtain ⟨Ao22, co22, eo22⟩ := Kd.R_slice HO423.out; subst eo22; have hnb23 := NB415_414.out; have hnc23 := NB414_415.out; have hcz24_0 := bv_ BK415.out 0; have hfz24_0 := blk_frozen BK415.out 0)); try go_wp2_with (first | (go_at_call 94; (with_reducible refine (r1_trim.calls k1 (fun k_ => some k_ = (.slice Ao20 x5_1.length co20 : Value).ownBlock) (.slice Ao20 x5_1.length co20) x5_1 t421 w _ ?side1 ?side2 A16.out).mono ?_); (case side1 => exact hb3_ HB.out GE413.out GE414.out GE415.out); (case side2 => exact Kd.R_tight rfl HO_5.out); rintro e w21 ⟨v422, rfl, ho0, hb, hkp⟩; have n0_ := A_ (blk_kept (bk_ BK413.out) hkp (fun hs_ => (fun e_ => (Kd.R_ne HO_5.out BK413.out (by decide)) e_) hs_)); have n1_ := A_ (blk_kept (bk_ BK414.out) hkp (fun hs_ => (fun e_ => (Kd.R_ne HO_5.out BK414.out (by decide)) e_) hs_)); have n2_ := A_ (blk_kept (bk_ BK415.out) hkp (fun hs_ => (fun e_ => (Kd.R_ne HO_5.out BK415.out (by decide)) e_) hs_)); have n3_ := A_ (Kd.R_mono (ok' := fun k_ => True) ho0 (fun k_ hk_ => trivial)); have n4_ := A_ (hb); clear BK413; clear BK414; clear BK415; clear HB; clear HO_5; have BK413 := n0_; have BK414 := n1_; have BK415 := n2_; have HO423 := n3_; have HB := n4_; clear n0_ n1_ n2_ n3_ n4_; (try clear hb); (try clear hkp); (try clear ho0); obtain ⟨Ao22, co22, eo22⟩ := Kd.R_slice HO423.out; subst eo22; have hnb23 := NB415_414.out; have hnc23 := NB414_415.out; have hcz24_0 := bv_ BK415.out 0; have hfz24_0 := blk_frozen BK415.out 0)))
    refine bodyPost_ret (results_cell_row rfl _ _ gb415 63 #[.slice Ao22 t421.length co22] (0, 0) _ rfl (by (with_reducible repeat (first | refine blk_drewN ?_ _ | refine blk_drew ?_ | refine blk_alloc ?_ _)); refine blk_put (cs := #[.slice none 0 0]) ?_ 0 _ rfl; (with_reducible repeat (first | refine blk_drewN ?_ _ | refine blk_drew ?_ | refine blk_alloc ?_ _)); exact BK415.out) Try.underlying63 rfl (by kernel_rfl)) rfl ?_
    exact ⟨_, by first | rfl | (simp [errW_none, errW_some] <;> rfl) | (simp [*, errW_none, errW_some] <;> rfl), by (with_reducible repeat (first | apply Kd.R_alloc | apply Kd.R_drewN | apply Kd.R_drew)); exact Kd.R_mono (Kd.R_far (p := ⟨gb415, 0, none⟩) (Kd.R_types HO423.out BK415.out (by decide)) (fun _ hk => hk.2) (.slice Ao22 t421.length co22)) (fun _ hk => trivial), hb3_ HB.out GE413.out GE414.out GE415.out⟩
end Go.Proofs.Ytbpmnmceajmmcaa.PA
