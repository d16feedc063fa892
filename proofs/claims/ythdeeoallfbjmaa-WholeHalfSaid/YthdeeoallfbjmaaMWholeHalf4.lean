/- What the Go functions that the statement WholeHalf reaches compute, and the mathematics on it, in the order in which one leans on the other; for every input. -/
import Derived.Test.YthdeeoallfbjmaaVWholeHalf1
import Derived.Test.YthdeeoallfbjmaaMWholeHalf0
namespace Go.Proofs.Ythdeeoallfbjmaa.PA
open Go.RowKit Go.Proofs.YthdeeoallfbjmaaW.PrintWords Go.Proofs.YthdeeoallfbjmaaW.PrintLast Go.Proofs.YthdeeoallfbjmaaW.PrintMore
attribute [local go_sem] max2_int min2_int max_two min_two max_three min_three max_four min_four   -- for this text's walks alone
set_option linter.unusedVariables false
set_option linter.unusedSimpArgs false
set_option maxHeartbeats 8000000
set_option maxRecDepth 100000
def r1_at.f (l0 : List Int) (a1 : Int) : Option (Int) := if a1 < (l0.length : Int) then (if 0 ≤ a1 then (some (rd l0 a1)) else (none)) else (some 0)
theorem r1_at.calls (A0 : Option Addr) (c0 : Nat) (l0 : List Int) (a1 : Int) (r : Int) (w : World) (hr0 : Kd.C (Kd.int .u64) w A0 l0.length l0) (hc0 : l0.length ≤ c0) (h : r1_at.f l0 a1 = some r) :
  Calls Try.prog 59 #[.slice A0 l0.length c0, .int .i64 a1] w fun e w' => e = .returned (.int .u64 r) ∧ Drawn0 w w' := by
 have HR0 := A_ hr0;have HC0 := A_ hc0;clear hr0 hc0
 have H : (if a1 < (l0.length : Int) then (if 0 ≤ a1 then (some (rd l0 a1)) else (none)) else (some 0)) = some r := h
 clear h
 by_cases c3 : a1 < (l0.length : Int)
 ·rw [if_pos c3] at H
  have c3b0 : decide (a1 < (l0.length : Int)) = true := decide_eq_true c3
  clear c3
  by_cases c4 : 0 ≤ a1
  ·rw [if_pos c4] at H
   have c4b0 : decide (0 ≤ a1) = true := decide_eq_true c4
   clear c4
   obtain rfl := Option.some.inj H
   have p269 : 0 ≤ (a1 : Int) := of_decide_eq_true (by first | (with_reducible assumption) | assumption)
   have q269 : a1 < (l0.length : Int) := of_decide_eq_true (by first | (with_reducible assumption) | assumption)
   obtain ⟨ad269, e269, hx269_0⟩ := Kd.at_int HR0.out a1 p269 q269
   cases e269
   replace p269 := eq_true p269
   replace q269 := eq_true q269
   go_enter Try.func59, Try.ntmps59
   go_wp2
   go_ret
   exact ⟨sm_, by repeat (first | exact Drawn0.refl _ | apply Drawn0.step)⟩
  ·rw [if_neg c4] at H
   exact absurd H (by simp)
 ·rw [if_neg c3] at H
  have c3b0 : decide (a1 < (l0.length : Int)) = false := decide_eq_false c3
  clear c3
  obtain rfl := Option.some.inj H
  go_enter Try.func59, Try.ntmps59
  go_wp2
  go_ret
  exact ⟨sm_, by repeat (first | exact Drawn0.refl _ | apply Drawn0.step)⟩
def r1_trim.l0 : Nat → List Int → Int → Option (List Int)
 | 0, _, _ => none
 | k + 1, x0, x3 => if x3 > 0 then (if 0 ≤ (wrap64 (x3 - 1)) then (if (wrap64 (x3 - 1)) < (x0.length : Int) then (if (rd x0 (wrap64 (x3 - 1))) = 0 then (r1_trim.l0 k x0 (wrap64 (x3 - 1))) else (if 0 ≤ x3 then (if x3 ≤ (x0.length : Int) then (some (x0.take (x3 : Int).toNat)) else (none)) else (none))) else (none)) else (none)) else (if 0 ≤ x3 then (if x3 ≤ (x0.length : Int) then (some (x0.take (x3 : Int).toNat)) else (none)) else (none))
def r1_trim.f (k : Nat) (l0 : List Int) : Option (List Int) := r1_trim.l0 k l0 (l0.length : Int)
theorem r1_trim.mono_l : ∀ k, (∀ y0 y1, LeO (r1_trim.l0 k y0 y1) (r1_trim.l0 (k + 1) y0 y1))
 | 0 => fun _ _ r h => by simp [r1_trim.l0] at h
 | k + 1 => by
  have ih0 := r1_trim.mono_l k
  ·intro y0 y1
   unfold r1_trim.l0
   repeat' first
   | (with_reducible exact ih0 _ _)
   | (with_reducible exact LeO.refl _)
   | (with_reducible exact LeO.none _)
   | (with_reducible refine LeO.ite ?_ ?_)
   | (with_reducible refine LeO.bind ?_ (fun _ => ?_))
   | exact ih0 _ _
   | exact LeO.none _
   | refine LeO.ite ?_ ?_
   | refine LeO.bind ?_ (fun _ => ?_)
theorem r1_trim.mono : ∀ a0 k, LeO (r1_trim.f k a0) (r1_trim.f (k + 1) a0) := by
 intro a0 k
 have ih0 := r1_trim.mono_l k
 unfold r1_trim.f
 repeat' first
   | (with_reducible exact ih0 _ _)
   | (with_reducible exact LeO.refl _)
   | (with_reducible exact LeO.none _)
   | (with_reducible refine LeO.ite ?_ ?_)
   | (with_reducible refine LeO.bind ?_ (fun _ => ?_))
   | exact ih0 _ _
   | exact LeO.none _
   | refine LeO.ite ?_ ?_
   | refine LeO.bind ?_ (fun _ => ?_)
theorem r1_trim.calls (k : Nat) (P0_ : Nat → Prop) (u9000_ : Value) (l0 : List Int) (r : List Int) (w0 w : World) (hB : Below w0.heap.size w0 w) (ho0 : Kd.R (Kd.int .u64) 22 w w0.heap.size P0_ u9000_ l0) (h : r1_trim.f k l0 = some r) :
  Calls Try.prog 60 #[u9000_] w fun e w' => ∃ v0_ : Value, e = .returned (.agg #[v0_]) ∧ Kd.R (Kd.int .u64) 22 w' w0.heap.size (fun k_ => (P0_ k_ ∨ w.heap.size ≤ k_)) v0_ r ∧ Below w0.heap.size w0 w' ∧ Kept w w' (fun k_ => P0_ k_) := by
 have hu33 := Try.underlying33
 have HO0 := A_ (show Kd.R (Kd.int .u64) 22 w w0.heap.size (fun k_ => (P0_ k_ ∨ w.heap.size ≤ k_)) u9000_ l0 from Kd.R_mono ho0 (fun k_ hk => (.inl hk)))
 have HK := A_ (Kept.refl w (fun k_ => P0_ k_))
 have HW0 := A_ hB.size
 have HB := A_ hB;clear hB
 have H : (r1_trim.l0 k l0 (l0.length : Int)) = some r := h
 clear h
 have H' := A_ H
 clear H
 go_enter Try.func60, Try.ntmps60
 go_wp2_with (first | ((with_reducible refine gate_dst (N := 2) rfl ?_); refine be_ 2 #[.slice none 0 0] 33 ?_; intro gb239 hg w2 hbox hb; have BK239 := A_ (hbox); have GW239 := A_ ((by rw [hg]; exact (by first | exact HK.out.1 | exact (show Kept w _ (fun k_ => P0_ k_) from by repeat (first | (with_reducible first | exact HK.out | apply Kept.alloc | apply Kept.drewN | apply Kept.drew) | exact HK.out)).1) : w.heap.size ≤ gb239)); have GE239 := A_ ((by rw [hg]; exact (below_size (hb_ HB.out)) : w0.heap.size ≤ gb239)); replace HO0 := A_ (Kd.R_below (kr_ HO0.out) hb); replace HK := A_ (Kept.below (S := (fun k_ => P0_ k_)) (by repeat (first | (with_reducible first | exact HK.out | apply Kept.alloc | apply Kept.drewN | apply Kept.drew) | exact HK.out)) hb); replace HB := A_ (below_step (hb_ HB.out) hb); clear hb hbox hg; obtain ⟨Ao3, co3, eo3⟩ := Kd.R_slice HO0.out; subst eo3))
 go_loopg [3] k (fun kq v3 w' => ∃ (x3_1 : Int), v3 = .int .i64 x3_1 ∧ Aside0 (r1_trim.l0 kq l0 x3_1 = some r) ∧ Aside0 (kq ≤ k) ∧ Aside0 (Kd.R (Kd.int .u64) 22 w' w0.heap.size (fun k_ => (P0_ k_ ∨ w.heap.size ≤ k_)) (.slice Ao3 l0.length co3) l0) ∧ Aside0 (w'.heap[gb239]? = some (.cells #[(.slice none 0 0)] 33 (0, 0))) ∧ Aside0 (Kept w w' (fun k_ => P0_ k_)) ∧ Aside0 (Below w0.heap.size w0 w'))
 case atStart => exact ⟨((l0.length : Int)), sm_, H', ⟨Nat.le_refl _⟩, ⟨by (with_reducible repeat (first | apply Kd.R_alloc | apply Kd.R_drewN | apply Kd.R_drew)); exact HO0.out⟩, ⟨bk_ BK239.out⟩, ⟨by repeat (first | (with_reducible first | exact HK.out | apply Kept.alloc | apply Kept.drewN | apply Kept.drew | refine Kept.setCell ?_ (.inr GW239.out) _) | exact HK.out)⟩, ⟨hb1_ HB.out GE239.out⟩⟩
 case round =>
  clear H'
  try clear p2
  obtain ⟨x3_1, rfl, HA, HK1, HO_0, BK239, HK, HB⟩ := hrel
  cases gk with
  | zero => exact absurd HA.out (by simp [r1_trim.l0])
  | succ k1 =>
   have H := HA.out
   clear HA
   simp only [r1_trim.l0] at H
   by_cases c4 : x3_1 > 0
   ·rw [if_pos c4] at H
    have c4b0 : decide (0 < x3_1) = true := decide_eq_true c4
    clear c4
    obtain ⟨ji5, hji5⟩ : ∃ j_ : Int, (wrap64 (x3_1 - 1)) = j_ := ⟨_, rfl⟩
    replace H : (if 0 ≤ (ji5) then (if (ji5) < (l0.length : Int) then (if (rd l0 (ji5)) = 0 then (r1_trim.l0 k1 l0 ji5) else (if 0 ≤ x3_1 then (if x3_1 ≤ (l0.length : Int) then (some (l0.take (x3_1 : Int).toNat)) else (none)) else (none))) else (none)) else (none)) = some r := by first | (rw [hji5] at H; exact H) | (simp only [hji5] at H ⊢; exact H)
    have hji5w : (IntKind.i64.wrap (x3_1 - 1)) = ji5 := (i64_w _).trans hji5
    by_cases c6 : 0 ≤ (ji5)
    ·rw [if_pos c6] at H
     have c6b0 : decide (0 ≤ (ji5)) = true := decide_eq_true c6
     clear c6
     by_cases c7 : (ji5) < (l0.length : Int)
     ·rw [if_pos c7] at H
      have c7b0 : decide ((ji5) < (l0.length : Int)) = true := decide_eq_true c7
      clear c7
      by_cases c8 : (rd l0 (ji5)) = 0
      ·rw [if_pos c8] at H
       have c8b0 : ((rd l0 (ji5)) == 0) = true := beq_iff_eq.mpr c8
       have c8b1 : ((rd l0 (ji5)) != 0) = false := bne_eq_false_iff_eq.mpr c8
       clear c8
       have H' := A_ H
       clear H
       have p240 : 0 ≤ ((ji5) : Int) := of_decide_eq_true (by first | (with_reducible assumption) | assumption)
       have q240 : (ji5) < (l0.length : Int) := of_decide_eq_true (by first | (with_reducible assumption) | assumption)
       obtain ⟨ad240, e240, hx240_0⟩ := Kd.at_int (Kd.R_reads' HO_0.out).2.2 (ji5) p240 q240
       cases e240
       replace p240 := eq_true p240
       replace q240 := eq_true q240
       go_wp2
       go_roundg k1
       case measure => have := HK1.out; omega
       case rel => exact ⟨(ji5), (by first | rfl | (simp; done) | (simp only [← hji5] <;> (first | rfl | simp)) | (simp [*]; done)), H', ⟨by have := HK1.out; omega⟩, ⟨by (with_reducible repeat (first | apply Kd.R_alloc | apply Kd.R_drewN | apply Kd.R_drew)); exact HO_0.out⟩, ⟨bk_ BK239.out⟩, ⟨by repeat (first | (with_reducible first | exact HK.out | apply Kept.alloc | apply Kept.drewN | apply Kept.drew | refine Kept.setCell ?_ (.inr GW239.out) _) | exact HK.out)⟩, ⟨hb1_ HB.out GE239.out⟩⟩
      ·rw [if_neg c8] at H
       have c8b0 : ((rd l0 (ji5)) == 0) = false := beq_eq_false_iff_ne.mpr c8
       have c8b1 : ((rd l0 (ji5)) != 0) = true := bne_iff_ne.mpr c8
       by_cases c9 : 0 ≤ x3_1
       ·rw [if_pos c9] at H
        have c9b0 := eq_true c9
        have c9b1 : decide (0 ≤ x3_1) = true := decide_eq_true c9
        clear c9
        by_cases c10 : x3_1 ≤ (l0.length : Int)
        ·rw [if_pos c10] at H
         have c10b0 := eq_true c10
         have c10b1 : decide (x3_1 ≤ (l0.length : Int)) = true := decide_eq_true c10
         clear c10
         obtain ⟨y241, hy241⟩ : ∃ y_ : List Int, y_ = (l0.take (x3_1 : Int).toNat) := ⟨_, rfl⟩
         replace H : (some y241) = some r := by first | (rw [hy241]; with_reducible exact H) | (have H2_ := (Option.bind_some _ _).symm.trans H; rw [hy241]; with_reducible exact H2_) | (have H2_ := (Option.bind_some _ _).symm.trans H; with_reducible exact H2_) | with_reducible exact H | (rw [hy241]; exact H) | exact H
         have Ny241 := A_ hy241;clear hy241
         obtain rfl := Option.some.inj H
         have p240 : 0 ≤ ((ji5) : Int) := of_decide_eq_true (by first | (with_reducible assumption) | assumption)
         have q240 : (ji5) < (l0.length : Int) := of_decide_eq_true (by first | (with_reducible assumption) | assumption)
         obtain ⟨ad240, e240, hx240_0⟩ := Kd.at_int (Kd.R_reads' HO_0.out).2.2 (ji5) p240 q240
         cases e240
         replace p240 := eq_true p240
         replace q240 := eq_true q240
         have q11 : (x3_1 : Int) ≤ ((l0.length : Int) : Int) := of_decide_eq_true (by first | (with_reducible assumption) | assumption)
         obtain ⟨i011, hi011, _, hsz11, _⟩ := info_parts info22
         have hcut11 := cut_to (P := Try.prog) 25 22 .i64 Try.underlying25 hi011 (some ad240) l0.length co3 x3_1 (of_decide_eq_true (by first | (with_reducible assumption) | assumption)) q11 (Kd.R_reads' HO_0.out).2.1
         have hr11 := Kd.R_take (m := (x3_1 : Int).toNat) HO_0.out (by omega)
         have hy11 : y241.length = (x3_1 : Int).toNat := (by rw [Ny241.out, List.length_take]; omega)
         rw [← Ny241.out] at hr11
         rw [← hy11] at hr11 hcut11
         clear hy11 hi011 hsz11 HO_0;have HO243 := A_ hr11;clear hr11
         replace q11 := eq_true q11
         have hcz12_0 := bv_ BK239.out 0
         have hfz12_0 := blk_frozen BK239.out 0
         go_wp2
         refine bodyPost_ret (results_cell_row rfl _ _ gb239 33 #[.slice (some ad240) y241.length co3] (0, 0) _ rfl (by (with_reducible repeat (first | refine blk_drewN ?_ _ | refine blk_drew ?_ | refine blk_alloc ?_ _)); refine blk_put (cs := #[.slice none 0 0]) ?_ 0 _ rfl; (with_reducible repeat (first | refine blk_drewN ?_ _ | refine blk_drew ?_ | refine blk_alloc ?_ _)); exact BK239.out) Try.underlying33 rfl (by kernel_rfl)) rfl ?_
         exact ⟨_, by first | rfl | (simp [errW_none, errW_some] <;> rfl) | (simp only [← hji5]; first | rfl | (simp [errW_none, errW_some] <;> rfl)) | (simp [*, errW_none, errW_some] <;> rfl), by (with_reducible repeat (first | apply Kd.R_alloc | apply Kd.R_drewN | apply Kd.R_drew)); exact Kd.R_mono (Kd.R_far (p := ⟨gb239, 0, none⟩) (Kd.R_types HO243.out BK239.out (by decide)) (fun _ hk => hk.2) (.slice (some ad240) y241.length co3)) (fun _ hk => hk.1), by repeat (first | (with_reducible first | exact HB.out | apply below_alloc | apply pw_below_drewN | apply below_drew1 | refine below_set ?_ GE239.out) | exact HB.out), by repeat (first | (with_reducible first | exact HK.out | apply Kept.alloc | apply Kept.drewN | apply Kept.drew | refine Kept.setCell ?_ (.inr GW239.out) _) | exact HK.out)⟩
        ·rw [if_neg c10] at H
         exact absurd H (by simp)
       ·rw [if_neg c9] at H
        exact absurd H (by simp)
     ·rw [if_neg c7] at H
      exact absurd H (by simp)
    ·rw [if_neg c6] at H
     exact absurd H (by simp)
   ·rw [if_neg c4] at H
    have c4b0 : decide (0 < x3_1) = false := decide_eq_false c4
    clear c4
    by_cases c13 : 0 ≤ x3_1
    ·rw [if_pos c13] at H
     have c13b0 := eq_true c13
     have c13b1 : decide (0 ≤ x3_1) = true := decide_eq_true c13
     clear c13
     by_cases c14 : x3_1 ≤ (l0.length : Int)
     ·rw [if_pos c14] at H
      have c14b0 := eq_true c14
      have c14b1 : decide (x3_1 ≤ (l0.length : Int)) = true := decide_eq_true c14
      clear c14
      obtain ⟨y244, hy244⟩ : ∃ y_ : List Int, y_ = (l0.take (x3_1 : Int).toNat) := ⟨_, rfl⟩
      replace H : (some y244) = some r := by first | (rw [hy244]; with_reducible exact H) | (have H2_ := (Option.bind_some _ _).symm.trans H; rw [hy244]; with_reducible exact H2_) | (have H2_ := (Option.bind_some _ _).symm.trans H; with_reducible exact H2_) | with_reducible exact H | (rw [hy244]; exact H) | exact H
      have Ny244 := A_ hy244;clear hy244
      obtain rfl := Option.some.inj H
      have q15 : (x3_1 : Int) ≤ ((l0.length : Int) : Int) := of_decide_eq_true (by first | (with_reducible assumption) | assumption)
      obtain ⟨i015, hi015, _, hsz15, _⟩ := info_parts info22
      have hcut15 := cut_to (P := Try.prog) 25 22 .i64 Try.underlying25 hi015 Ao3 l0.length co3 x3_1 (of_decide_eq_true (by first | (with_reducible assumption) | assumption)) q15 (Kd.R_reads' HO_0.out).2.1
      have hr15 := Kd.R_take (m := (x3_1 : Int).toNat) HO_0.out (by omega)
      have hy15 : y244.length = (x3_1 : Int).toNat := (by rw [Ny244.out, List.length_take]; omega)
      rw [← Ny244.out] at hr15
      rw [← hy15] at hr15 hcut15
      clear hy15 hi015 hsz15 HO_0;have HO246 := A_ hr15;clear hr15
      replace q15 := eq_true q15
      have hcz16_0 := bv_ BK239.out 0
      have hfz16_0 := blk_frozen BK239.out 0
      go_wp2
      refine bodyPost_ret (results_cell_row rfl _ _ gb239 33 #[.slice Ao3 y244.length co3] (0, 0) _ rfl (by (with_reducible repeat (first | refine blk_drewN ?_ _ | refine blk_drew ?_ | refine blk_alloc ?_ _)); refine blk_put (cs := #[.slice none 0 0]) ?_ 0 _ rfl; (with_reducible repeat (first | refine blk_drewN ?_ _ | refine blk_drew ?_ | refine blk_alloc ?_ _)); exact BK239.out) Try.underlying33 rfl (by kernel_rfl)) rfl ?_
      exact ⟨_, by first | rfl | (simp [errW_none, errW_some] <;> rfl) | (simp [*, errW_none, errW_some] <;> rfl), by (with_reducible repeat (first | apply Kd.R_alloc | apply Kd.R_drewN | apply Kd.R_drew)); exact Kd.R_mono (Kd.R_far (p := ⟨gb239, 0, none⟩) (Kd.R_types HO246.out BK239.out (by decide)) (fun _ hk => hk.2) (.slice Ao3 y244.length co3)) (fun _ hk => hk.1), by repeat (first | (with_reducible first | exact HB.out | apply below_alloc | apply pw_below_drewN | apply below_drew1 | refine below_set ?_ GE239.out) | exact HB.out), by repeat (first | (with_reducible first | exact HK.out | apply Kept.alloc | apply Kept.drewN | apply Kept.drew | refine Kept.setCell ?_ (.inr GW239.out) _) | exact HK.out)⟩
     ·rw [if_neg c14] at H
      exact absurd H (by simp)
    ·rw [if_neg c13] at H
     exact absurd H (by simp)
mutual
def r1_Add.l0 : Nat → List Int → Int → Int → List Int → List Int → Option (List Int)
 | 0, _, _, _, _, _ => none
 | k + 1, x5, x6, x7, x271000, x272000 => if x7 < (mx (x271000.length : Int) (x272000.length : Int)) then (r1_Add.j1 k x5 x6 x7 true x271000 x272000) else (r1_Add.j1 k x5 x6 x7 (decide (x6 > 0)) x271000 x272000)
def r1_Add.j1 : Nat → List Int → Int → Int → Bool → List Int → List Int → Option (List Int)
 | 0, _, _, _, _, _, _ => none
 | k + 1, x5, x6, x7, x21, x271000, x272000 => if x21 = true then ((r1_at.f x271000 x7).bind fun t273 => ((r1_at.f x272000 x7).bind fun t274 => (if x5.length < 17592186044416 then (r1_Add.l0 k (x5 ++ [Int.tmod (IntKind.u64.wrap ((IntKind.u64.wrap (t273 + t274)) + x6)) 4294967296]) (IntKind.u64.wrap (Int.tdiv (IntKind.u64.wrap ((IntKind.u64.wrap (t273 + t274)) + x6)) 4294967296)) (wrap64 (x7 + 1)) x271000 x272000) else (none)))) else ((r1_trim.f k x5).bind fun t278 => (some t278))
end
def r1_Add.f (k : Nat) (l0_0 : List Int) (l1_0 : List Int) : Option (List Int) := r1_Add.l0 k ([] : List Int) 0 0 l0_0 l1_0
theorem r1_Add.mono_l : ∀ k, (∀ y0 y1 y2 y3 y4, LeO (r1_Add.l0 k y0 y1 y2 y3 y4) (r1_Add.l0 (k + 1) y0 y1 y2 y3 y4)) ∧ (∀ y0 y1 y2 y3 y4 y5, LeO (r1_Add.j1 k y0 y1 y2 y3 y4 y5) (r1_Add.j1 (k + 1) y0 y1 y2 y3 y4 y5))
 | 0 => ⟨fun _ _ _ _ _ r h => by simp [r1_Add.l0] at h, fun _ _ _ _ _ _ r h => by simp [r1_Add.j1] at h⟩
 | k + 1 => by
  obtain ⟨ih0, ih1⟩ := r1_Add.mono_l k
  refine ⟨?_, ?_⟩
  ·intro y0 y1 y2 y3 y4
   unfold r1_Add.l0
   repeat' first
   | (with_reducible exact ih0 _ _ _ _ _)
   | (with_reducible exact ih1 _ _ _ _ _ _)
   | (with_reducible exact r1_trim.mono _ _)
   | (with_reducible exact LeO.refl _)
   | (with_reducible exact LeO.none _)
   | (with_reducible refine LeO.ite ?_ ?_)
   | (with_reducible refine LeO.bind ?_ (fun _ => ?_))
   | exact ih0 _ _ _ _ _
   | exact ih1 _ _ _ _ _ _
   | exact r1_trim.mono _ _
   | exact LeO.none _
   | refine LeO.ite ?_ ?_
   | refine LeO.bind ?_ (fun _ => ?_)
  ·intro y0 y1 y2 y3 y4 y5
   unfold r1_Add.j1
   repeat' first
   | (with_reducible exact ih0 _ _ _ _ _)
   | (with_reducible exact ih1 _ _ _ _ _ _)
   | (with_reducible exact r1_trim.mono _ _)
   | (with_reducible exact LeO.refl _)
   | (with_reducible exact LeO.none _)
   | (with_reducible refine LeO.ite ?_ ?_)
   | (with_reducible refine LeO.bind ?_ (fun _ => ?_))
   | exact ih0 _ _ _ _ _
   | exact ih1 _ _ _ _ _ _
   | exact r1_trim.mono _ _
   | exact LeO.none _
   | refine LeO.ite ?_ ?_
   | refine LeO.bind ?_ (fun _ => ?_)
theorem r1_Add.mono : ∀ a0 a1 k, LeO (r1_Add.f k a0 a1) (r1_Add.f (k + 1) a0 a1) := by
 intro a0 a1 k
 obtain ⟨ih0, ih1⟩ := r1_Add.mono_l k
 unfold r1_Add.f
 repeat' first
   | (with_reducible exact ih0 _ _ _ _ _)
   | (with_reducible exact ih1 _ _ _ _ _ _)
   | (with_reducible exact r1_trim.mono _ _)
   | (with_reducible exact LeO.refl _)
   | (with_reducible exact LeO.none _)
   | (with_reducible refine LeO.ite ?_ ?_)
   | (with_reducible refine LeO.bind ?_ (fun _ => ?_))
   | exact ih0 _ _ _ _ _
   | exact ih1 _ _ _ _ _ _
   | exact r1_trim.mono _ _
   | exact LeO.none _
   | refine LeO.ite ?_ ?_
   | refine LeO.bind ?_ (fun _ => ?_)
theorem r1_Add.calls (k : Nat) (A0_0 : Option Addr) (c0_0 : Nat) (l0_0 : List Int) (A1_0 : Option Addr) (c1_0 : Nat) (l1_0 : List Int) (r : List Int) (w : World) (hr0_0 : Kd.C (Kd.int .u64) w A0_0 l0_0.length l0_0) (hc0_0 : l0_0.length ≤ c0_0) (hr1_0 : Kd.C (Kd.int .u64) w A1_0 l1_0.length l1_0) (hc1_0 : l1_0.length ≤ c1_0) (h : r1_Add.f k l0_0 l1_0 = some r) :
  Calls Try.prog 33 #[.agg #[.slice A0_0 l0_0.length c0_0], .agg #[.slice A1_0 l1_0.length c1_0]] w fun e w' => ∃ v0_ : Value, e = .returned (.agg #[v0_]) ∧ Kd.R (Kd.int .u64) 22 w' w.heap.size (fun _ => True) v0_ r ∧ Below w.heap.size w w' := by
 have hu33 := Try.underlying33
 have HR0_0 := A_ hr0_0;have HC0_0 := A_ hc0_0;clear hr0_0 hc0_0;have HR1_0 := A_ hr1_0;have HC1_0 := A_ hc1_0;clear hr1_0 hc1_0
 have HB := A_ (Below.refl w.heap.size w)
 have H : (r1_Add.l0 k ([] : List Int) 0 0 l0_0 l1_0) = some r := h
 clear h
 have H' := A_ H
 clear H
 go_enter Try.func33, Try.ntmps33
 go_wp2_with (first | ((with_reducible refine gate_dst (N := 2) rfl ?_); refine be_ 2 #[.slice A0_0 l0_0.length c0_0] 33 ?_; intro gb270 hg w3 hbox hb; have BK270 := A_ (hbox); have GW270 := A_ (sz_ hg (hb_ HB.out)); have GE270 := A_ (sz_ hg (hb_ HB.out)); replace HB := A_ (below_step (hb_ HB.out) hb); clear hb hbox hg) | ((with_reducible refine gate_dst (N := 3) rfl ?_); refine be_ 3 #[.slice A1_0 l1_0.length c1_0] 33 ?_; intro gb271 hg w4 hbox hb; have BK271 := A_ (hbox); have GW271 := A_ (sz_ hg (hb1_ HB.out GE270.out)); have GE271 := A_ (sz_ hg (hb1_ HB.out GE270.out)); have NB270_271 := A_ (nl_ hg BK270.out); have NB271_270 := A_ (ng_ hg BK270.out); replace BK270 := A_ (bb_ BK270.out hb); replace HB := A_ (below_step (hb1_ HB.out GE270.out) hb); clear hb hbox hg) | ((with_reducible refine gate_dst (N := 4) rfl ?_); refine be_ 4 #[.slice none 0 0] 33 ?_; intro gb272 hg w5 hbox hb; have BK272 := A_ (hbox); have GW272 := A_ (sz_ hg (hb2_ HB.out GE270.out GE271.out)); have GE272 := A_ (sz_ hg (hb2_ HB.out GE270.out GE271.out)); have NB270_272 := A_ (nl_ hg BK270.out); have NB272_270 := A_ (ng_ hg BK270.out); have NB271_272 := A_ (nl_ hg BK271.out); have NB272_271 := A_ (ng_ hg BK271.out); replace BK270 := A_ (bb_ BK270.out hb); replace BK271 := A_ (bb_ BK271.out hb); replace HB := A_ (below_step (hb2_ HB.out GE270.out GE271.out) hb); clear hb hbox hg))
 repeat (go_quiet (first | ((with_reducible refine gate_dst (N := 2) rfl ?_); refine be_ 2 #[.slice A0_0 l0_0.length c0_0] 33 ?_; intro gb270 hg w3 hbox hb; have BK270 := A_ (hbox); have GW270 := A_ (sz_ hg (hb_ HB.out)); have GE270 := A_ (sz_ hg (hb_ HB.out)); replace HB := A_ (below_step (hb_ HB.out) hb); clear hb hbox hg) | ((with_reducible refine gate_dst (N := 3) rfl ?_); refine be_ 3 #[.slice A1_0 l1_0.length c1_0] 33 ?_; intro gb271 hg w4 hbox hb; have BK271 := A_ (hbox); have GW271 := A_ (sz_ hg (hb1_ HB.out GE270.out)); have GE271 := A_ (sz_ hg (hb1_ HB.out GE270.out)); have NB270_271 := A_ (nl_ hg BK270.out); have NB271_270 := A_ (ng_ hg BK270.out); replace BK270 := A_ (bb_ BK270.out hb); replace HB := A_ (below_step (hb1_ HB.out GE270.out) hb); clear hb hbox hg) | ((with_reducible refine gate_dst (N := 4) rfl ?_); refine be_ 4 #[.slice none 0 0] 33 ?_; intro gb272 hg w5 hbox hb; have BK272 := A_ (hbox); have GW272 := A_ (sz_ hg (hb2_ HB.out GE270.out GE271.out)); have GE272 := A_ (sz_ hg (hb2_ HB.out GE270.out GE271.out)); have NB270_272 := A_ (nl_ hg BK270.out); have NB272_270 := A_ (ng_ hg BK270.out); have NB271_272 := A_ (nl_ hg BK271.out); have NB272_271 := A_ (ng_ hg BK271.out); replace BK270 := A_ (bb_ BK270.out hb); replace BK271 := A_ (bb_ BK271.out hb); replace HB := A_ (below_step (hb2_ HB.out GE270.out GE271.out) hb); clear hb hbox hg)); try go_wp2_with (first | ((with_reducible refine gate_dst (N := 2) rfl ?_); refine be_ 2 #[.slice A0_0 l0_0.length c0_0] 33 ?_; intro gb270 hg w3 hbox hb; have BK270 := A_ (hbox); have GW270 := A_ (sz_ hg (hb_ HB.out)); have GE270 := A_ (sz_ hg (hb_ HB.out)); replace HB := A_ (below_step (hb_ HB.out) hb); clear hb hbox hg) | ((with_reducible refine gate_dst (N := 3) rfl ?_); refine be_ 3 #[.slice A1_0 l1_0.length c1_0] 33 ?_; intro gb271 hg w4 hbox hb; have BK271 := A_ (hbox); have GW271 := A_ (sz_ hg (hb1_ HB.out GE270.out)); have GE271 := A_ (sz_ hg (hb1_ HB.out GE270.out)); have NB270_271 := A_ (nl_ hg BK270.out); have NB271_270 := A_ (ng_ hg BK270.out); replace BK270 := A_ (bb_ BK270.out hb); replace HB := A_ (below_step (hb1_ HB.out GE270.out) hb); clear hb hbox hg) | ((with_reducible refine gate_dst (N := 4) rfl ?_); refine be_ 4 #[.slice none 0 0] 33 ?_; intro gb272 hg w5 hbox hb; have BK272 := A_ (hbox); have GW272 := A_ (sz_ hg (hb2_ HB.out GE270.out GE271.out)); have GE272 := A_ (sz_ hg (hb2_ HB.out GE270.out GE271.out)); have NB270_272 := A_ (nl_ hg BK270.out); have NB272_270 := A_ (ng_ hg BK270.out); have NB271_272 := A_ (nl_ hg BK271.out); have NB272_271 := A_ (ng_ hg BK271.out); replace BK270 := A_ (bb_ BK270.out hb); replace BK271 := A_ (bb_ BK271.out hb); replace HB := A_ (below_step (hb2_ HB.out GE270.out GE271.out) hb); clear hb hbox hg)))
 go_loopg [5, 6, 7] k (fun kq v5 v6 v7 w' => ∃ (x5_1 : List Int) (x6_1 : Int) (x7_1 : Int), v6 = .int .u64 x6_1 ∧ v7 = .int .i64 x7_1 ∧ Aside0 (r1_Add.l0 kq x5_1 x6_1 x7_1 l0_0 l1_0 = some r) ∧ Aside0 (kq ≤ k) ∧ Aside0 (Kd.R (Kd.int .u64) 22 w' w.heap.size (fun _ => True) v5 x5_1) ∧ Aside0 (w'.heap[gb270]? = some (.cells #[(.slice A0_0 l0_0.length c0_0)] 33 (0, 0))) ∧ Aside0 (w'.heap[gb271]? = some (.cells #[(.slice A1_0 l1_0.length c1_0)] 33 (0, 0))) ∧ Aside0 (w'.heap[gb272]? = some (.cells #[(.slice none 0 0)] 33 (0, 0))) ∧ Aside0 (Below w.heap.size w w'))
 case atStart => exact ⟨(([] : List Int)), (0), (0), sm_, sm_, H', ⟨Nat.le_refl _⟩, ⟨by first | exact Kd.R_nil _ _ _ _ _ | exact Kd.N_nil _ _ _ _ _ | exact Kd.V_nil _ _ _ _ _ | exact Kd.Q_nil _ _ _ _ _ | exact Kd.S_nil _ _ _ _ _⟩, ⟨bk_ BK270.out⟩, ⟨bk_ BK271.out⟩, ⟨bk_ BK272.out⟩, ⟨hb3_ HB.out GE270.out GE271.out GE272.out⟩⟩
 case round =>
  clear H'
  try clear c1
  try clear p2
  try clear c3
  obtain ⟨x5_1, x6_1, x7_1, rfl, rfl, HA, HK1, HO_5, BK270, BK271, BK272, HB⟩ := hrel
  cases gk with
  | zero => exact absurd HA.out (by simp [r1_Add.l0])
  | succ k1 =>
   have H := HA.out
   clear HA
   simp only [r1_Add.l0] at H
   have HC6 := A_ H;clear H
   go_upto_region 4 with (fail)
   repeat (go_quiet (fail); go_upto_region 4 with (fail))
   go_cut [21] (fun v21 wc => ∃ (kq : Nat) (x21_5 : Bool), v21 = .bool x21_5 ∧ Aside0 (r1_Add.j1 kq x5_1 x6_1 x7_1 x21_5 l0_0 l1_0 = some r) ∧ Aside0 (kq ≤ k1) ∧ Aside0 (Kd.R (Kd.int .u64) 22 wc w.heap.size (fun _ => True) u5 x5_1) ∧ Aside0 (wc.heap[gb270]? = some (.cells #[(.slice A0_0 l0_0.length c0_0)] 33 (0, 0))) ∧ Aside0 (wc.heap[gb271]? = some (.cells #[(.slice A1_0 l1_0.length c1_0)] 33 (0, 0))) ∧ Aside0 (wc.heap[gb272]? = some (.cells #[(.slice none 0 0)] 33 (0, 0))) ∧ Aside0 (Below w.heap.size w wc))
   case first =>
    have H := HC6.out
    clear HC6
    obtain ⟨ji7, hji7⟩ : ∃ j_ : Int, (mx (l0_0.length : Int) (l1_0.length : Int)) = j_ := ⟨_, rfl⟩
    replace H : (if x7_1 < (ji7) then (r1_Add.j1 k1 x5_1 x6_1 x7_1 true l0_0 l1_0) else (r1_Add.j1 k1 x5_1 x6_1 x7_1 (decide (x6_1 > 0)) l0_0 l1_0)) = some r := by first | (rw [hji7] at H; exact H) | (simp only [hji7] at H ⊢; exact H)
    have hji7_ : (if (l0_0.length : Int) < (l1_0.length : Int) then (l1_0.length : Int) else (l0_0.length : Int)) = ji7 := hji7
    have hji7n_ : (if l0_0.length < l1_0.length then (l1_0.length : Int) else (l0_0.length : Int)) = ji7 := by have h_ := hji7_; simpa only [Int.ofNat_lt] using h_
    by_cases c8 : x7_1 < (ji7)
    ·rw [if_pos c8] at H
     have c8b0 : decide (x7_1 < (ji7)) = true := decide_eq_true c8
     clear c8
     (first | rw [c8b0] | (simp only [i64_w, i32_w]; rw [c8b0]) | skip)
     have H' := A_ H
     clear H
     have hnb9 := NB270_271.out
     have hnc9 := NB271_270.out
     have hnb10 := NB270_272.out
     have hnc10 := NB272_270.out
     have hcz11_0 := bv_ BK270.out 0
     have hfz11_0 := blk_frozen BK270.out 0
     have hnb12 := NB271_272.out
     have hnc12 := NB272_271.out
     have hcz13_0 := bv_ BK271.out 0
     have hfz13_0 := blk_frozen BK271.out 0
     go_wp2
     repeat (go_quiet (fail); try go_wp2)
     go_meet
     case rel => exact ⟨_, (true), sm_, H', ⟨by have := HK1.out; first | omega | exact Nat.le_refl _⟩, ⟨by (with_reducible repeat (first | apply Kd.R_alloc | apply Kd.R_drewN | apply Kd.R_drew)); exact HO_5.out⟩, ⟨bk_ BK270.out⟩, ⟨bk_ BK271.out⟩, ⟨bk_ BK272.out⟩, ⟨hb3_ HB.out GE270.out GE271.out GE272.out⟩⟩
    ·rw [if_neg c8] at H
     have c8b0 : decide (x7_1 < (ji7)) = false := decide_eq_false c8
     clear c8
     (first | rw [c8b0] | (simp only [i64_w, i32_w]; rw [c8b0]) | skip)
     have H' := A_ H
     clear H
     have hnb14 := NB270_271.out
     have hnc14 := NB271_270.out
     have hnb15 := NB270_272.out
     have hnc15 := NB272_270.out
     have hcz16_0 := bv_ BK270.out 0
     have hfz16_0 := blk_frozen BK270.out 0
     have hnb17 := NB271_272.out
     have hnc17 := NB272_271.out
     have hcz18_0 := bv_ BK271.out 0
     have hfz18_0 := blk_frozen BK271.out 0
     go_wp2
     repeat (go_quiet (fail); try go_wp2)
     go_meet
     case rel => exact ⟨_, (decide (x6_1 > 0)), sm_, H', ⟨by have := HK1.out; first | omega | exact Nat.le_refl _⟩, ⟨by (with_reducible repeat (first | apply Kd.R_alloc | apply Kd.R_drewN | apply Kd.R_drew)); exact HO_5.out⟩, ⟨bk_ BK270.out⟩, ⟨bk_ BK271.out⟩, ⟨bk_ BK272.out⟩, ⟨hb3_ HB.out GE270.out GE271.out GE272.out⟩⟩
   case rest =>
    clear HC6
    try clear c1
    try clear p2
    try clear c3
    try clear c8
    try clear c8b0
    try clear c9
    try clear c10
    try clear c12
    try clear c14
    try clear c15
    try clear c17
    try clear hcz11_0
    try clear hcz13_0
    try clear hcz16_0
    try clear hcz18_0
    try clear hfz11_0
    try clear hfz13_0
    try clear hfz16_0
    try clear hfz18_0
    try clear p2
    obtain ⟨kq, x21_5, rfl, HA, HJ5, HO_5, BK270, BK271, BK272, HB⟩ := hcut
    cases kq with
    | zero => exact absurd HA.out (by simp [r1_Add.j1])
    | succ kj5 =>
     have H := HA.out
     clear HA
     simp only [r1_Add.j1] at H
     by_cases c19 : x21_5 = true
     ·subst c19
      have H1 : ((r1_at.f l0_0 x7_1).bind fun t273 => ((r1_at.f l1_0 x7_1).bind fun t274 => (if x5_1.length < 17592186044416 then (r1_Add.l0 kj5 (x5_1 ++ [Int.tmod (IntKind.u64.wrap ((IntKind.u64.wrap (t273 + t274)) + x6_1)) 4294967296]) (IntKind.u64.wrap (Int.tdiv (IntKind.u64.wrap ((IntKind.u64.wrap (t273 + t274)) + x6_1)) 4294967296)) (wrap64 (x7_1 + 1)) l0_0 l1_0) else (none)))) = some r := by rw [if_pos rfl] at H; exact H
      clear H;have H := H1;clear H1
      replace H := ob_ H
      obtain ⟨t273, A200, H⟩ := H
      replace H : ((r1_at.f l1_0 x7_1).bind fun t274 => (if x5_1.length < 17592186044416 then (r1_Add.l0 kj5 (x5_1 ++ [Int.tmod (IntKind.u64.wrap ((IntKind.u64.wrap (t273 + t274)) + x6_1)) 4294967296]) (IntKind.u64.wrap (Int.tdiv (IntKind.u64.wrap ((IntKind.u64.wrap (t273 + t274)) + x6_1)) 4294967296)) (wrap64 (x7_1 + 1)) l0_0 l1_0) else (none))) = some r := H
      have A20 := A_ A200;clear A200
      replace H := ob_ H
      obtain ⟨t274, A210, H⟩ := H
      replace H : (if x5_1.length < 17592186044416 then (r1_Add.l0 kj5 (x5_1 ++ [Int.tmod (IntKind.u64.wrap ((IntKind.u64.wrap (t273 + t274)) + x6_1)) 4294967296]) (IntKind.u64.wrap (Int.tdiv (IntKind.u64.wrap ((IntKind.u64.wrap (t273 + t274)) + x6_1)) 4294967296)) (wrap64 (x7_1 + 1)) l0_0 l1_0) else (none)) = some r := H
      have A21 := A_ A210;clear A210
      by_cases c22 : x5_1.length < 17592186044416
      ·rw [if_pos c22] at H
       have LMc22 := A_ c22;clear c22
       obtain ⟨y275, hy275⟩ : ∃ y_ : List Int, y_ = (x5_1 ++ [Int.tmod (IntKind.u64.wrap ((IntKind.u64.wrap (t273 + t274)) + x6_1)) 4294967296]) := ⟨_, rfl⟩
       replace H : (r1_Add.l0 kj5 y275 (IntKind.u64.wrap (Int.tdiv (IntKind.u64.wrap ((IntKind.u64.wrap (t273 + t274)) + x6_1)) 4294967296)) (wrap64 (x7_1 + 1)) l0_0 l1_0) = some r := by first | (rw [hy275]; with_reducible exact H) | (have H2_ := (Option.bind_some _ _).symm.trans H; rw [hy275]; with_reducible exact H2_) | (have H2_ := (Option.bind_some _ _).symm.trans H; with_reducible exact H2_) | with_reducible exact H | (rw [hy275]; exact H) | exact H
       have Ny275 := A_ hy275;clear hy275
       have H' := A_ H
       clear H
       have hnb23 := NB270_271.out
       have hnc23 := NB271_270.out
       have hnb24 := NB270_272.out
       have hnc24 := NB272_270.out
       have hcz25_0 := bv_ BK270.out 0
       have hfz25_0 := blk_frozen BK270.out 0
       go_wp2_with (first | (go_at_call 59; (with_reducible refine (r1_at.calls _ _ l0_0 x7_1 t273 _ ?side1 ?side2 A20.out).mono ?_); (case side1 => exact cs_ ((Kd.C_below HR0_0.out HB.out))); (case side2 => exact HC0_0.out); rintro e w' ⟨rfl, ⟨nd, rfl⟩⟩; (try first | exact ⟨rfl, _, World.drewN_drewN _ _ _⟩ | exact ⟨rfl, _, Eq.trans (World.drewN_drewN _ _ _) (congrArg (World.drewN _) (Nat.add_assoc _ _ _))⟩); have hnb26 := NB271_272.out; have hnc26 := NB272_271.out; have hcz27_0 := bv_ BK271.out 0; have hfz27_0 := blk_frozen BK271.out 0) | (go_at_call 59; (with_reducible refine (r1_at.calls _ _ l1_0 x7_1 t274 _ ?side1 ?side2 A21.out).mono ?_); (case side1 => exact cs_ ((Kd.C_below HR1_0.out (hb3_ HB.out GE270.out GE271.out GE272.out)))); (case side2 => exact HC1_0.out); rintro e w' ⟨rfl, ⟨nd, rfl⟩⟩; (try first | exact ⟨rfl, _, World.drewN_drewN _ _ _⟩ | exact ⟨rfl, _, Eq.trans (World.drewN_drewN _ _ _) (congrArg (World.drewN _) (Nat.add_assoc _ _ _))⟩)) | ((with_reducible refine gate_builtin (b := .append) (xs := #[.tmp 35, .tmp 38]) rfl ?_); at_builtin; refine Kd.R_append (Kd.int .u64) (w0 := w) w.heap.size rfl (.tmp 35) (.tmp 38) 25 22 (.int .u64 0) 8 rfl Try.underlying25 info22 rfl (by decide) (by omega) u5 x5_1 (Int.tmod (IntKind.u64.wrap ((IntKind.u64.wrap (t273 + t274)) + x6_1)) 4294967296) [.int .u64 (Int.tmod (IntKind.u64.wrap ((IntKind.u64.wrap (t273 + t274)) + x6_1)) 4294967296)] (fun _ => True) (fun _ => False) rfl rfl ?aP (fun _ hk => hk.elim) ?aF ?aO ?aB ?aS ?aL ?_; (case aP => exact rfl); (case aB => exact (hb3_ HB.out GE270.out GE271.out GE272.out)); (case aF => exact (fun _ _ => trivial)); (case aO => exact (kr_ HO_5.out)); (case aS => exact (below_size (hb3_ HB.out GE270.out GE271.out GE272.out))); (case aL => have := LMc22.out; omega); intro v276 w28 ho hb hg hat; rw [← Ny275.out] at ho; have n0_ := A_ (blk_grown (g := gb270) (o := .cells #[.slice A0_0 l0_0.length c0_0] 33 (0, 0)) (bk_ BK270.out) hg (Kd.R_ne HO_5.out BK270.out (by decide))); have n1_ := A_ (blk_grown (g := gb271) (o := .cells #[.slice A1_0 l1_0.length c1_0] 33 (0, 0)) (bk_ BK271.out) hg (Kd.R_ne HO_5.out BK271.out (by decide))); have n2_ := A_ (blk_grown (g := gb272) (o := .cells #[.slice none 0 0] 33 (0, 0)) (bk_ BK272.out) hg (Kd.R_ne HO_5.out BK272.out (by decide))); have n3_ := A_ (hb); have n4_ := A_ (ho); clear BK270; clear BK271; clear BK272; clear HB; clear HO_5; have BK270 := n0_; have BK271 := n1_; have BK272 := n2_; have HB := n3_; have HO277 := n4_; clear n0_ n1_ n2_ n3_ n4_; clear ho hb hg hat))
       repeat (go_quiet (first | (go_at_call 59; (with_reducible refine (r1_at.calls _ _ l0_0 x7_1 t273 _ ?side1 ?side2 A20.out).mono ?_); (case side1 => exact cs_ ((Kd.C_below HR0_0.out HB.out))); (case side2 => exact HC0_0.out); rintro e w' ⟨rfl, ⟨nd, rfl⟩⟩; (try first | exact ⟨rfl, _, World.drewN_drewN _ _ _⟩ | exact ⟨rfl, _, Eq.trans (World.drewN_drewN _ _ _) (congrArg (World.drewN _) (Nat.add_assoc _ _ _))⟩); have hnb26 := NB271_272.out; have hnc26 := NB272_271.out; have hcz27_0 := bv_ BK271.out 0; have hfz27_0 := blk_frozen BK271.out 0) | (go_at_call 59; (with_reducible refine (r1_at.calls _ _ l1_0 x7_1 t274 _ ?side1 ?side2 A21.out).mono ?_); (case side1 => exact cs_ ((Kd.C_below HR1_0.out (hb3_ HB.out GE270.out GE271.out GE272.out)))); (case side2 => exact HC1_0.out); rintro e w' ⟨rfl, ⟨nd, rfl⟩⟩; (try first | exact ⟨rfl, _, World.drewN_drewN _ _ _⟩ | exact ⟨rfl, _, Eq.trans (World.drewN_drewN _ _ _) (congrArg (World.drewN _) (Nat.add_assoc _ _ _))⟩)) | ((with_reducible refine gate_builtin (b := .append) (xs := #[.tmp 35, .tmp 38]) rfl ?_); at_builtin; refine Kd.R_append (Kd.int .u64) (w0 := w) w.heap.size rfl (.tmp 35) (.tmp 38) 25 22 (.int .u64 0) 8 rfl Try.underlying25 info22 rfl (by decide) (by omega) u5 x5_1 (Int.tmod (IntKind.u64.wrap ((IntKind.u64.wrap (t273 + t274)) + x6_1)) 4294967296) [.int .u64 (Int.tmod (IntKind.u64.wrap ((IntKind.u64.wrap (t273 + t274)) + x6_1)) 4294967296)] (fun _ => True) (fun _ => False) rfl rfl ?aP (fun _ hk => hk.elim) ?aF ?aO ?aB ?aS ?aL ?_; (case aP => exact rfl); (case aB => exact (hb3_ HB.out GE270.out GE271.out GE272.out)); (case aF => exact (fun _ _ => trivial)); (case aO => exact (kr_ HO_5.out)); (case aS => exact (below_size (hb3_ HB.out GE270.out GE271.out GE272.out))); (case aL => have := LMc22.out; omega); intro v276 w28 ho hb hg hat; rw [← Ny275.out] at ho; have n0_ := A_ (blk_grown (g := gb270) (o := .cells #[.slice A0_0 l0_0.length c0_0] 33 (0, 0)) (bk_ BK270.out) hg (Kd.R_ne HO_5.out BK270.out (by decide))); have n1_ := A_ (blk_grown (g := gb271) (o := .cells #[.slice A1_0 l1_0.length c1_0] 33 (0, 0)) (bk_ BK271.out) hg (Kd.R_ne HO_5.out BK271.out (by decide))); have n2_ := A_ (blk_grown (g := gb272) (o := .cells #[.slice none 0 0] 33 (0, 0)) (bk_ BK272.out) hg (Kd.R_ne HO_5.out BK272.out (by decide))); have n3_ := A_ (hb); have n4_ := A_ (ho); clear BK270; clear BK271; clear BK272; clear HB; clear HO_5; have BK270 := n0_; have BK271 := n1_; have BK272 := n2_; have HB := n3_; have HO277 := n4_; clear n0_ n1_ n2_ n3_ n4_; clear ho hb hg hat)); try go_wp2_with (first | (go_at_call 59; (with_reducible refine (r1_at.calls _ _ l0_0 x7_1 t273 _ ?side1 ?side2 A20.out).mono ?_); (case side1 => exact cs_ ((Kd.C_below HR0_0.out HB.out))); (case side2 => exact HC0_0.out); rintro e w' ⟨rfl, ⟨nd, rfl⟩⟩; (try first | exact ⟨rfl, _, World.drewN_drewN _ _ _⟩ | exact ⟨rfl, _, Eq.trans (World.drewN_drewN _ _ _) (congrArg (World.drewN _) (Nat.add_assoc _ _ _))⟩); have hnb26 := NB271_272.out; have hnc26 := NB272_271.out; have hcz27_0 := bv_ BK271.out 0; have hfz27_0 := blk_frozen BK271.out 0) | (go_at_call 59; (with_reducible refine (r1_at.calls _ _ l1_0 x7_1 t274 _ ?side1 ?side2 A21.out).mono ?_); (case side1 => exact cs_ ((Kd.C_below HR1_0.out (hb3_ HB.out GE270.out GE271.out GE272.out)))); (case side2 => exact HC1_0.out); rintro e w' ⟨rfl, ⟨nd, rfl⟩⟩; (try first | exact ⟨rfl, _, World.drewN_drewN _ _ _⟩ | exact ⟨rfl, _, Eq.trans (World.drewN_drewN _ _ _) (congrArg (World.drewN _) (Nat.add_assoc _ _ _))⟩)) | ((with_reducible refine gate_builtin (b := .append) (xs := #[.tmp 35, .tmp 38]) rfl ?_); at_builtin; refine Kd.R_append (Kd.int .u64) (w0 := w) w.heap.size rfl (.tmp 35) (.tmp 38) 25 22 (.int .u64 0) 8 rfl Try.underlying25 info22 rfl (by decide) (by omega) u5 x5_1 (Int.tmod (IntKind.u64.wrap ((IntKind.u64.wrap (t273 + t274)) + x6_1)) 4294967296) [.int .u64 (Int.tmod (IntKind.u64.wrap ((IntKind.u64.wrap (t273 + t274)) + x6_1)) 4294967296)] (fun _ => True) (fun _ => False) rfl rfl ?aP (fun _ hk => hk.elim) ?aF ?aO ?aB ?aS ?aL ?_; (case aP => exact rfl); (case aB => exact (hb3_ HB.out GE270.out GE271.out GE272.out)); (case aF => exact (fun _ _ => trivial)); (case aO => exact (kr_ HO_5.out)); (case aS => exact (below_size (hb3_ HB.out GE270.out GE271.out GE272.out))); (case aL => have := LMc22.out; omega); intro v276 w28 ho hb hg hat; rw [← Ny275.out] at ho; have n0_ := A_ (blk_grown (g := gb270) (o := .cells #[.slice A0_0 l0_0.length c0_0] 33 (0, 0)) (bk_ BK270.out) hg (Kd.R_ne HO_5.out BK270.out (by decide))); have n1_ := A_ (blk_grown (g := gb271) (o := .cells #[.slice A1_0 l1_0.length c1_0] 33 (0, 0)) (bk_ BK271.out) hg (Kd.R_ne HO_5.out BK271.out (by decide))); have n2_ := A_ (blk_grown (g := gb272) (o := .cells #[.slice none 0 0] 33 (0, 0)) (bk_ BK272.out) hg (Kd.R_ne HO_5.out BK272.out (by decide))); have n3_ := A_ (hb); have n4_ := A_ (ho); clear BK270; clear BK271; clear BK272; clear HB; clear HO_5; have BK270 := n0_; have BK271 := n1_; have BK272 := n2_; have HB := n3_; have HO277 := n4_; clear n0_ n1_ n2_ n3_ n4_; clear ho hb hg hat)))
       go_roundg kj5
       case measure => have := HK1.out; have := HJ5.out; omega
       case rel => exact ⟨(y275), (IntKind.u64.wrap (Int.tdiv (IntKind.u64.wrap ((IntKind.u64.wrap (t273 + t274)) + x6_1)) 4294967296)), (wrap64 (x7_1 + 1)), sm_, sm_, H', ⟨by have := HK1.out; have := HJ5.out; omega⟩, ⟨by (with_reducible repeat (first | apply Kd.R_alloc | apply Kd.R_drewN | apply Kd.R_drew)); exact HO277.out⟩, ⟨bk_ BK270.out⟩, ⟨bk_ BK271.out⟩, ⟨bk_ BK272.out⟩, ⟨hb3_ HB.out GE270.out GE271.out GE272.out⟩⟩
      ·rw [if_neg c22] at H
       exact absurd H (by simp)
     ·replace c19 := Bool.eq_false_iff.mpr c19
      subst c19
      have H1 : ((r1_trim.f kj5 x5_1).bind fun t278 => (some t278)) = some r := by rw [if_neg (show ¬ (false = true) by decide)] at H; exact H
      clear H;have H := H1;clear H1
      replace H := ob_ H
      obtain ⟨t278, A290, H⟩ := H
      replace H : (some t278) = some r := H
      have A29 := A_ A290;clear A290
      obtain rfl := Option.some.inj H
      obtain ⟨Ao30, co30, eo30⟩ := Kd.R_slice HO_5.out
      subst eo30
      go_wp2_with (first | (go_at_call 60; (with_reducible refine (r1_trim.calls kj5 (fun k_ => some k_ = (.slice Ao30 x5_1.length co30 : Value).ownBlock) (.slice Ao30 x5_1.length co30) x5_1 t278 w _ ?side1 ?side2 A29.out).mono ?_); (case side1 => exact hb3_ HB.out GE270.out GE271.out GE272.out); (case side2 => exact Kd.R_tight rfl HO_5.out); rintro e w31 ⟨v279, rfl, ho0, hb, hkp⟩; have n0_ := A_ (blk_kept (bk_ BK270.out) hkp (fun hs_ => (fun e_ => (Kd.R_ne HO_5.out BK270.out (by decide)) e_) hs_)); have n1_ := A_ (blk_kept (bk_ BK271.out) hkp (fun hs_ => (fun e_ => (Kd.R_ne HO_5.out BK271.out (by decide)) e_) hs_)); have n2_ := A_ (blk_kept (bk_ BK272.out) hkp (fun hs_ => (fun e_ => (Kd.R_ne HO_5.out BK272.out (by decide)) e_) hs_)); have n3_ := A_ (Kd.R_mono (ok' := fun k_ => True) ho0 (fun k_ hk_ => trivial)); have n4_ := A_ (hb); clear BK270; clear BK271; clear BK272; clear HB; clear HO_5; have BK270 := n0_; have BK271 := n1_; have BK272 := n2_; have HO280 := n3_; have HB := n4_; clear n0_ n1_ n2_ n3_ n4_; (try clear hb); (try clear hkp); (try clear ho0); obtain ⟨Ao32, co32, eo32⟩ := Kd.R_slice HO280.out; subst eo32; have hnb33 := NB272_270.out; have hnc33 := NB270_272.out; have hnb34 := NB272_271.out; have hnc34 := NB271_272.out; have hcz35_0 := bv_ BK272.out 0; have hfz35_0 := blk_frozen BK272.out 0))
      repeat (go_quiet (first | (go_at_call 60; (with_reducible refine (r1_trim.calls kj5 (fun k_ => some k_ = (.slice Ao30 x5_1.length co30 : Value).ownBlock) (.slice Ao30 x5_1.length co30) x5_1 t278 w _ ?side1 ?side2 A29.out).mono ?_); (case side1 => exact hb3_ HB.out GE270.out GE271.out GE272.out); (case side2 => exact Kd.R_tight rfl HO_5.out); rintro e w31 ⟨v279, rfl, ho0, hb, hkp⟩; have n0_ := A_ (blk_kept (bk_ BK270.out) hkp (fun hs_ => (fun e_ => (Kd.R_ne HO_5.out BK270.out (by decide)) e_) hs_)); have n1_ := A_ (blk_kept (bk_ BK271.out) hkp (fun hs_ => (fun e_ => (Kd.R_ne HO_5.out BK271.out (by decide)) e_) hs_)); have n2_ := A_ (blk_kept (bk_ BK272.out) hkp (fun hs_ => (fun e_ => (Kd.R_ne HO_5.out BK272.out (by decide)) e_) hs_)); have n3_ := A_ (Kd.R_mono (ok' := fun k_ => True) ho0 (fun k_ hk_ => trivial)); have n4_ := A_ (hb); clear BK270; clear BK271; clear BK272; clear HB; clear HO_5; have BK270 := n0_; have BK271 := n1_; have BK272 := n2_; have HO280 := n3_; have HB := n4_; clear n0_ n1_ n2_ n3_ n4_; (try clear hb); (try clear hkp); (try clear ho0); obtain ⟨Ao32, co32, eo32⟩ := Kd.R_slice HO280.out; subst eo32; have hnb33 := NB272_270.out; have hnc33 := NB270_272.out; have hnb34 := NB272_271.out; have hnc34 := NB271_272.out; have hcz35_0 := bv_ BK272.out 0; have hfz35_0 := blk_frozen BK272.out 0)); try go_wp2_with (first | (go_at_call 60; (with_reducible refine (r1_trim.calls kj5 (fun k_ => some k_ = (.slice Ao30 x5_1.length co30 : Value).ownBlock) (.slice Ao30 x5_1.length co30) x5_1 t278 w _ ?side1 ?side2 A29.out).mono ?_); (case side1 => exact hb3_ HB.out GE270.out GE271.out GE272.out); (case side2 => exact Kd.R_tight rfl HO_5.out); rintro e w31 ⟨v279, rfl, ho0, hb, hkp⟩; have n0_ := A_ (blk_kept (bk_ BK270.out) hkp (fun hs_ => (fun e_ => (Kd.R_ne HO_5.out BK270.out (by decide)) e_) hs_)); have n1_ := A_ (blk_kept (bk_ BK271.out) hkp (fun hs_ => (fun e_ => (Kd.R_ne HO_5.out BK271.out (by decide)) e_) hs_)); have n2_ := A_ (blk_kept (bk_ BK272.out) hkp (fun hs_ => (fun e_ => (Kd.R_ne HO_5.out BK272.out (by decide)) e_) hs_)); have n3_ := A_ (Kd.R_mono (ok' := fun k_ => True) ho0 (fun k_ hk_ => trivial)); have n4_ := A_ (hb); clear BK270; clear BK271; clear BK272; clear HB; clear HO_5; have BK270 := n0_; have BK271 := n1_; have BK272 := n2_; have HO280 := n3_; have HB := n4_; clear n0_ n1_ n2_ n3_ n4_; (try clear hb); (try clear hkp); (try clear ho0); obtain ⟨Ao32, co32, eo32⟩ := Kd.R_slice HO280.out; subst eo32; have hnb33 := NB272_270.out; have hnc33 := NB270_272.out; have hnb34 := NB272_271.out; have hnc34 := NB271_272.out; have hcz35_0 := bv_ BK272.out 0; have hfz35_0 := blk_frozen BK272.out 0)))
      refine bodyPost_ret (results_cell_row rfl _ _ gb272 33 #[.slice Ao32 t278.length co32] (0, 0) _ rfl (by (with_reducible repeat (first | refine blk_drewN ?_ _ | refine blk_drew ?_ | refine blk_alloc ?_ _)); refine blk_put (cs := #[.slice none 0 0]) ?_ 0 _ rfl; (with_reducible repeat (first | refine blk_drewN ?_ _ | refine blk_drew ?_ | refine blk_alloc ?_ _)); exact BK272.out) Try.underlying33 rfl (by kernel_rfl)) rfl ?_
      exact ⟨_, by first | rfl | (simp [errW_none, errW_some] <;> rfl) | (simp [*, errW_none, errW_some] <;> rfl), by (with_reducible repeat (first | apply Kd.R_alloc | apply Kd.R_drewN | apply Kd.R_drew)); exact Kd.R_mono (Kd.R_far (p := ⟨gb272, 0, none⟩) (Kd.R_types HO280.out BK272.out (by decide)) (fun _ hk => hk.2) (.slice Ao32 t278.length co32)) (fun _ hk => trivial), hb3_ HB.out GE270.out GE271.out GE272.out⟩
def r1_Of.f (k : Nat) (a0 : Int) : Option (List Int) := (r1_trim.f k (([Int.tmod a0 4294967296, IntKind.u64.wrap (Int.tdiv a0 4294967296)] : List Int))).bind fun t251 => (some t251)
theorem r1_Of.mono : ∀ a0 k, LeO (r1_Of.f k a0) (r1_Of.f (k + 1) a0) := by
 intro a0 k
 unfold r1_Of.f
 repeat' first
   | (with_reducible exact r1_trim.mono _ _)
   | (with_reducible exact LeO.refl _)
   | (with_reducible exact LeO.none _)
   | (with_reducible refine LeO.ite ?_ ?_)
   | (with_reducible refine LeO.bind ?_ (fun _ => ?_))
   | exact r1_trim.mono _ _
   | exact LeO.none _
   | refine LeO.ite ?_ ?_
   | refine LeO.bind ?_ (fun _ => ?_)
theorem r1_Of.calls (k : Nat) (a0 : Int) (r : List Int) (w : World) (h : r1_Of.f k a0 = some r) :
  Calls Try.prog 34 #[.int .u64 a0] w fun e w' => ∃ v0_ : Value, e = .returned (.agg #[v0_]) ∧ Kd.R (Kd.int .u64) 22 w' w.heap.size (fun _ => True) v0_ r ∧ Below w.heap.size w w' := by
 have hu33 := Try.underlying33
 have HB := A_ (Below.refl w.heap.size w)
 have H : ((r1_trim.f k (([Int.tmod a0 4294967296, IntKind.u64.wrap (Int.tdiv a0 4294967296)] : List Int))).bind fun t251 => (some t251)) = some r := h
 clear h
 obtain ⟨y248, hy248⟩ : ∃ y_ : List Int, y_ = (([Int.tmod a0 4294967296, IntKind.u64.wrap (Int.tdiv a0 4294967296)] : List Int)) := ⟨_, rfl⟩
 replace H : ((r1_trim.f k y248).bind fun t251 => (some t251)) = some r := by first | (rw [hy248]; with_reducible exact H) | (have H2_ := (Option.bind_some _ _).symm.trans H; rw [hy248]; with_reducible exact H2_) | (have H2_ := (Option.bind_some _ _).symm.trans H; with_reducible exact H2_) | with_reducible exact H | (rw [hy248]; exact H) | exact H
 have Ny248 := A_ hy248;clear hy248
 replace H := ob_ H
 obtain ⟨t251, A20, H⟩ := H
 replace H : (some t251) = some r := H
 have A2 := A_ A20;clear A20
 obtain rfl := Option.some.inj H
 go_enter Try.func34, Try.ntmps34
 go_wp2_with (first | ((with_reducible refine gate_dst (N := 2) rfl ?_); refine be_ 2 #[.slice none 0 0] 33 ?_; intro gb247 hg w3 hbox hb; have BK247 := A_ (hbox); have GW247 := A_ (sz_ hg (hb_ HB.out)); have GE247 := A_ (sz_ hg (hb_ HB.out)); replace HB := A_ (below_step (hb_ HB.out) hb); clear hb hbox hg) | ((with_reducible refine gate_dst (N := 7) rfl ?_); refine Kd.R_lit (Kd.int .u64) _ 22 ?hg (N := 7) ?hd (xs := ([Int.tmod a0 4294967296, IntKind.u64.wrap (Int.tdiv a0 4294967296)] : List Int)) (inner := [.int .u64 (Int.tmod a0 4294967296), .int .u64 (IntKind.u64.wrap (Int.tdiv a0 4294967296))]) (ok := fun _ => True) (okp := fun _ => True) ?hr ?hp (fun _ hk => hk) trivial (Below.refl _ _) (Nat.le_refl _) (by simp) ?_; (case hd => rfl); (case hg => rfl); (case hr => first | (go_simp; done) | (go_simp; rfl)); (case hp => exact (Reps.one (show Kd.M (Kd.int .u64) _ _ _ (Int.tmod a0 4294967296) [.int .u64 (Int.tmod a0 4294967296)] from rfl) (Reps.one (show Kd.M (Kd.int .u64) _ _ _ (IntKind.u64.wrap (Int.tdiv a0 4294967296)) [.int .u64 (IntKind.u64.wrap (Int.tdiv a0 4294967296))] from rfl) (Reps.none _ _)))); intro v249 w4 ho5 hb hg_ hnew_; clear hg_ hnew_; (first | rw [← Ny248.out] at ho5 | (simp only [Int.reduceToNat] at ho5; rw [← Ny248.out] at ho5)); have HO250 := A_ (Kd.R_lower ho5 (below_size (hb1_ HB.out GE247.out))); replace BK247 := A_ (bb_ BK247.out hb); replace HB := A_ (below_step (hb1_ HB.out GE247.out) hb); clear hb ho5; obtain ⟨Ao6, co6, eo6⟩ := Kd.R_slice HO250.out; subst eo6) | ((with_reducible refine gate_callee (f := 60) rfl ?_); refine gl_ (some 8) Try.func60 #[.slice Ao6 y248.length co6] ?_; (with_reducible refine (r1_trim.calls k (fun k_ => some k_ = (.slice Ao6 y248.length co6 : Value).ownBlock) (.slice Ao6 y248.length co6) y248 t251 w _ ?side1 ?side2 A2.out).mono ?_); (case side1 => exact hb1_ HB.out GE247.out); (case side2 => exact Kd.R_tight rfl HO250.out); rintro e w7 ⟨v252, rfl, ho0, hb, hkp⟩; refine ⟨_, rfl, ?_⟩; have n0_ := A_ (blk_kept (bk_ BK247.out) hkp (fun hs_ => (fun e_ => (Kd.R_ne HO250.out BK247.out (by decide)) e_) hs_)); have n1_ := A_ (Kd.R_mono (ok' := fun k_ => True) ho0 (fun k_ hk_ => trivial)); have n2_ := A_ (hb); clear BK247; clear HB; clear HO250; have BK247 := n0_; have HO253 := n1_; have HB := n2_; clear n0_ n1_ n2_; (try clear hb); (try clear hkp); (try clear ho0); obtain ⟨Ao8, co8, eo8⟩ := Kd.R_slice HO253.out; subst eo8; have hcz9_0 := bv_ BK247.out 0; have hfz9_0 := blk_frozen BK247.out 0))
 refine bodyPost_ret (results_cell_row rfl _ _ gb247 33 #[.slice Ao8 t251.length co8] (0, 0) _ rfl (by (with_reducible repeat (first | refine blk_drewN ?_ _ | refine blk_drew ?_ | refine blk_alloc ?_ _)); refine blk_put (cs := #[.slice none 0 0]) ?_ 0 _ rfl; (with_reducible repeat (first | refine blk_drewN ?_ _ | refine blk_drew ?_ | refine blk_alloc ?_ _)); exact BK247.out) Try.underlying33 rfl (by kernel_rfl)) rfl ?_
 exact ⟨_, by first | rfl | (simp [errW_none, errW_some] <;> rfl) | (simp [*, errW_none, errW_some] <;> rfl), by (with_reducible repeat (first | apply Kd.R_alloc | apply Kd.R_drewN | apply Kd.R_drew)); exact Kd.R_mono (Kd.R_far (p := ⟨gb247, 0, none⟩) (Kd.R_types HO253.out BK247.out (by decide)) (fun _ hk => hk.2) (.slice Ao8 t251.length co8)) (fun _ hk => trivial), hb1_ HB.out GE247.out⟩
mutual
def r1_Shl.l0 : Nat → Int → List Int → Int → List Int → Option (List Int)
 | 0, _, _, _, _ => none
 | k + 1, x1, x5, x6, x255000 => if x6 < (wrap64 (Int.tdiv x1 32)) then (if x5.length < 17592186044416 then (r1_Shl.l0 k x1 (x5 ++ [0]) (wrap64 (x6 + 1)) x255000) else (none)) else (r1_Shl.l1 k x1 x5 1 0 x255000)
def r1_Shl.l1 : Nat → Int → List Int → Int → Int → List Int → Option (List Int)
 | 0, _, _, _, _, _ => none
 | k + 1, x1, x5, x7, x8, x255000 => if x8 < (Int.tmod x1 32) then (r1_Shl.l1 k x1 x5 (IntKind.u64.wrap (2 * x7)) (wrap64 (x8 + 1)) x255000) else (r1_Shl.l2 k x5 x7 0 0 x255000)
def r1_Shl.l2 : Nat → List Int → Int → Int → Int → List Int → Option (List Int)
 | 0, _, _, _, _, _ => none
 | k + 1, x5, x7, x9, x10, x255000 => if x10 < (x255000.length : Int) then (if 0 ≤ x10 then (if x5.length < 17592186044416 then (r1_Shl.l2 k (x5 ++ [Int.tmod (IntKind.u64.wrap ((IntKind.u64.wrap ((rd x255000 x10) * x7)) + x9)) 4294967296]) x7 (IntKind.u64.wrap (Int.tdiv (IntKind.u64.wrap ((IntKind.u64.wrap ((rd x255000 x10) * x7)) + x9)) 4294967296)) (wrap64 (x10 + 1)) x255000) else (none)) else (none)) else (if x5.length < 17592186044416 then ((r1_trim.f k (x5 ++ [x9])).bind fun t266 => (some t266)) else (none))
end
def r1_Shl.f (k : Nat) (l0_0 : List Int) (a1 : Int) : Option (List Int) := r1_Shl.l0 k a1 ([] : List Int) 0 l0_0
theorem r1_Shl.mono_l : ∀ k, (∀ y0 y1 y2 y3, LeO (r1_Shl.l0 k y0 y1 y2 y3) (r1_Shl.l0 (k + 1) y0 y1 y2 y3)) ∧ (∀ y0 y1 y2 y3 y4, LeO (r1_Shl.l1 k y0 y1 y2 y3 y4) (r1_Shl.l1 (k + 1) y0 y1 y2 y3 y4)) ∧ (∀ y0 y1 y2 y3 y4, LeO (r1_Shl.l2 k y0 y1 y2 y3 y4) (r1_Shl.l2 (k + 1) y0 y1 y2 y3 y4))
 | 0 => ⟨fun _ _ _ _ r h => by simp [r1_Shl.l0] at h, fun _ _ _ _ _ r h => by simp [r1_Shl.l1] at h, fun _ _ _ _ _ r h => by simp [r1_Shl.l2] at h⟩
 | k + 1 => by
  obtain ⟨ih0, ih1, ih2⟩ := r1_Shl.mono_l k
  refine ⟨?_, ?_, ?_⟩
  ·intro y0 y1 y2 y3
   unfold r1_Shl.l0
   repeat' first
   | (with_reducible exact ih0 _ _ _ _)
   | (with_reducible exact ih1 _ _ _ _ _)
   | (with_reducible exact ih2 _ _ _ _ _)
   | (with_reducible exact r1_trim.mono _ _)
   | (with_reducible exact LeO.refl _)
   | (with_reducible exact LeO.none _)
   | (with_reducible refine LeO.ite ?_ ?_)
   | (with_reducible refine LeO.bind ?_ (fun _ => ?_))
   | exact ih0 _ _ _ _
   | exact ih1 _ _ _ _ _
   | exact ih2 _ _ _ _ _
   | exact r1_trim.mono _ _
   | exact LeO.none _
   | refine LeO.ite ?_ ?_
   | refine LeO.bind ?_ (fun _ => ?_)
  ·intro y0 y1 y2 y3 y4
   unfold r1_Shl.l1
   repeat' first
   | (with_reducible exact ih0 _ _ _ _)
   | (with_reducible exact ih1 _ _ _ _ _)
   | (with_reducible exact ih2 _ _ _ _ _)
   | (with_reducible exact r1_trim.mono _ _)
   | (with_reducible exact LeO.refl _)
   | (with_reducible exact LeO.none _)
   | (with_reducible refine LeO.ite ?_ ?_)
   | (with_reducible refine LeO.bind ?_ (fun _ => ?_))
   | exact ih0 _ _ _ _
   | exact ih1 _ _ _ _ _
   | exact ih2 _ _ _ _ _
   | exact r1_trim.mono _ _
   | exact LeO.none _
   | refine LeO.ite ?_ ?_
   | refine LeO.bind ?_ (fun _ => ?_)
  ·intro y0 y1 y2 y3 y4
   unfold r1_Shl.l2
   repeat' first
   | (with_reducible exact ih0 _ _ _ _)
   | (with_reducible exact ih1 _ _ _ _ _)
   | (with_reducible exact ih2 _ _ _ _ _)
   | (with_reducible exact r1_trim.mono _ _)
   | (with_reducible exact LeO.refl _)
   | (with_reducible exact LeO.none _)
   | (with_reducible refine LeO.ite ?_ ?_)
   | (with_reducible refine LeO.bind ?_ (fun _ => ?_))
   | exact ih0 _ _ _ _
   | exact ih1 _ _ _ _ _
   | exact ih2 _ _ _ _ _
   | exact r1_trim.mono _ _
   | exact LeO.none _
   | refine LeO.ite ?_ ?_
   | refine LeO.bind ?_ (fun _ => ?_)
theorem r1_Shl.mono : ∀ a0 a1 k, LeO (r1_Shl.f k a0 a1) (r1_Shl.f (k + 1) a0 a1) := by
 intro a0 a1 k
 obtain ⟨ih0, ih1, ih2⟩ := r1_Shl.mono_l k
 unfold r1_Shl.f
 repeat' first
   | (with_reducible exact ih0 _ _ _ _)
   | (with_reducible exact ih1 _ _ _ _ _)
   | (with_reducible exact ih2 _ _ _ _ _)
   | (with_reducible exact r1_trim.mono _ _)
   | (with_reducible exact LeO.refl _)
   | (with_reducible exact LeO.none _)
   | (with_reducible refine LeO.ite ?_ ?_)
   | (with_reducible refine LeO.bind ?_ (fun _ => ?_))
   | exact ih0 _ _ _ _
   | exact ih1 _ _ _ _ _
   | exact ih2 _ _ _ _ _
   | exact r1_trim.mono _ _
   | exact LeO.none _
   | refine LeO.ite ?_ ?_
   | refine LeO.bind ?_ (fun _ => ?_)
theorem r1_Shl.calls (k : Nat) (A0_0 : Option Addr) (c0_0 : Nat) (l0_0 : List Int) (a1 : Int) (r : List Int) (w : World) (hr0_0 : Kd.C (Kd.int .u64) w A0_0 l0_0.length l0_0) (hc0_0 : l0_0.length ≤ c0_0) (h : r1_Shl.f k l0_0 a1 = some r) :
  Calls Try.prog 44 #[.agg #[.slice A0_0 l0_0.length c0_0], .int .i64 a1] w fun e w' => ∃ v0_ : Value, e = .returned (.agg #[v0_]) ∧ Kd.R (Kd.int .u64) 22 w' w.heap.size (fun _ => True) v0_ r ∧ Below w.heap.size w w' := by
 have hu33 := Try.underlying33
 have HR0_0 := A_ hr0_0;have HC0_0 := A_ hc0_0;clear hr0_0 hc0_0
 have HB := A_ (Below.refl w.heap.size w)
 have H : (r1_Shl.l0 k a1 ([] : List Int) 0 l0_0) = some r := h
 clear h
 have H' := A_ H
 clear H
 go_enter Try.func44, Try.ntmps44
 go_wp2_with (first | ((with_reducible refine gate_dst (N := 2) rfl ?_); refine be_ 2 #[.slice A0_0 l0_0.length c0_0] 33 ?_; intro gb254 hg w3 hbox hb; have BK254 := A_ (hbox); have GW254 := A_ (sz_ hg (hb_ HB.out)); have GE254 := A_ (sz_ hg (hb_ HB.out)); replace HB := A_ (below_step (hb_ HB.out) hb); clear hb hbox hg) | ((with_reducible refine gate_dst (N := 4) rfl ?_); refine be_ 4 #[.slice none 0 0] 33 ?_; intro gb255 hg w4 hbox hb; have BK255 := A_ (hbox); have GW255 := A_ (sz_ hg (hb1_ HB.out GE254.out)); have GE255 := A_ (sz_ hg (hb1_ HB.out GE254.out)); have NB254_255 := A_ (nl_ hg BK254.out); have NB255_254 := A_ (ng_ hg BK254.out); replace BK254 := A_ (bb_ BK254.out hb); replace HB := A_ (below_step (hb1_ HB.out GE254.out) hb); clear hb hbox hg))
 go_loopg [5, 6] k (fun kq v5 v6 w' => ∃ (x5_1 : List Int) (x6_1 : Int), v6 = .int .i64 x6_1 ∧ Aside0 (r1_Shl.l0 kq a1 x5_1 x6_1 l0_0 = some r) ∧ Aside0 (kq ≤ k) ∧ Aside0 (Kd.R (Kd.int .u64) 22 w' w.heap.size (fun _ => True) v5 x5_1) ∧ Aside0 (w'.heap[gb254]? = some (.cells #[(.slice A0_0 l0_0.length c0_0)] 33 (0, 0))) ∧ Aside0 (w'.heap[gb255]? = some (.cells #[(.slice none 0 0)] 33 (0, 0))) ∧ Aside0 (Below w.heap.size w w'))
 case atStart => exact ⟨(([] : List Int)), (0), sm_, H', ⟨Nat.le_refl _⟩, ⟨by first | exact Kd.R_nil _ _ _ _ _ | exact Kd.N_nil _ _ _ _ _ | exact Kd.V_nil _ _ _ _ _ | exact Kd.Q_nil _ _ _ _ _ | exact Kd.S_nil _ _ _ _ _⟩, ⟨bk_ BK254.out⟩, ⟨bk_ BK255.out⟩, ⟨hb2_ HB.out GE254.out GE255.out⟩⟩
 case round =>
  clear H'
  try clear p2
  try clear c4
  obtain ⟨x5_1, x6_1, rfl, HA, HK1, HO_5, BK254, BK255, HB⟩ := hrel
  cases gk with
  | zero => exact absurd HA.out (by simp [r1_Shl.l0])
  | succ k1 =>
   have H := HA.out
   clear HA
   simp only [r1_Shl.l0] at H
   by_cases c5 : x6_1 < (wrap64 (Int.tdiv a1 32))
   ·rw [if_pos c5] at H
    have c5b0 : decide (x6_1 < (wrap64 (Int.tdiv a1 32))) = true := decide_eq_true c5
    clear c5
    by_cases c6 : x5_1.length < 17592186044416
    ·rw [if_pos c6] at H
     have LMc6 := A_ c6;clear c6
     obtain ⟨y256, hy256⟩ : ∃ y_ : List Int, y_ = (x5_1 ++ [0]) := ⟨_, rfl⟩
     replace H : (r1_Shl.l0 k1 a1 y256 (wrap64 (x6_1 + 1)) l0_0) = some r := by first | (rw [hy256]; with_reducible exact H) | (have H2_ := (Option.bind_some _ _).symm.trans H; rw [hy256]; with_reducible exact H2_) | (have H2_ := (Option.bind_some _ _).symm.trans H; with_reducible exact H2_) | with_reducible exact H | (rw [hy256]; exact H) | exact H
     have Ny256 := A_ hy256;clear hy256
     have H' := A_ H
     clear H
     go_wp2_with (first | ((with_reducible refine gate_builtin (b := .append) (xs := #[.tmp 18, .tmp 19]) rfl ?_); at_builtin; refine Kd.R_append (Kd.int .u64) (w0 := w) w.heap.size rfl (.tmp 18) (.tmp 19) 25 22 (.int .u64 0) 8 rfl Try.underlying25 info22 rfl (by decide) (by omega) u5 x5_1 0 [.int .u64 0] (fun _ => True) (fun _ => False) rfl rfl ?aP (fun _ hk => hk.elim) ?aF ?aO ?aB ?aS ?aL ?_; (case aP => exact rfl); (case aB => exact (hb2_ HB.out GE254.out GE255.out)); (case aF => exact (fun _ _ => trivial)); (case aO => exact (kr_ HO_5.out)); (case aS => exact (below_size (hb2_ HB.out GE254.out GE255.out))); (case aL => have := LMc6.out; omega); intro v257 w7 ho hb hg hat; rw [← Ny256.out] at ho; have n0_ := A_ (blk_grown (g := gb254) (o := .cells #[.slice A0_0 l0_0.length c0_0] 33 (0, 0)) (bk_ BK254.out) hg (Kd.R_ne HO_5.out BK254.out (by decide))); have n1_ := A_ (blk_grown (g := gb255) (o := .cells #[.slice none 0 0] 33 (0, 0)) (bk_ BK255.out) hg (Kd.R_ne HO_5.out BK255.out (by decide))); have n2_ := A_ (hb); have n3_ := A_ (ho); clear BK254; clear BK255; clear HB; clear HO_5; have BK254 := n0_; have BK255 := n1_; have HB := n2_; have HO258 := n3_; clear n0_ n1_ n2_ n3_; clear ho hb hg hat))
     go_roundg k1
     case measure => have := HK1.out; omega
     case rel => exact ⟨(y256), (wrap64 (x6_1 + 1)), sm_, H', ⟨by have := HK1.out; omega⟩, ⟨by (with_reducible repeat (first | apply Kd.R_alloc | apply Kd.R_drewN | apply Kd.R_drew)); exact HO258.out⟩, ⟨bk_ BK254.out⟩, ⟨bk_ BK255.out⟩, ⟨hb2_ HB.out GE254.out GE255.out⟩⟩
    ·rw [if_neg c6] at H
     exact absurd H (by simp)
   ·rw [if_neg c5] at H
    have c5b0 : decide (x6_1 < (wrap64 (Int.tdiv a1 32))) = false := decide_eq_false c5
    clear c5
    have H' := A_ H
    clear H
    go_wp2
    go_loopg [7, 8] k1 (fun kq v7 v8 w' => ∃ (x7_2 : Int) (x8_2 : Int), v7 = .int .u64 x7_2 ∧ v8 = .int .i64 x8_2 ∧ Aside0 (r1_Shl.l1 kq a1 x5_1 x7_2 x8_2 l0_0 = some r) ∧ Aside0 (kq ≤ k1) ∧ Aside0 (Kd.R (Kd.int .u64) 22 w' w.heap.size (fun _ => True) u5 x5_1) ∧ Aside0 (w'.heap[gb254]? = some (.cells #[(.slice A0_0 l0_0.length c0_0)] 33 (0, 0))) ∧ Aside0 (w'.heap[gb255]? = some (.cells #[(.slice none 0 0)] 33 (0, 0))) ∧ Aside0 (Below w.heap.size w w'))
    case atStart => exact ⟨(1), (0), sm_, sm_, H', ⟨Nat.le_refl _⟩, ⟨by (with_reducible repeat (first | apply Kd.R_alloc | apply Kd.R_drewN | apply Kd.R_drew)); exact HO_5.out⟩, ⟨bk_ BK254.out⟩, ⟨bk_ BK255.out⟩, ⟨hb2_ HB.out GE254.out GE255.out⟩⟩
    case round =>
     clear H'
     try clear p2
     try clear c4
     try clear c5
     try clear c5b0
     try clear c6
     try clear p6
     try clear p2
     obtain ⟨x7_2, x8_2, rfl, rfl, HA, HK2, HO_5, BK254, BK255, HB⟩ := hrel
     cases gk with
     | zero => exact absurd HA.out (by simp [r1_Shl.l1])
     | succ k2 =>
      have H := HA.out
      clear HA
      simp only [r1_Shl.l1] at H
      by_cases c8 : x8_2 < (Int.tmod a1 32)
      ·rw [if_pos c8] at H
       have c8b0 : decide (x8_2 < (Int.tmod a1 32)) = true := decide_eq_true c8
       clear c8
       have H' := A_ H
       clear H
       go_wp2
       go_roundg k2
       case measure => have := HK1.out; have := HK2.out; omega
       case rel => exact ⟨(IntKind.u64.wrap (2 * x7_2)), (wrap64 (x8_2 + 1)), sm_, sm_, H', ⟨by have := HK1.out; have := HK2.out; omega⟩, ⟨by (with_reducible repeat (first | apply Kd.R_alloc | apply Kd.R_drewN | apply Kd.R_drew)); exact HO_5.out⟩, ⟨bk_ BK254.out⟩, ⟨bk_ BK255.out⟩, ⟨hb2_ HB.out GE254.out GE255.out⟩⟩
      ·rw [if_neg c8] at H
       have c8b0 : decide (x8_2 < (Int.tmod a1 32)) = false := decide_eq_false c8
       clear c8
       have H' := A_ H
       clear H
       go_wp2
       go_loopg [5, 9, 10] k2 (fun kq v5 v9 v10 w' => ∃ (x5_3 : List Int) (x9_3 : Int) (x10_3 : Int), v9 = .int .u64 x9_3 ∧ v10 = .int .i64 x10_3 ∧ Aside0 (r1_Shl.l2 kq x5_3 x7_2 x9_3 x10_3 l0_0 = some r) ∧ Aside0 (kq ≤ k2) ∧ Aside0 (Kd.R (Kd.int .u64) 22 w' w.heap.size (fun _ => True) v5 x5_3) ∧ Aside0 (w'.heap[gb254]? = some (.cells #[(.slice A0_0 l0_0.length c0_0)] 33 (0, 0))) ∧ Aside0 (w'.heap[gb255]? = some (.cells #[(.slice none 0 0)] 33 (0, 0))) ∧ Aside0 (Below w.heap.size w w'))
       case atStart => exact ⟨(x5_1), (0), (0), sm_, sm_, H', ⟨Nat.le_refl _⟩, ⟨by (with_reducible repeat (first | apply Kd.R_alloc | apply Kd.R_drewN | apply Kd.R_drew)); exact HO_5.out⟩, ⟨bk_ BK254.out⟩, ⟨bk_ BK255.out⟩, ⟨hb2_ HB.out GE254.out GE255.out⟩⟩
       case round =>
        clear H'
        try clear p2
        try clear c4
        try clear c5
        try clear c5b0
        try clear c6
        try clear p6
        try clear c8
        try clear c8b0
        try clear p2
        try clear p6
        obtain ⟨x5_3, x9_3, x10_3, rfl, rfl, HA, HK3, HO_5, BK254, BK255, HB⟩ := hrel
        cases gk with
        | zero => exact absurd HA.out (by simp [r1_Shl.l2])
        | succ k3 =>
         have H := HA.out
         clear HA
         simp only [r1_Shl.l2] at H
         by_cases c9 : x10_3 < (l0_0.length : Int)
         ·rw [if_pos c9] at H
          have c9b0 : decide (x10_3 < (l0_0.length : Int)) = true := decide_eq_true c9
          clear c9
          by_cases c10 : 0 ≤ x10_3
          ·rw [if_pos c10] at H
           have c10b0 : decide (0 ≤ x10_3) = true := decide_eq_true c10
           clear c10
           by_cases c11 : x5_3.length < 17592186044416
           ·rw [if_pos c11] at H
            have LMc11 := A_ c11;clear c11
            obtain ⟨y260, hy260⟩ : ∃ y_ : List Int, y_ = (x5_3 ++ [Int.tmod (IntKind.u64.wrap ((IntKind.u64.wrap ((rd l0_0 x10_3) * x7_2)) + x9_3)) 4294967296]) := ⟨_, rfl⟩
            replace H : (r1_Shl.l2 k3 y260 x7_2 (IntKind.u64.wrap (Int.tdiv (IntKind.u64.wrap ((IntKind.u64.wrap ((rd l0_0 x10_3) * x7_2)) + x9_3)) 4294967296)) (wrap64 (x10_3 + 1)) l0_0) = some r := by first | (rw [hy260]; with_reducible exact H) | (have H2_ := (Option.bind_some _ _).symm.trans H; rw [hy260]; with_reducible exact H2_) | (have H2_ := (Option.bind_some _ _).symm.trans H; with_reducible exact H2_) | with_reducible exact H | (rw [hy260]; exact H) | exact H
            have Ny260 := A_ hy260;clear hy260
            have H' := A_ H
            clear H
            have hnb12 := NB254_255.out
            have hnc12 := NB255_254.out
            have hcz13_0 := bv_ BK254.out 0
            have hfz13_0 := blk_frozen BK254.out 0
            have p259 : 0 ≤ (x10_3 : Int) := of_decide_eq_true (by first | (with_reducible assumption) | assumption)
            have q259 : x10_3 < (l0_0.length : Int) := of_decide_eq_true (by first | (with_reducible assumption) | assumption)
            obtain ⟨ad259, e259, hx259_0⟩ := Kd.at_int HR0_0.out x10_3 p259 q259
            cases e259
            replace hx259_0 := (HB.out.cell (World.block_lt_of_cell? w _ hx259_0)).trans hx259_0
            replace p259 := eq_true p259
            replace q259 := eq_true q259
            go_wp2_with (first | ((with_reducible refine gate_builtin (b := .append) (xs := #[.tmp 45, .tmp 48]) rfl ?_); at_builtin; refine Kd.R_append (Kd.int .u64) (w0 := w) w.heap.size rfl (.tmp 45) (.tmp 48) 25 22 (.int .u64 0) 8 rfl Try.underlying25 info22 rfl (by decide) (by omega) u5 x5_3 (Int.tmod (IntKind.u64.wrap ((IntKind.u64.wrap ((rd l0_0 x10_3) * x7_2)) + x9_3)) 4294967296) [.int .u64 (Int.tmod (IntKind.u64.wrap ((IntKind.u64.wrap ((rd l0_0 x10_3) * x7_2)) + x9_3)) 4294967296)] (fun _ => True) (fun _ => False) rfl rfl ?aP (fun _ hk => hk.elim) ?aF ?aO ?aB ?aS ?aL ?_; (case aP => exact rfl); (case aB => exact (hb2_ HB.out GE254.out GE255.out)); (case aF => exact (fun _ _ => trivial)); (case aO => exact (kr_ HO_5.out)); (case aS => exact (below_size (hb2_ HB.out GE254.out GE255.out))); (case aL => have := LMc11.out; omega); intro v261 w14 ho hb hg hat; rw [← Ny260.out] at ho; have n0_ := A_ (blk_grown (g := gb254) (o := .cells #[.slice (some ad259) l0_0.length c0_0] 33 (0, 0)) (bk_ BK254.out) hg (Kd.R_ne HO_5.out BK254.out (by decide))); have n1_ := A_ (blk_grown (g := gb255) (o := .cells #[.slice none 0 0] 33 (0, 0)) (bk_ BK255.out) hg (Kd.R_ne HO_5.out BK255.out (by decide))); have n2_ := A_ (hb); have n3_ := A_ (ho); clear BK254; clear BK255; clear HB; clear HO_5; have BK254 := n0_; have BK255 := n1_; have HB := n2_; have HO262 := n3_; clear n0_ n1_ n2_ n3_; clear ho hb hg hat))
            go_roundg k3
            case measure => have := HK1.out; have := HK2.out; have := HK3.out; omega
            case rel => exact ⟨(y260), (IntKind.u64.wrap (Int.tdiv (IntKind.u64.wrap ((IntKind.u64.wrap ((rd l0_0 x10_3) * x7_2)) + x9_3)) 4294967296)), (wrap64 (x10_3 + 1)), sm_, sm_, H', ⟨by have := HK1.out; have := HK2.out; have := HK3.out; omega⟩, ⟨by (with_reducible repeat (first | apply Kd.R_alloc | apply Kd.R_drewN | apply Kd.R_drew)); exact HO262.out⟩, ⟨bk_ BK254.out⟩, ⟨bk_ BK255.out⟩, ⟨hb2_ HB.out GE254.out GE255.out⟩⟩
           ·rw [if_neg c11] at H
            exact absurd H (by simp)
          ·rw [if_neg c10] at H
           exact absurd H (by simp)
         ·rw [if_neg c9] at H
          have c9b0 : decide (x10_3 < (l0_0.length : Int)) = false := decide_eq_false c9
          clear c9
          by_cases c15 : x5_3.length < 17592186044416
          ·rw [if_pos c15] at H
           have LMc15 := A_ c15;clear c15
           obtain ⟨y263, hy263⟩ : ∃ y_ : List Int, y_ = (x5_3 ++ [x9_3]) := ⟨_, rfl⟩
           replace H : ((r1_trim.f k3 y263).bind fun t266 => (some t266)) = some r := by first | (rw [hy263]; with_reducible exact H) | (have H2_ := (Option.bind_some _ _).symm.trans H; rw [hy263]; with_reducible exact H2_) | (have H2_ := (Option.bind_some _ _).symm.trans H; with_reducible exact H2_) | with_reducible exact H | (rw [hy263]; exact H) | exact H
           have Ny263 := A_ hy263;clear hy263
           replace H := ob_ H
           obtain ⟨t266, A160, H⟩ := H
           replace H : (some t266) = some r := H
           have A16 := A_ A160;clear A160
           obtain rfl := Option.some.inj H
           have hnb17 := NB254_255.out
           have hnc17 := NB255_254.out
           have hcz18_0 := bv_ BK254.out 0
           have hfz18_0 := blk_frozen BK254.out 0
           go_wp2_with (first | ((with_reducible refine gate_builtin (b := .append) (xs := #[.tmp 52, .tmp 54]) rfl ?_); at_builtin; refine Kd.R_append (Kd.int .u64) (w0 := w) w.heap.size rfl (.tmp 52) (.tmp 54) 25 22 (.int .u64 0) 8 rfl Try.underlying25 info22 rfl (by decide) (by omega) u5 x5_3 x9_3 [.int .u64 x9_3] (fun _ => True) (fun _ => False) rfl rfl ?aP (fun _ hk => hk.elim) ?aF ?aO ?aB ?aS ?aL ?_; (case aP => exact rfl); (case aB => exact (hb2_ HB.out GE254.out GE255.out)); (case aF => exact (fun _ _ => trivial)); (case aO => exact (kr_ HO_5.out)); (case aS => exact (below_size (hb2_ HB.out GE254.out GE255.out))); (case aL => have := LMc15.out; omega); intro v264 w19 ho hb hg hat; rw [← Ny263.out] at ho; have n0_ := A_ (blk_grown (g := gb254) (o := .cells #[.slice A0_0 l0_0.length c0_0] 33 (0, 0)) (bk_ BK254.out) hg (Kd.R_ne HO_5.out BK254.out (by decide))); have n1_ := A_ (blk_grown (g := gb255) (o := .cells #[.slice none 0 0] 33 (0, 0)) (bk_ BK255.out) hg (Kd.R_ne HO_5.out BK255.out (by decide))); have n2_ := A_ (hb); have n3_ := A_ (ho); clear BK254; clear BK255; clear HB; clear HO_5; have BK254 := n0_; have BK255 := n1_; have HB := n2_; have HO265 := n3_; clear n0_ n1_ n2_ n3_; clear ho hb hg hat; obtain ⟨Ao20, co20, eo20⟩ := Kd.R_slice HO265.out; subst eo20) | ((with_reducible refine gate_callee (f := 60) rfl ?_); refine gl_ (some 56) Try.func60 #[.slice Ao20 y263.length co20] ?_; (with_reducible refine (r1_trim.calls k3 (fun k_ => some k_ = (.slice Ao20 y263.length co20 : Value).ownBlock) (.slice Ao20 y263.length co20) y263 t266 w _ ?side1 ?side2 A16.out).mono ?_); (case side1 => exact hb2_ HB.out GE254.out GE255.out); (case side2 => exact Kd.R_tight rfl HO265.out); rintro e w21 ⟨v267, rfl, ho0, hb, hkp⟩; refine ⟨_, rfl, ?_⟩; have n0_ := A_ (blk_kept (bk_ BK254.out) hkp (fun hs_ => (fun e_ => (Kd.R_ne HO265.out BK254.out (by decide)) e_) hs_)); have n1_ := A_ (blk_kept (bk_ BK255.out) hkp (fun hs_ => (fun e_ => (Kd.R_ne HO265.out BK255.out (by decide)) e_) hs_)); have n2_ := A_ (Kd.R_mono (ok' := fun k_ => True) ho0 (fun k_ hk_ => trivial)); have n3_ := A_ (hb); clear BK254; clear BK255; clear HB; clear HO265; have BK254 := n0_; have BK255 := n1_; have HO268 := n2_; have HB := n3_; clear n0_ n1_ n2_ n3_; (try clear hb); (try clear hkp); (try clear ho0); obtain ⟨Ao22, co22, eo22⟩ := Kd.R_slice HO268.out; subst eo22; have hcz23_0 := bv_ BK255.out 0; have hfz23_0 := blk_frozen BK255.out 0))
           refine bodyPost_ret (results_cell_row rfl _ _ gb255 33 #[.slice Ao22 t266.length co22] (0, 0) _ rfl (by (with_reducible repeat (first | refine blk_drewN ?_ _ | refine blk_drew ?_ | refine blk_alloc ?_ _)); refine blk_put (cs := #[.slice none 0 0]) ?_ 0 _ rfl; (with_reducible repeat (first | refine blk_drewN ?_ _ | refine blk_drew ?_ | refine blk_alloc ?_ _)); exact BK255.out) Try.underlying33 rfl (by kernel_rfl)) rfl ?_
           exact ⟨_, by first | rfl | (simp [errW_none, errW_some] <;> rfl) | (simp [*, errW_none, errW_some] <;> rfl), by (with_reducible repeat (first | apply Kd.R_alloc | apply Kd.R_drewN | apply Kd.R_drew)); exact Kd.R_mono (Kd.R_far (p := ⟨gb255, 0, none⟩) (Kd.R_types HO268.out BK255.out (by decide)) (fun _ hk => hk.2) (.slice Ao22 t266.length co22)) (fun _ hk => trivial), hb2_ HB.out GE254.out GE255.out⟩
          ·rw [if_neg c15] at H
           exact absurd H (by simp)
def r1_Sub.l0 : Nat → List Int → Int → Int → List Int → List Int → Option (List Int)
 | 0, _, _, _, _, _ => none
 | k + 1, x5, x6, x7, x288000, x289000 => if x7 < (x288000.length : Int) then (if 0 ≤ x7 then ((r1_at.f x289000 x7).bind fun t291 => (if x5.length < 17592186044416 then (r1_Sub.l0 k (x5 ++ [Int.tmod (IntKind.u64.wrap ((IntKind.u64.wrap ((IntKind.u64.wrap ((rd x288000 x7) + 4294967296)) - t291)) - x6)) 4294967296]) (IntKind.u64.wrap (1 - (IntKind.u64.wrap (Int.tdiv (IntKind.u64.wrap ((IntKind.u64.wrap ((IntKind.u64.wrap ((rd x288000 x7) + 4294967296)) - t291)) - x6)) 4294967296)))) (wrap64 (x7 + 1)) x288000 x289000) else (none))) else (none)) else ((r1_trim.f k x5).bind fun t295 => (some t295))
def r1_Sub.f (k : Nat) (l0_0 : List Int) (l1_0 : List Int) : Option (List Int) := r1_Sub.l0 k ([] : List Int) 0 0 l0_0 l1_0
theorem r1_Sub.mono_l : ∀ k, (∀ y0 y1 y2 y3 y4, LeO (r1_Sub.l0 k y0 y1 y2 y3 y4) (r1_Sub.l0 (k + 1) y0 y1 y2 y3 y4))
 | 0 => fun _ _ _ _ _ r h => by simp [r1_Sub.l0] at h
 | k + 1 => by
  have ih0 := r1_Sub.mono_l k
  ·intro y0 y1 y2 y3 y4
   unfold r1_Sub.l0
   repeat' first
   | (with_reducible exact ih0 _ _ _ _ _)
   | (with_reducible exact r1_trim.mono _ _)
   | (with_reducible exact LeO.refl _)
   | (with_reducible exact LeO.none _)
   | (with_reducible refine LeO.ite ?_ ?_)
   | (with_reducible refine LeO.bind ?_ (fun _ => ?_))
   | exact ih0 _ _ _ _ _
   | exact r1_trim.mono _ _
   | exact LeO.none _
   | refine LeO.ite ?_ ?_
   | refine LeO.bind ?_ (fun _ => ?_)
theorem r1_Sub.mono : ∀ a0 a1 k, LeO (r1_Sub.f k a0 a1) (r1_Sub.f (k + 1) a0 a1) := by
 intro a0 a1 k
 have ih0 := r1_Sub.mono_l k
 unfold r1_Sub.f
 repeat' first
   | (with_reducible exact ih0 _ _ _ _ _)
   | (with_reducible exact r1_trim.mono _ _)
   | (with_reducible exact LeO.refl _)
   | (with_reducible exact LeO.none _)
   | (with_reducible refine LeO.ite ?_ ?_)
   | (with_reducible refine LeO.bind ?_ (fun _ => ?_))
   | exact ih0 _ _ _ _ _
   | exact r1_trim.mono _ _
   | exact LeO.none _
   | refine LeO.ite ?_ ?_
   | refine LeO.bind ?_ (fun _ => ?_)
theorem r1_Sub.calls (k : Nat) (A0_0 : Option Addr) (c0_0 : Nat) (l0_0 : List Int) (A1_0 : Option Addr) (c1_0 : Nat) (l1_0 : List Int) (r : List Int) (w : World) (hr0_0 : Kd.C (Kd.int .u64) w A0_0 l0_0.length l0_0) (hc0_0 : l0_0.length ≤ c0_0) (hr1_0 : Kd.C (Kd.int .u64) w A1_0 l1_0.length l1_0) (hc1_0 : l1_0.length ≤ c1_0) (h : r1_Sub.f k l0_0 l1_0 = some r) :
  Calls Try.prog 66 #[.agg #[.slice A0_0 l0_0.length c0_0], .agg #[.slice A1_0 l1_0.length c1_0]] w fun e w' => ∃ v0_ : Value, e = .returned (.agg #[v0_]) ∧ Kd.R (Kd.int .u64) 22 w' w.heap.size (fun _ => True) v0_ r ∧ Below w.heap.size w w' := by
 have hu33 := Try.underlying33
 have HR0_0 := A_ hr0_0;have HC0_0 := A_ hc0_0;clear hr0_0 hc0_0;have HR1_0 := A_ hr1_0;have HC1_0 := A_ hc1_0;clear hr1_0 hc1_0
 have HB := A_ (Below.refl w.heap.size w)
 have H : (r1_Sub.l0 k ([] : List Int) 0 0 l0_0 l1_0) = some r := h
 clear h
 have H' := A_ H
 clear H
 go_enter Try.func66, Try.ntmps66
 go_wp2_with (first | ((with_reducible refine gate_dst (N := 2) rfl ?_); refine be_ 2 #[.slice A0_0 l0_0.length c0_0] 33 ?_; intro gb287 hg w3 hbox hb; have BK287 := A_ (hbox); have GW287 := A_ (sz_ hg (hb_ HB.out)); have GE287 := A_ (sz_ hg (hb_ HB.out)); replace HB := A_ (below_step (hb_ HB.out) hb); clear hb hbox hg) | ((with_reducible refine gate_dst (N := 3) rfl ?_); refine be_ 3 #[.slice A1_0 l1_0.length c1_0] 33 ?_; intro gb288 hg w4 hbox hb; have BK288 := A_ (hbox); have GW288 := A_ (sz_ hg (hb1_ HB.out GE287.out)); have GE288 := A_ (sz_ hg (hb1_ HB.out GE287.out)); have NB287_288 := A_ (nl_ hg BK287.out); have NB288_287 := A_ (ng_ hg BK287.out); replace BK287 := A_ (bb_ BK287.out hb); replace HB := A_ (below_step (hb1_ HB.out GE287.out) hb); clear hb hbox hg) | ((with_reducible refine gate_dst (N := 4) rfl ?_); refine be_ 4 #[.slice none 0 0] 33 ?_; intro gb289 hg w5 hbox hb; have BK289 := A_ (hbox); have GW289 := A_ (sz_ hg (hb2_ HB.out GE287.out GE288.out)); have GE289 := A_ (sz_ hg (hb2_ HB.out GE287.out GE288.out)); have NB287_289 := A_ (nl_ hg BK287.out); have NB289_287 := A_ (ng_ hg BK287.out); have NB288_289 := A_ (nl_ hg BK288.out); have NB289_288 := A_ (ng_ hg BK288.out); replace BK287 := A_ (bb_ BK287.out hb); replace BK288 := A_ (bb_ BK288.out hb); replace HB := A_ (below_step (hb2_ HB.out GE287.out GE288.out) hb); clear hb hbox hg))
 repeat (go_quiet (first | ((with_reducible refine gate_dst (N := 2) rfl ?_); refine be_ 2 #[.slice A0_0 l0_0.length c0_0] 33 ?_; intro gb287 hg w3 hbox hb; have BK287 := A_ (hbox); have GW287 := A_ (sz_ hg (hb_ HB.out)); have GE287 := A_ (sz_ hg (hb_ HB.out)); replace HB := A_ (below_step (hb_ HB.out) hb); clear hb hbox hg) | ((with_reducible refine gate_dst (N := 3) rfl ?_); refine be_ 3 #[.slice A1_0 l1_0.length c1_0] 33 ?_; intro gb288 hg w4 hbox hb; have BK288 := A_ (hbox); have GW288 := A_ (sz_ hg (hb1_ HB.out GE287.out)); have GE288 := A_ (sz_ hg (hb1_ HB.out GE287.out)); have NB287_288 := A_ (nl_ hg BK287.out); have NB288_287 := A_ (ng_ hg BK287.out); replace BK287 := A_ (bb_ BK287.out hb); replace HB := A_ (below_step (hb1_ HB.out GE287.out) hb); clear hb hbox hg) | ((with_reducible refine gate_dst (N := 4) rfl ?_); refine be_ 4 #[.slice none 0 0] 33 ?_; intro gb289 hg w5 hbox hb; have BK289 := A_ (hbox); have GW289 := A_ (sz_ hg (hb2_ HB.out GE287.out GE288.out)); have GE289 := A_ (sz_ hg (hb2_ HB.out GE287.out GE288.out)); have NB287_289 := A_ (nl_ hg BK287.out); have NB289_287 := A_ (ng_ hg BK287.out); have NB288_289 := A_ (nl_ hg BK288.out); have NB289_288 := A_ (ng_ hg BK288.out); replace BK287 := A_ (bb_ BK287.out hb); replace BK288 := A_ (bb_ BK288.out hb); replace HB := A_ (below_step (hb2_ HB.out GE287.out GE288.out) hb); clear hb hbox hg)); try go_wp2_with (first | ((with_reducible refine gate_dst (N := 2) rfl ?_); refine be_ 2 #[.slice A0_0 l0_0.length c0_0] 33 ?_; intro gb287 hg w3 hbox hb; have BK287 := A_ (hbox); have GW287 := A_ (sz_ hg (hb_ HB.out)); have GE287 := A_ (sz_ hg (hb_ HB.out)); replace HB := A_ (below_step (hb_ HB.out) hb); clear hb hbox hg) | ((with_reducible refine gate_dst (N := 3) rfl ?_); refine be_ 3 #[.slice A1_0 l1_0.length c1_0] 33 ?_; intro gb288 hg w4 hbox hb; have BK288 := A_ (hbox); have GW288 := A_ (sz_ hg (hb1_ HB.out GE287.out)); have GE288 := A_ (sz_ hg (hb1_ HB.out GE287.out)); have NB287_288 := A_ (nl_ hg BK287.out); have NB288_287 := A_ (ng_ hg BK287.out); replace BK287 := A_ (bb_ BK287.out hb); replace HB := A_ (below_step (hb1_ HB.out GE287.out) hb); clear hb hbox hg) | ((with_reducible refine gate_dst (N := 4) rfl ?_); refine be_ 4 #[.slice none 0 0] 33 ?_; intro gb289 hg w5 hbox hb; have BK289 := A_ (hbox); have GW289 := A_ (sz_ hg (hb2_ HB.out GE287.out GE288.out)); have GE289 := A_ (sz_ hg (hb2_ HB.out GE287.out GE288.out)); have NB287_289 := A_ (nl_ hg BK287.out); have NB289_287 := A_ (ng_ hg BK287.out); have NB288_289 := A_ (nl_ hg BK288.out); have NB289_288 := A_ (ng_ hg BK288.out); replace BK287 := A_ (bb_ BK287.out hb); replace BK288 := A_ (bb_ BK288.out hb); replace HB := A_ (below_step (hb2_ HB.out GE287.out GE288.out) hb); clear hb hbox hg)))
 go_loopg [5, 6, 7] k (fun kq v5 v6 v7 w' => ∃ (x5_1 : List Int) (x6_1 : Int) (x7_1 : Int), v6 = .int .u64 x6_1 ∧ v7 = .int .i64 x7_1 ∧ Aside0 (r1_Sub.l0 kq x5_1 x6_1 x7_1 l0_0 l1_0 = some r) ∧ Aside0 (kq ≤ k) ∧ Aside0 (Kd.R (Kd.int .u64) 22 w' w.heap.size (fun _ => True) v5 x5_1) ∧ Aside0 (w'.heap[gb287]? = some (.cells #[(.slice A0_0 l0_0.length c0_0)] 33 (0, 0))) ∧ Aside0 (w'.heap[gb288]? = some (.cells #[(.slice A1_0 l1_0.length c1_0)] 33 (0, 0))) ∧ Aside0 (w'.heap[gb289]? = some (.cells #[(.slice none 0 0)] 33 (0, 0))) ∧ Aside0 (Below w.heap.size w w'))
 case atStart => exact ⟨(([] : List Int)), (0), (0), sm_, sm_, H', ⟨Nat.le_refl _⟩, ⟨by first | exact Kd.R_nil _ _ _ _ _ | exact Kd.N_nil _ _ _ _ _ | exact Kd.V_nil _ _ _ _ _ | exact Kd.Q_nil _ _ _ _ _ | exact Kd.S_nil _ _ _ _ _⟩, ⟨bk_ BK287.out⟩, ⟨bk_ BK288.out⟩, ⟨bk_ BK289.out⟩, ⟨hb3_ HB.out GE287.out GE288.out GE289.out⟩⟩
 case round =>
  clear H'
  try clear c1
  try clear p2
  obtain ⟨x5_1, x6_1, x7_1, rfl, rfl, HA, HK1, HO_5, BK287, BK288, BK289, HB⟩ := hrel
  cases gk with
  | zero => exact absurd HA.out (by simp [r1_Sub.l0])
  | succ k1 =>
   have H := HA.out
   clear HA
   simp only [r1_Sub.l0] at H
   by_cases c6 : x7_1 < (l0_0.length : Int)
   ·rw [if_pos c6] at H
    have c6b0 : decide (x7_1 < (l0_0.length : Int)) = true := decide_eq_true c6
    clear c6
    by_cases c7 : 0 ≤ x7_1
    ·rw [if_pos c7] at H
     have c7b0 : decide (0 ≤ x7_1) = true := decide_eq_true c7
     clear c7
     replace H := ob_ H
     obtain ⟨t291, A80, H⟩ := H
     replace H : (if x5_1.length < 17592186044416 then (r1_Sub.l0 k1 (x5_1 ++ [Int.tmod (IntKind.u64.wrap ((IntKind.u64.wrap ((IntKind.u64.wrap ((rd l0_0 x7_1) + 4294967296)) - t291)) - x6_1)) 4294967296]) (IntKind.u64.wrap (1 - (IntKind.u64.wrap (Int.tdiv (IntKind.u64.wrap ((IntKind.u64.wrap ((IntKind.u64.wrap ((rd l0_0 x7_1) + 4294967296)) - t291)) - x6_1)) 4294967296)))) (wrap64 (x7_1 + 1)) l0_0 l1_0) else (none)) = some r := H
     have A8 := A_ A80;clear A80
     by_cases c9 : x5_1.length < 17592186044416
     ·rw [if_pos c9] at H
      have LMc9 := A_ c9;clear c9
      obtain ⟨y292, hy292⟩ : ∃ y_ : List Int, y_ = (x5_1 ++ [Int.tmod (IntKind.u64.wrap ((IntKind.u64.wrap ((IntKind.u64.wrap ((rd l0_0 x7_1) + 4294967296)) - t291)) - x6_1)) 4294967296]) := ⟨_, rfl⟩
      replace H : (r1_Sub.l0 k1 y292 (IntKind.u64.wrap (1 - (IntKind.u64.wrap (Int.tdiv (IntKind.u64.wrap ((IntKind.u64.wrap ((IntKind.u64.wrap ((rd l0_0 x7_1) + 4294967296)) - t291)) - x6_1)) 4294967296)))) (wrap64 (x7_1 + 1)) l0_0 l1_0) = some r := by first | (rw [hy292]; with_reducible exact H) | (have H2_ := (Option.bind_some _ _).symm.trans H; rw [hy292]; with_reducible exact H2_) | (have H2_ := (Option.bind_some _ _).symm.trans H; with_reducible exact H2_) | with_reducible exact H | (rw [hy292]; exact H) | exact H
      have Ny292 := A_ hy292;clear hy292
      have H' := A_ H
      clear H
      have hnb10 := NB287_288.out
      have hnc10 := NB288_287.out
      have hnb11 := NB287_289.out
      have hnc11 := NB289_287.out
      have hcz12_0 := bv_ BK287.out 0
      have hfz12_0 := blk_frozen BK287.out 0
      have p290 : 0 ≤ (x7_1 : Int) := of_decide_eq_true (by first | (with_reducible assumption) | assumption)
      have q290 : x7_1 < (l0_0.length : Int) := of_decide_eq_true (by first | (with_reducible assumption) | assumption)
      obtain ⟨ad290, e290, hx290_0⟩ := Kd.at_int HR0_0.out x7_1 p290 q290
      cases e290
      replace hx290_0 := (HB.out.cell (World.block_lt_of_cell? w _ hx290_0)).trans hx290_0
      replace p290 := eq_true p290
      replace q290 := eq_true q290
      have hnb13 := NB288_289.out
      have hnc13 := NB289_288.out
      have hcz14_0 := bv_ BK288.out 0
      have hfz14_0 := blk_frozen BK288.out 0
      go_wp2_with (first | (go_at_call 59; (with_reducible refine (r1_at.calls _ _ l1_0 x7_1 t291 _ ?side1 ?side2 A8.out).mono ?_); (case side1 => exact cs_ ((Kd.C_below HR1_0.out HB.out))); (case side2 => exact HC1_0.out); rintro e w' ⟨rfl, ⟨nd, rfl⟩⟩; (try first | exact ⟨rfl, _, World.drewN_drewN _ _ _⟩ | exact ⟨rfl, _, Eq.trans (World.drewN_drewN _ _ _) (congrArg (World.drewN _) (Nat.add_assoc _ _ _))⟩)) | ((with_reducible refine gate_builtin (b := .append) (xs := #[.tmp 29, .tmp 32]) rfl ?_); at_builtin; refine Kd.R_append (Kd.int .u64) (w0 := w) w.heap.size rfl (.tmp 29) (.tmp 32) 25 22 (.int .u64 0) 8 rfl Try.underlying25 info22 rfl (by decide) (by omega) u5 x5_1 (Int.tmod (IntKind.u64.wrap ((IntKind.u64.wrap ((IntKind.u64.wrap ((rd l0_0 x7_1) + 4294967296)) - t291)) - x6_1)) 4294967296) [.int .u64 (Int.tmod (IntKind.u64.wrap ((IntKind.u64.wrap ((IntKind.u64.wrap ((rd l0_0 x7_1) + 4294967296)) - t291)) - x6_1)) 4294967296)] (fun _ => True) (fun _ => False) rfl rfl ?aP (fun _ hk => hk.elim) ?aF ?aO ?aB ?aS ?aL ?_; (case aP => exact rfl); (case aB => exact (hb3_ HB.out GE287.out GE288.out GE289.out)); (case aF => exact (fun _ _ => trivial)); (case aO => exact (kr_ HO_5.out)); (case aS => exact (below_size (hb3_ HB.out GE287.out GE288.out GE289.out))); (case aL => have := LMc9.out; omega); intro v293 w15 ho hb hg hat; rw [← Ny292.out] at ho; have n0_ := A_ (blk_grown (g := gb287) (o := .cells #[.slice (some ad290) l0_0.length c0_0] 33 (0, 0)) (bk_ BK287.out) hg (Kd.R_ne HO_5.out BK287.out (by decide))); have n1_ := A_ (blk_grown (g := gb288) (o := .cells #[.slice A1_0 l1_0.length c1_0] 33 (0, 0)) (bk_ BK288.out) hg (Kd.R_ne HO_5.out BK288.out (by decide))); have n2_ := A_ (blk_grown (g := gb289) (o := .cells #[.slice none 0 0] 33 (0, 0)) (bk_ BK289.out) hg (Kd.R_ne HO_5.out BK289.out (by decide))); have n3_ := A_ (hb); have n4_ := A_ (ho); clear BK287; clear BK288; clear BK289; clear HB; clear HO_5; have BK287 := n0_; have BK288 := n1_; have BK289 := n2_; have HB := n3_; have HO294 := n4_; clear n0_ n1_ n2_ n3_ n4_; clear ho hb hg hat))
      repeat (go_quiet (first | (go_at_call 59; (with_reducible refine (r1_at.calls _ _ l1_0 x7_1 t291 _ ?side1 ?side2 A8.out).mono ?_); (case side1 => exact cs_ ((Kd.C_below HR1_0.out HB.out))); (case side2 => exact HC1_0.out); rintro e w' ⟨rfl, ⟨nd, rfl⟩⟩; (try first | exact ⟨rfl, _, World.drewN_drewN _ _ _⟩ | exact ⟨rfl, _, Eq.trans (World.drewN_drewN _ _ _) (congrArg (World.drewN _) (Nat.add_assoc _ _ _))⟩)) | ((with_reducible refine gate_builtin (b := .append) (xs := #[.tmp 29, .tmp 32]) rfl ?_); at_builtin; refine Kd.R_append (Kd.int .u64) (w0 := w) w.heap.size rfl (.tmp 29) (.tmp 32) 25 22 (.int .u64 0) 8 rfl Try.underlying25 info22 rfl (by decide) (by omega) u5 x5_1 (Int.tmod (IntKind.u64.wrap ((IntKind.u64.wrap ((IntKind.u64.wrap ((rd l0_0 x7_1) + 4294967296)) - t291)) - x6_1)) 4294967296) [.int .u64 (Int.tmod (IntKind.u64.wrap ((IntKind.u64.wrap ((IntKind.u64.wrap ((rd l0_0 x7_1) + 4294967296)) - t291)) - x6_1)) 4294967296)] (fun _ => True) (fun _ => False) rfl rfl ?aP (fun _ hk => hk.elim) ?aF ?aO ?aB ?aS ?aL ?_; (case aP => exact rfl); (case aB => exact (hb3_ HB.out GE287.out GE288.out GE289.out)); (case aF => exact (fun _ _ => trivial)); (case aO => exact (kr_ HO_5.out)); (case aS => exact (below_size (hb3_ HB.out GE287.out GE288.out GE289.out))); (case aL => have := LMc9.out; omega); intro v293 w15 ho hb hg hat; rw [← Ny292.out] at ho; have n0_ := A_ (blk_grown (g := gb287) (o := .cells #[.slice (some ad290) l0_0.length c0_0] 33 (0, 0)) (bk_ BK287.out) hg (Kd.R_ne HO_5.out BK287.out (by decide))); have n1_ := A_ (blk_grown (g := gb288) (o := .cells #[.slice A1_0 l1_0.length c1_0] 33 (0, 0)) (bk_ BK288.out) hg (Kd.R_ne HO_5.out BK288.out (by decide))); have n2_ := A_ (blk_grown (g := gb289) (o := .cells #[.slice none 0 0] 33 (0, 0)) (bk_ BK289.out) hg (Kd.R_ne HO_5.out BK289.out (by decide))); have n3_ := A_ (hb); have n4_ := A_ (ho); clear BK287; clear BK288; clear BK289; clear HB; clear HO_5; have BK287 := n0_; have BK288 := n1_; have BK289 := n2_; have HB := n3_; have HO294 := n4_; clear n0_ n1_ n2_ n3_ n4_; clear ho hb hg hat)); try go_wp2_with (first | (go_at_call 59; (with_reducible refine (r1_at.calls _ _ l1_0 x7_1 t291 _ ?side1 ?side2 A8.out).mono ?_); (case side1 => exact cs_ ((Kd.C_below HR1_0.out HB.out))); (case side2 => exact HC1_0.out); rintro e w' ⟨rfl, ⟨nd, rfl⟩⟩; (try first | exact ⟨rfl, _, World.drewN_drewN _ _ _⟩ | exact ⟨rfl, _, Eq.trans (World.drewN_drewN _ _ _) (congrArg (World.drewN _) (Nat.add_assoc _ _ _))⟩)) | ((with_reducible refine gate_builtin (b := .append) (xs := #[.tmp 29, .tmp 32]) rfl ?_); at_builtin; refine Kd.R_append (Kd.int .u64) (w0 := w) w.heap.size rfl (.tmp 29) (.tmp 32) 25 22 (.int .u64 0) 8 rfl Try.underlying25 info22 rfl (by decide) (by omega) u5 x5_1 (Int.tmod (IntKind.u64.wrap ((IntKind.u64.wrap ((IntKind.u64.wrap ((rd l0_0 x7_1) + 4294967296)) - t291)) - x6_1)) 4294967296) [.int .u64 (Int.tmod (IntKind.u64.wrap ((IntKind.u64.wrap ((IntKind.u64.wrap ((rd l0_0 x7_1) + 4294967296)) - t291)) - x6_1)) 4294967296)] (fun _ => True) (fun _ => False) rfl rfl ?aP (fun _ hk => hk.elim) ?aF ?aO ?aB ?aS ?aL ?_; (case aP => exact rfl); (case aB => exact (hb3_ HB.out GE287.out GE288.out GE289.out)); (case aF => exact (fun _ _ => trivial)); (case aO => exact (kr_ HO_5.out)); (case aS => exact (below_size (hb3_ HB.out GE287.out GE288.out GE289.out))); (case aL => have := LMc9.out; omega); intro v293 w15 ho hb hg hat; rw [← Ny292.out] at ho; have n0_ := A_ (blk_grown (g := gb287) (o := .cells #[.slice (some ad290) l0_0.length c0_0] 33 (0, 0)) (bk_ BK287.out) hg (Kd.R_ne HO_5.out BK287.out (by decide))); have n1_ := A_ (blk_grown (g := gb288) (o := .cells #[.slice A1_0 l1_0.length c1_0] 33 (0, 0)) (bk_ BK288.out) hg (Kd.R_ne HO_5.out BK288.out (by decide))); have n2_ := A_ (blk_grown (g := gb289) (o := .cells #[.slice none 0 0] 33 (0, 0)) (bk_ BK289.out) hg (Kd.R_ne HO_5.out BK289.out (by decide))); have n3_ := A_ (hb); have n4_ := A_ (ho); clear BK287; clear BK288; clear BK289; clear HB; clear HO_5; have BK287 := n0_; have BK288 := n1_; have BK289 := n2_; have HB := n3_; have HO294 := n4_; clear n0_ n1_ n2_ n3_ n4_; clear ho hb hg hat)))
      go_roundg k1
      case measure => have := HK1.out; omega
      case rel => exact ⟨(y292), (IntKind.u64.wrap (1 - (IntKind.u64.wrap (Int.tdiv (IntKind.u64.wrap ((IntKind.u64.wrap ((IntKind.u64.wrap ((rd l0_0 x7_1) + 4294967296)) - t291)) - x6_1)) 4294967296)))), (wrap64 (x7_1 + 1)), sm_, sm_, H', ⟨by have := HK1.out; omega⟩, ⟨by (with_reducible repeat (first | apply Kd.R_alloc | apply Kd.R_drewN | apply Kd.R_drew)); exact HO294.out⟩, ⟨bk_ BK287.out⟩, ⟨bk_ BK288.out⟩, ⟨bk_ BK289.out⟩, ⟨hb3_ HB.out GE287.out GE288.out GE289.out⟩⟩
     ·rw [if_neg c9] at H
      exact absurd H (by simp)
    ·rw [if_neg c7] at H
     exact absurd H (by simp)
   ·rw [if_neg c6] at H
    have c6b0 : decide (x7_1 < (l0_0.length : Int)) = false := decide_eq_false c6
    clear c6
    replace H := ob_ H
    obtain ⟨t295, A160, H⟩ := H
    replace H : (some t295) = some r := H
    have A16 := A_ A160;clear A160
    obtain rfl := Option.some.inj H
    have hnb17 := NB287_288.out
    have hnc17 := NB288_287.out
    have hnb18 := NB287_289.out
    have hnc18 := NB289_287.out
    have hcz19_0 := bv_ BK287.out 0
    have hfz19_0 := blk_frozen BK287.out 0
    obtain ⟨Ao20, co20, eo20⟩ := Kd.R_slice HO_5.out
    subst eo20
    go_wp2_with (first | (go_at_call 60; (with_reducible refine (r1_trim.calls k1 (fun k_ => some k_ = (.slice Ao20 x5_1.length co20 : Value).ownBlock) (.slice Ao20 x5_1.length co20) x5_1 t295 w _ ?side1 ?side2 A16.out).mono ?_); (case side1 => exact hb3_ HB.out GE287.out GE288.out GE289.out); (case side2 => exact Kd.R_tight rfl HO_5.out); rintro e w21 ⟨v296, rfl, ho0, hb, hkp⟩; have n0_ := A_ (blk_kept (bk_ BK287.out) hkp (fun hs_ => (fun e_ => (Kd.R_ne HO_5.out BK287.out (by decide)) e_) hs_)); have n1_ := A_ (blk_kept (bk_ BK288.out) hkp (fun hs_ => (fun e_ => (Kd.R_ne HO_5.out BK288.out (by decide)) e_) hs_)); have n2_ := A_ (blk_kept (bk_ BK289.out) hkp (fun hs_ => (fun e_ => (Kd.R_ne HO_5.out BK289.out (by decide)) e_) hs_)); have n3_ := A_ (Kd.R_mono (ok' := fun k_ => True) ho0 (fun k_ hk_ => trivial)); have n4_ := A_ (hb); clear BK287; clear BK288; clear BK289; clear HB; clear HO_5; have BK287 := n0_; have BK288 := n1_; have BK289 := n2_; have HO297 := n3_; have HB := n4_; clear n0_ n1_ n2_ n3_ n4_; (try clear hb); (try clear hkp); (try clear ho0); obtain ⟨Ao22, co22, eo22⟩ := Kd.R_slice HO297.out; subst eo22; have hnb23 := NB289_288.out; have hnc23 := NB288_289.out; have hcz24_0 := bv_ BK289.out 0; have hfz24_0 := blk_frozen BK289.out 0))
    repeat (go_quiet (first | (go_at_call 60; (with_reducible refine (r1_trim.calls k1 (fun k_ => some k_ = (.slice Ao20 x5_1.length co20 : Value).ownBlock) (.slice Ao20 x5_1.length co20) x5_1 t295 w _ ?side1 ?side2 A16.out).mono ?_); (case side1 => exact hb3_ HB.out GE287.out GE288.out GE289.out); (case side2 => exact Kd.R_tight rfl HO_5.out); rintro e w21 ⟨v296, rfl, ho0, hb, hkp⟩; have n0_ := A_ (blk_kept (bk_ BK287.out) hkp (fun hs_ => (fun e_ => (Kd.R_ne HO_5.out BK287.out (by decide)) e_) hs_)); have n1_ := A_ (blk_kept (bk_ BK288.out) hkp (fun hs_ => (fun e_ => (Kd.R_ne HO_5.out BK288.out (by decide)) e_) hs_)); have n2_ := A_ (blk_kept (bk_ BK289.out) hkp (fun hs_ => (fun e_ => (Kd.R_ne HO_5.out BK289.out (by decide)) e_) hs_)); have n3_ := A_ (Kd.R_mono (ok' := fun k_ => True) ho0 (fun k_ hk_ => trivial)); have n4_ := A_ (hb); clear BK287; clear BK288; clear BK289; clear HB; clear HO_5; have BK287 := n0_; have BK288 := n1_; have BK289 := n2_; have HO297 := n3_; have HB := n4_; clear n0_ n1_ n2_ n3_ n4_; (try clear hb); (try clear hkp); (try clear ho0); obtain ⟨Ao22, co22, eo22⟩ := Kd.R_slice HO297.out; subst eo22; have hnb23 := NB289_288.out; have hnc23 := NB288_289.out; have hcz24_0 := bv_ BK289.out 0; have hfz24_0 := blk_frozen BK289.out 0)); try go_wp2_with (first | (go_at_call 60; (with_reducible refine (r1_trim.calls k1 (fun k_ => some k_ = (.slice Ao20 x5_1.length co20 : Value).ownBlock) (.slice Ao20 x5_1.length co20) x5_1 t295 w _ ?side1 ?side2 A16.out).mono ?_); (case side1 => exact hb3_ HB.out GE287.out GE288.out GE289.out); (case side2 => exact Kd.R_tight rfl HO_5.out); rintro e w21 ⟨v296, rfl, ho0, hb, hkp⟩; have n0_ := A_ (blk_kept (bk_ BK287.out) hkp (fun hs_ => (fun e_ => (Kd.R_ne HO_5.out BK287.out (by decide)) e_) hs_)); have n1_ := A_ (blk_kept (bk_ BK288.out) hkp (fun hs_ => (fun e_ => (Kd.R_ne HO_5.out BK288.out (by decide)) e_) hs_)); have n2_ := A_ (blk_kept (bk_ BK289.out) hkp (fun hs_ => (fun e_ => (Kd.R_ne HO_5.out BK289.out (by decide)) e_) hs_)); have n3_ := A_ (Kd.R_mono (ok' := fun k_ => True) ho0 (fun k_ hk_ => trivial)); have n4_ := A_ (hb); clear BK287; clear BK288; clear BK289; clear HB; clear HO_5; have BK287 := n0_; have BK288 := n1_; have BK289 := n2_; have HO297 := n3_; have HB := n4_; clear n0_ n1_ n2_ n3_ n4_; (try clear hb); (try clear hkp); (try clear ho0); obtain ⟨Ao22, co22, eo22⟩ := Kd.R_slice HO297.out; subst eo22; have hnb23 := NB289_288.out; have hnc23 := NB288_289.out; have hcz24_0 := bv_ BK289.out 0; have hfz24_0 := blk_frozen BK289.out 0)))
    refine bodyPost_ret (results_cell_row rfl _ _ gb289 33 #[.slice Ao22 t295.length co22] (0, 0) _ rfl (by (with_reducible repeat (first | refine blk_drewN ?_ _ | refine blk_drew ?_ | refine blk_alloc ?_ _)); refine blk_put (cs := #[.slice none 0 0]) ?_ 0 _ rfl; (with_reducible repeat (first | refine blk_drewN ?_ _ | refine blk_drew ?_ | refine blk_alloc ?_ _)); exact BK289.out) Try.underlying33 rfl (by kernel_rfl)) rfl ?_
    exact ⟨_, by first | rfl | (simp [errW_none, errW_some] <;> rfl) | (simp [*, errW_none, errW_some] <;> rfl), by (with_reducible repeat (first | apply Kd.R_alloc | apply Kd.R_drewN | apply Kd.R_drew)); exact Kd.R_mono (Kd.R_far (p := ⟨gb289, 0, none⟩) (Kd.R_types HO297.out BK289.out (by decide)) (fun _ hk => hk.2) (.slice Ao22 t295.length co22)) (fun _ hk => trivial), hb3_ HB.out GE287.out GE288.out GE289.out⟩
end Go.Proofs.Ythdeeoallfbjmaa.PA
