/- What the Go functions that the statement TopRoots reaches compute, and the mathematics on it, in the order in which one leans on the other; for every input. -/
import Derived.Test.YtnmlmgmljoncoaaGreatDoorVTopRoots1
import Derived.Test.YtnmlmgmljoncoaaGreatDoorMTopRoots0
import Derived.Test.YtnmlmgmljoncoaaGreatDoorMTopRoots4
namespace Go.Proofs.YtnmlmgmljoncoaaGreatDoor.PA
open Go.RowKit Go.Proofs.YtnmlmgmljoncoaaGreatDoorW.PrintWords Go.Proofs.YtnmlmgmljoncoaaGreatDoorW.PrintLast Go.Proofs.YtnmlmgmljoncoaaGreatDoorW.PrintMore
attribute [local go_sem] max2_int min2_int max_two min_two max_three min_three max_four min_four   -- for this text's walks alone
set_option linter.unusedVariables false
set_option linter.unusedSimpArgs false
set_option maxHeartbeats 8000000
set_option maxRecDepth 100000
def r1_trim.l0 : Nat → List Int → Int → Option (List Int)
 | 0, _, _ => none
 | k + 1, x0, x3 => if x3 > 0 then (if 0 ≤ (wrap64 (x3 - 1)) then (if (wrap64 (x3 - 1)) < (x0.length : Int) then (if (rd x0 (wrap64 (x3 - 1))) = 0 then (r1_trim.l0 k x0 (wrap64 (x3 - 1))) else (if 0 ≤ x3 then (if x3 ≤ (x0.length : Int) then (some (x0.take (x3 : Int).toNat)) else (none)) else (none))) else (none)) else (none)) else (if 0 ≤ x3 then (if x3 ≤ (x0.length : Int) then (some (x0.take (x3 : Int).toNat)) else (none)) else (none))
def r1_trim.f (k : Nat) (l0 : List Int) : Option (List Int) := r1_trim.l0 k l0 (l0.length : Int)
theorem r1_trim.mono_l : ∀ k, (∀ y0 y1, LeO (r1_trim.l0 k y0 y1) (r1_trim.l0 (k + 1) y0 y1))
 | 0 => fun _ _ r h => by simp [r1_trim.l0] at h
 | k + 1 => by
  have ih0 := r1_trim.mono_l k
  ·intro y0 y1
   unfold r1_trim.l0
   repeat' first
   | (with_reducible exact ih0 _ _)
   | (with_reducible exact LeO.refl _)
   | (with_reducible exact LeO.none _)
   | (with_reducible refine LeO.ite ?_ ?_)
   | (with_reducible refine LeO.bind ?_ (fun _ => ?_))
   | exact ih0 _ _
   | exact LeO.none _
   | refine LeO.ite ?_ ?_
   | refine LeO.bind ?_ (fun _ => ?_)
theorem r1_trim.mono : ∀ a0 k, LeO (r1_trim.f k a0) (r1_trim.f (k + 1) a0) := by
 intro a0 k
 have ih0 := r1_trim.mono_l k
 unfold r1_trim.f
 repeat' first
   | (with_reducible exact ih0 _ _)
   | (with_reducible exact LeO.refl _)
   | (with_reducible exact LeO.none _)
   | (with_reducible refine LeO.ite ?_ ?_)
   | (with_reducible refine LeO.bind ?_ (fun _ => ?_))
   | exact ih0 _ _
   | exact LeO.none _
   | refine LeO.ite ?_ ?_
   | refine LeO.bind ?_ (fun _ => ?_)
theorem r1_trim.calls (k : Nat) (P0_ : Nat → Prop) (u9000_ : Value) (l0 : List Int) (r : List Int) (w0 w : World) (hB : Below w0.heap.size w0 w) (ho0 : Kd.R (Kd.int .u64) 22 w w0.heap.size P0_ u9000_ l0) (h : r1_trim.f k l0 = some r) :
  Calls Tryz.prog 40 #[u9000_] w fun e w' => ∃ v0_ : Value, e = .returned (.agg #[v0_]) ∧ Kd.R (Kd.int .u64) 22 w' w0.heap.size (fun k_ => (P0_ k_ ∨ w.heap.size ≤ k_)) v0_ r ∧ Below w0.heap.size w0 w' ∧ Kept w w' (fun k_ => P0_ k_) := by
 have hu31 := Tryz.underlying31
 have HO0 := A_ (show Kd.R (Kd.int .u64) 22 w w0.heap.size (fun k_ => (P0_ k_ ∨ w.heap.size ≤ k_)) u9000_ l0 from Kd.R_mono ho0 (fun k_ hk => (.inl hk)))
 have HK := A_ (Kept.refl w (fun k_ => P0_ k_))
 have HW0 := A_ hB.size
 have HB := A_ hB;clear hB
 have H : (r1_trim.l0 k l0 (l0.length : Int)) = some r := h
 clear h
 have H' := A_ H
 clear H
 go_enter Tryz.func40, Tryz.ntmps40
 go_wp2_with (first | ((with_reducible refine gate_dst (N := 2) rfl ?_); refine be_ 2 #[.slice none 0 0] 31 ?_; intro gb627 hg w2 hbox hb; have BK627 := A_ (hbox); have GW627 := A_ ((by rw [hg]; exact (by first | exact HK.out.1 | exact (show Kept w _ (fun k_ => P0_ k_) from by repeat (first | (with_reducible first | exact HK.out | apply Kept.alloc | apply Kept.drewN | apply Kept.drew) | exact HK.out)).1) : w.heap.size ≤ gb627)); have GE627 := A_ ((by rw [hg]; exact (below_size (hb_ HB.out)) : w0.heap.size ≤ gb627)); replace HO0 := A_ (Kd.R_below (kr_ HO0.out) hb); replace HK := A_ (Kept.below (S := (fun k_ => P0_ k_)) (by repeat (first | (with_reducible first | exact HK.out | apply Kept.alloc | apply Kept.drewN | apply Kept.drew) | exact HK.out)) hb); replace HB := A_ (below_step (hb_ HB.out) hb); clear hb hbox hg; obtain ⟨Ao3, co3, eo3⟩ := Kd.R_slice HO0.out; subst eo3))
 go_loopg [3] k (fun kq v3 w' => ∃ (x3_1 : Int), v3 = .int .i64 x3_1 ∧ Aside0 (r1_trim.l0 kq l0 x3_1 = some r) ∧ Aside0 (kq ≤ k) ∧ Aside0 (Kd.R (Kd.int .u64) 22 w' w0.heap.size (fun k_ => (P0_ k_ ∨ w.heap.size ≤ k_)) (.slice Ao3 l0.length co3) l0) ∧ Aside0 (w'.heap[gb627]? = some (.cells #[(.slice none 0 0)] 31 (0, 0))) ∧ Aside0 (Kept w w' (fun k_ => P0_ k_)) ∧ Aside0 (Below w0.heap.size w0 w'))
 case atStart => exact ⟨((l0.length : Int)), sm_, H', ⟨Nat.le_refl _⟩, ⟨by (with_reducible repeat (first | apply Kd.R_alloc | apply Kd.R_drewN | apply Kd.R_drew)); exact HO0.out⟩, ⟨bk_ BK627.out⟩, ⟨by repeat (first | (with_reducible first | exact HK.out | apply Kept.alloc | apply Kept.drewN | apply Kept.drew | refine Kept.setCell ?_ (.inr GW627.out) _) | exact HK.out)⟩, ⟨hb1_ HB.out GE627.out⟩⟩
 case round =>
  clear H'
  try clear p2
  obtain ⟨x3_1, rfl, HA, HK1, HO_0, BK627, HK, HB⟩ := hrel
  cases gk with
  | zero => exact absurd HA.out (by simp [r1_trim.l0])
  | succ k1 =>
   have H := HA.out
   clear HA
   simp only [r1_trim.l0] at H
   by_cases c4 : x3_1 > 0
   ·rw [if_pos c4] at H
    have c4b0 : decide (0 < x3_1) = true := decide_eq_true c4
    clear c4
    obtain ⟨ji5, hji5⟩ : ∃ j_ : Int, (wrap64 (x3_1 - 1)) = j_ := ⟨_, rfl⟩
    replace H : (if 0 ≤ (ji5) then (if (ji5) < (l0.length : Int) then (if (rd l0 (ji5)) = 0 then (r1_trim.l0 k1 l0 ji5) else (if 0 ≤ x3_1 then (if x3_1 ≤ (l0.length : Int) then (some (l0.take (x3_1 : Int).toNat)) else (none)) else (none))) else (none)) else (none)) = some r := by first | (rw [hji5] at H; exact H) | (simp only [hji5] at H ⊢; exact H)
    have hji5w : (IntKind.i64.wrap (x3_1 - 1)) = ji5 := (i64_w _).trans hji5
    by_cases c6 : 0 ≤ (ji5)
    ·rw [if_pos c6] at H
     have c6b0 : decide (0 ≤ (ji5)) = true := decide_eq_true c6
     clear c6
     by_cases c7 : (ji5) < (l0.length : Int)
     ·rw [if_pos c7] at H
      have c7b0 : decide ((ji5) < (l0.length : Int)) = true := decide_eq_true c7
      clear c7
      by_cases c8 : (rd l0 (ji5)) = 0
      ·rw [if_pos c8] at H
       have c8b0 : ((rd l0 (ji5)) == 0) = true := beq_iff_eq.mpr c8
       have c8b1 : ((rd l0 (ji5)) != 0) = false := bne_eq_false_iff_eq.mpr c8
       clear c8
       have H' := A_ H
       clear H
       have p628 : 0 ≤ ((ji5) : Int) := of_decide_eq_true (by first | (with_reducible assumption) | assumption)
       have q628 : (ji5) < (l0.length : Int) := of_decide_eq_true (by first | (with_reducible assumption) | assumption)
       obtain ⟨ad628, e628, hx628_0⟩ := Kd.at_int (Kd.R_reads' HO_0.out).2.2 (ji5) p628 q628
       cases e628
       replace p628 := eq_true p628
       replace q628 := eq_true q628
       go_wp2
       go_roundg k1
       case measure => have := HK1.out; omega
       case rel => exact ⟨(ji5), (by first | rfl | (simp; done) | (simp only [← hji5] <;> (first | rfl | simp)) | (simp [*]; done)), H', ⟨by have := HK1.out; omega⟩, ⟨by (with_reducible repeat (first | apply Kd.R_alloc | apply Kd.R_drewN | apply Kd.R_drew)); exact HO_0.out⟩, ⟨bk_ BK627.out⟩, ⟨by repeat (first | (with_reducible first | exact HK.out | apply Kept.alloc | apply Kept.drewN | apply Kept.drew | refine Kept.setCell ?_ (.inr GW627.out) _) | exact HK.out)⟩, ⟨hb1_ HB.out GE627.out⟩⟩
      ·rw [if_neg c8] at H
       have c8b0 : ((rd l0 (ji5)) == 0) = false := beq_eq_false_iff_ne.mpr c8
       have c8b1 : ((rd l0 (ji5)) != 0) = true := bne_iff_ne.mpr c8
       by_cases c9 : 0 ≤ x3_1
       ·rw [if_pos c9] at H
        have c9b0 := eq_true c9
        have c9b1 : decide (0 ≤ x3_1) = true := decide_eq_true c9
        clear c9
        by_cases c10 : x3_1 ≤ (l0.length : Int)
        ·rw [if_pos c10] at H
         have c10b0 := eq_true c10
         have c10b1 : decide (x3_1 ≤ (l0.length : Int)) = true := decide_eq_true c10
         clear c10
         obtain ⟨y629, hy629⟩ : ∃ y_ : List Int, y_ = (l0.take (x3_1 : Int).toNat) := ⟨_, rfl⟩
         replace H : (some y629) = some r := by first | (rw [hy629]; with_reducible exact H) | (have H2_ := (Option.bind_some _ _).symm.trans H; rw [hy629]; with_reducible exact H2_) | (have H2_ := (Option.bind_some _ _).symm.trans H; with_reducible exact H2_) | with_reducible exact H | (rw [hy629]; exact H) | exact H
         have Ny629 := A_ hy629;clear hy629
         obtain rfl := Option.some.inj H
         have p628 : 0 ≤ ((ji5) : Int) := of_decide_eq_true (by first | (with_reducible assumption) | assumption)
         have q628 : (ji5) < (l0.length : Int) := of_decide_eq_true (by first | (with_reducible assumption) | assumption)
         obtain ⟨ad628, e628, hx628_0⟩ := Kd.at_int (Kd.R_reads' HO_0.out).2.2 (ji5) p628 q628
         cases e628
         replace p628 := eq_true p628
         replace q628 := eq_true q628
         have q11 : (x3_1 : Int) ≤ ((l0.length : Int) : Int) := of_decide_eq_true (by first | (with_reducible assumption) | assumption)
         obtain ⟨i011, hi011, _, hsz11, _⟩ := info_parts info22
         have hcut11 := cut_to (P := Tryz.prog) 29 22 .i64 Tryz.underlying29 hi011 (some ad628) l0.length co3 x3_1 (of_decide_eq_true (by first | (with_reducible assumption) | assumption)) q11 (Kd.R_reads' HO_0.out).2.1
         have hr11 := Kd.R_take (m := (x3_1 : Int).toNat) HO_0.out (by omega)
         have hy11 : y629.length = (x3_1 : Int).toNat := (by rw [Ny629.out, List.length_take]; omega)
         rw [← Ny629.out] at hr11
         rw [← hy11] at hr11 hcut11
         clear hy11 hi011 hsz11 HO_0;have HO631 := A_ hr11;clear hr11
         replace q11 := eq_true q11
         have hcz12_0 := bv_ BK627.out 0
         have hfz12_0 := blk_frozen BK627.out 0
         go_wp2
         refine bodyPost_ret (results_cell_row rfl _ _ gb627 31 #[.slice (some ad628) y629.length co3] (0, 0) _ rfl (by (with_reducible repeat (first | refine blk_drewN ?_ _ | refine blk_drew ?_ | refine blk_alloc ?_ _)); refine blk_put (cs := #[.slice none 0 0]) ?_ 0 _ rfl; (with_reducible repeat (first | refine blk_drewN ?_ _ | refine blk_drew ?_ | refine blk_alloc ?_ _)); exact BK627.out) Tryz.underlying31 rfl (by kernel_rfl)) rfl ?_
         exact ⟨_, by first | rfl | (simp [errW_none, errW_some] <;> rfl) | (simp only [← hji5]; first | rfl | (simp [errW_none, errW_some] <;> rfl)) | (simp [*, errW_none, errW_some] <;> rfl), by (with_reducible repeat (first | apply Kd.R_alloc | apply Kd.R_drewN | apply Kd.R_drew)); exact Kd.R_mono (Kd.R_far (p := ⟨gb627, 0, none⟩) (Kd.R_types HO631.out BK627.out (by decide)) (fun _ hk => hk.2) (.slice (some ad628) y629.length co3)) (fun _ hk => hk.1), by repeat (first | (with_reducible first | exact HB.out | apply below_alloc | apply pw_below_drewN | apply below_drew1 | refine below_set ?_ GE627.out) | exact HB.out), by repeat (first | (with_reducible first | exact HK.out | apply Kept.alloc | apply Kept.drewN | apply Kept.drew | refine Kept.setCell ?_ (.inr GW627.out) _) | exact HK.out)⟩
        ·rw [if_neg c10] at H
         exact absurd H (by simp)
       ·rw [if_neg c9] at H
        exact absurd H (by simp)
     ·rw [if_neg c7] at H
      exact absurd H (by simp)
    ·rw [if_neg c6] at H
     exact absurd H (by simp)
   ·rw [if_neg c4] at H
    have c4b0 : decide (0 < x3_1) = false := decide_eq_false c4
    clear c4
    by_cases c13 : 0 ≤ x3_1
    ·rw [if_pos c13] at H
     have c13b0 := eq_true c13
     have c13b1 : decide (0 ≤ x3_1) = true := decide_eq_true c13
     clear c13
     by_cases c14 : x3_1 ≤ (l0.length : Int)
     ·rw [if_pos c14] at H
      have c14b0 := eq_true c14
      have c14b1 : decide (x3_1 ≤ (l0.length : Int)) = true := decide_eq_true c14
      clear c14
      obtain ⟨y632, hy632⟩ : ∃ y_ : List Int, y_ = (l0.take (x3_1 : Int).toNat) := ⟨_, rfl⟩
      replace H : (some y632) = some r := by first | (rw [hy632]; with_reducible exact H) | (have H2_ := (Option.bind_some _ _).symm.trans H; rw [hy632]; with_reducible exact H2_) | (have H2_ := (Option.bind_some _ _).symm.trans H; with_reducible exact H2_) | with_reducible exact H | (rw [hy632]; exact H) | exact H
      have Ny632 := A_ hy632;clear hy632
      obtain rfl := Option.some.inj H
      have q15 : (x3_1 : Int) ≤ ((l0.length : Int) : Int) := of_decide_eq_true (by first | (with_reducible assumption) | assumption)
      obtain ⟨i015, hi015, _, hsz15, _⟩ := info_parts info22
      have hcut15 := cut_to (P := Tryz.prog) 29 22 .i64 Tryz.underlying29 hi015 Ao3 l0.length co3 x3_1 (of_decide_eq_true (by first | (with_reducible assumption) | assumption)) q15 (Kd.R_reads' HO_0.out).2.1
      have hr15 := Kd.R_take (m := (x3_1 : Int).toNat) HO_0.out (by omega)
      have hy15 : y632.length = (x3_1 : Int).toNat := (by rw [Ny632.out, List.length_take]; omega)
      rw [← Ny632.out] at hr15
      rw [← hy15] at hr15 hcut15
      clear hy15 hi015 hsz15 HO_0;have HO634 := A_ hr15;clear hr15
      replace q15 := eq_true q15
      have hcz16_0 := bv_ BK627.out 0
      have hfz16_0 := blk_frozen BK627.out 0
      go_wp2
      refine bodyPost_ret (results_cell_row rfl _ _ gb627 31 #[.slice Ao3 y632.length co3] (0, 0) _ rfl (by (with_reducible repeat (first | refine blk_drewN ?_ _ | refine blk_drew ?_ | refine blk_alloc ?_ _)); refine blk_put (cs := #[.slice none 0 0]) ?_ 0 _ rfl; (with_reducible repeat (first | refine blk_drewN ?_ _ | refine blk_drew ?_ | refine blk_alloc ?_ _)); exact BK627.out) Tryz.underlying31 rfl (by kernel_rfl)) rfl ?_
      exact ⟨_, by first | rfl | (simp [errW_none, errW_some] <;> rfl) | (simp [*, errW_none, errW_some] <;> rfl), by (with_reducible repeat (first | apply Kd.R_alloc | apply Kd.R_drewN | apply Kd.R_drew)); exact Kd.R_mono (Kd.R_far (p := ⟨gb627, 0, none⟩) (Kd.R_types HO634.out BK627.out (by decide)) (fun _ hk => hk.2) (.slice Ao3 y632.length co3)) (fun _ hk => hk.1), by repeat (first | (with_reducible first | exact HB.out | apply below_alloc | apply pw_below_drewN | apply below_drew1 | refine below_set ?_ GE627.out) | exact HB.out), by repeat (first | (with_reducible first | exact HK.out | apply Kept.alloc | apply Kept.drewN | apply Kept.drew | refine Kept.setCell ?_ (.inr GW627.out) _) | exact HK.out)⟩
     ·rw [if_neg c14] at H
      exact absurd H (by simp)
    ·rw [if_neg c13] at H
     exact absurd H (by simp)
def r1_Of.f (k : Nat) (a0 : Int) : Option (List Int) := (r1_trim.f k (([Int.tmod a0 4294967296, IntKind.u64.wrap (Int.tdiv a0 4294967296)] : List Int))).bind fun t656 => (some t656)
theorem r1_Of.mono : ∀ a0 k, LeO (r1_Of.f k a0) (r1_Of.f (k + 1) a0) := by
 intro a0 k
 unfold r1_Of.f
 repeat' first
   | (with_reducible exact r1_trim.mono _ _)
   | (with_reducible exact LeO.refl _)
   | (with_reducible exact LeO.none _)
   | (with_reducible refine LeO.ite ?_ ?_)
   | (with_reducible refine LeO.bind ?_ (fun _ => ?_))
   | exact r1_trim.mono _ _
   | exact LeO.none _
   | refine LeO.ite ?_ ?_
   | refine LeO.bind ?_ (fun _ => ?_)
theorem r1_Of.calls (k : Nat) (a0 : Int) (r : List Int) (w : World) (h : r1_Of.f k a0 = some r) :
  Calls Tryz.prog 13 #[.int .u64 a0] w fun e w' => ∃ v0_ : Value, e = .returned (.agg #[v0_]) ∧ Kd.R (Kd.int .u64) 22 w' w.heap.size (fun _ => True) v0_ r ∧ Below w.heap.size w w' := by
 have hu31 := Tryz.underlying31
 have HB := A_ (Below.refl w.heap.size w)
 have H : ((r1_trim.f k (([Int.tmod a0 4294967296, IntKind.u64.wrap (Int.tdiv a0 4294967296)] : List Int))).bind fun t656 => (some t656)) = some r := h
 clear h
 obtain ⟨y653, hy653⟩ : ∃ y_ : List Int, y_ = (([Int.tmod a0 4294967296, IntKind.u64.wrap (Int.tdiv a0 4294967296)] : List Int)) := ⟨_, rfl⟩
 replace H : ((r1_trim.f k y653).bind fun t656 => (some t656)) = some r := by first | (rw [hy653]; with_reducible exact H) | (have H2_ := (Option.bind_some _ _).symm.trans H; rw [hy653]; with_reducible exact H2_) | (have H2_ := (Option.bind_some _ _).symm.trans H; with_reducible exact H2_) | with_reducible exact H | (rw [hy653]; exact H) | exact H
 have Ny653 := A_ hy653;clear hy653
 replace H := ob_ H
 obtain ⟨t656, A20, H⟩ := H
 replace H : (some t656) = some r := H
 have A2 := A_ A20;clear A20
 obtain rfl := Option.some.inj H
 go_enter Tryz.func13, Tryz.ntmps13
 go_wp2_with (first | ((with_reducible refine gate_dst (N := 2) rfl ?_); refine be_ 2 #[.slice none 0 0] 31 ?_; intro gb652 hg w3 hbox hb; have BK652 := A_ (hbox); have GW652 := A_ (sz_ hg (hb_ HB.out)); have GE652 := A_ (sz_ hg (hb_ HB.out)); replace HB := A_ (below_step (hb_ HB.out) hb); clear hb hbox hg) | ((with_reducible refine gate_dst (N := 7) rfl ?_); refine Kd.R_lit (Kd.int .u64) _ 22 ?hg (N := 7) ?hd (xs := ([Int.tmod a0 4294967296, IntKind.u64.wrap (Int.tdiv a0 4294967296)] : List Int)) (inner := [.int .u64 (Int.tmod a0 4294967296), .int .u64 (IntKind.u64.wrap (Int.tdiv a0 4294967296))]) (ok := fun _ => True) (okp := fun _ => True) ?hr ?hp (fun _ hk => hk) trivial (Below.refl _ _) (Nat.le_refl _) (by simp) ?_; (case hd => rfl); (case hg => rfl); (case hr => first | (go_simp; done) | (go_simp; rfl)); (case hp => exact (Reps.one (show Kd.M (Kd.int .u64) _ _ _ (Int.tmod a0 4294967296) [.int .u64 (Int.tmod a0 4294967296)] from rfl) (Reps.one (show Kd.M (Kd.int .u64) _ _ _ (IntKind.u64.wrap (Int.tdiv a0 4294967296)) [.int .u64 (IntKind.u64.wrap (Int.tdiv a0 4294967296))] from rfl) (Reps.none _ _)))); intro v654 w4 ho5 hb hg_ hnew_; clear hg_ hnew_; (first | rw [← Ny653.out] at ho5 | (simp only [Int.reduceToNat] at ho5; rw [← Ny653.out] at ho5)); have HO655 := A_ (Kd.R_lower ho5 (below_size (hb1_ HB.out GE652.out))); replace BK652 := A_ (bb_ BK652.out hb); replace HB := A_ (below_step (hb1_ HB.out GE652.out) hb); clear hb ho5; obtain ⟨Ao6, co6, eo6⟩ := Kd.R_slice HO655.out; subst eo6) | ((with_reducible refine gate_callee (f := 40) rfl ?_); refine goesL_ (some 8) rfl rfl Tryz.func40 (by kernel_rfl) rfl #[.slice Ao6 y653.length co6] rfl mp_ ?_; (with_reducible refine (r1_trim.calls k (fun k_ => some k_ = (.slice Ao6 y653.length co6 : Value).ownBlock) (.slice Ao6 y653.length co6) y653 t656 w _ ?side1 ?side2 A2.out).mono ?_); (case side1 => exact hb1_ HB.out GE652.out); (case side2 => exact Kd.R_tight rfl HO655.out); rintro e w7 ⟨v657, rfl, ho0, hb, hkp⟩; refine ⟨_, rfl, ?_⟩; have n0_ := A_ (blk_kept (bk_ BK652.out) hkp (fun hs_ => (fun e_ => (Kd.R_ne HO655.out BK652.out (by decide)) e_) hs_)); have n1_ := A_ (Kd.R_mono (ok' := fun k_ => True) ho0 (fun k_ hk_ => trivial)); have n2_ := A_ (hb); clear BK652; clear HB; clear HO655; have BK652 := n0_; have HO658 := n1_; have HB := n2_; clear n0_ n1_ n2_; (try clear hb); (try clear hkp); (try clear ho0); obtain ⟨Ao8, co8, eo8⟩ := Kd.R_slice HO658.out; subst eo8; have hcz9_0 := bv_ BK652.out 0; have hfz9_0 := blk_frozen BK652.out 0))
 refine bodyPost_ret (results_cell_row rfl _ _ gb652 31 #[.slice Ao8 t656.length co8] (0, 0) _ rfl (by (with_reducible repeat (first | refine blk_drewN ?_ _ | refine blk_drew ?_ | refine blk_alloc ?_ _)); refine blk_put (cs := #[.slice none 0 0]) ?_ 0 _ rfl; (with_reducible repeat (first | refine blk_drewN ?_ _ | refine blk_drew ?_ | refine blk_alloc ?_ _)); exact BK652.out) Tryz.underlying31 rfl (by kernel_rfl)) rfl ?_
 exact ⟨_, by first | rfl | (simp [errW_none, errW_some] <;> rfl) | (simp [*, errW_none, errW_some] <;> rfl), by (with_reducible repeat (first | apply Kd.R_alloc | apply Kd.R_drewN | apply Kd.R_drew)); exact Kd.R_mono (Kd.R_far (p := ⟨gb652, 0, none⟩) (Kd.R_types HO658.out BK652.out (by decide)) (fun _ hk => hk.2) (.slice Ao8 t656.length co8)) (fun _ hk => trivial), hb1_ HB.out GE652.out⟩
mutual
def r1_Shl.l0 : Nat → Int → List Int → Int → List Int → Option (List Int)
 | 0, _, _, _, _ => none
 | k + 1, x1, x5, x6, x664000 => if x6 < (wrap64 (Int.tdiv x1 32)) then (if x5.length < 17592186044416 then (r1_Shl.l0 k x1 (x5 ++ [0]) (wrap64 (x6 + 1)) x664000) else (none)) else (r1_Shl.l1 k x1 x5 1 0 x664000)
def r1_Shl.l1 : Nat → Int → List Int → Int → Int → List Int → Option (List Int)
 | 0, _, _, _, _, _ => none
 | k + 1, x1, x5, x7, x8, x664000 => if x8 < (Int.tmod x1 32) then (r1_Shl.l1 k x1 x5 (IntKind.u64.wrap (2 * x7)) (wrap64 (x8 + 1)) x664000) else (r1_Shl.l2 k x5 x7 0 0 x664000)
def r1_Shl.l2 : Nat → List Int → Int → Int → Int → List Int → Option (List Int)
 | 0, _, _, _, _, _ => none
 | k + 1, x5, x7, x9, x10, x664000 => if x10 < (x664000.length : Int) then (if 0 ≤ x10 then (if x5.length < 17592186044416 then (r1_Shl.l2 k (x5 ++ [Int.tmod (IntKind.u64.wrap ((IntKind.u64.wrap ((rd x664000 x10) * x7)) + x9)) 4294967296]) x7 (IntKind.u64.wrap (Int.tdiv (IntKind.u64.wrap ((IntKind.u64.wrap ((rd x664000 x10) * x7)) + x9)) 4294967296)) (wrap64 (x10 + 1)) x664000) else (none)) else (none)) else (if x5.length < 17592186044416 then ((r1_trim.f k (x5 ++ [x9])).bind fun t675 => (some t675)) else (none))
end
def r1_Shl.f (k : Nat) (l0_0 : List Int) (a1 : Int) : Option (List Int) := r1_Shl.l0 k a1 ([] : List Int) 0 l0_0
theorem r1_Shl.mono_l : ∀ k, (∀ y0 y1 y2 y3, LeO (r1_Shl.l0 k y0 y1 y2 y3) (r1_Shl.l0 (k + 1) y0 y1 y2 y3)) ∧ (∀ y0 y1 y2 y3 y4, LeO (r1_Shl.l1 k y0 y1 y2 y3 y4) (r1_Shl.l1 (k + 1) y0 y1 y2 y3 y4)) ∧ (∀ y0 y1 y2 y3 y4, LeO (r1_Shl.l2 k y0 y1 y2 y3 y4) (r1_Shl.l2 (k + 1) y0 y1 y2 y3 y4))
 | 0 => ⟨fun _ _ _ _ r h => by simp [r1_Shl.l0] at h, fun _ _ _ _ _ r h => by simp [r1_Shl.l1] at h, fun _ _ _ _ _ r h => by simp [r1_Shl.l2] at h⟩
 | k + 1 => by
  obtain ⟨ih0, ih1, ih2⟩ := r1_Shl.mono_l k
  refine ⟨?_, ?_, ?_⟩
  ·intro y0 y1 y2 y3
   unfold r1_Shl.l0
   repeat' first
   | (with_reducible exact ih0 _ _ _ _)
   | (with_reducible exact ih1 _ _ _ _ _)
   | (with_reducible exact ih2 _ _ _ _ _)
   | (with_reducible exact r1_trim.mono _ _)
   | (with_reducible exact LeO.refl _)
   | (with_reducible exact LeO.none _)
   | (with_reducible refine LeO.ite ?_ ?_)
   | (with_reducible refine LeO.bind ?_ (fun _ => ?_))
   | exact ih0 _ _ _ _
   | exact ih1 _ _ _ _ _
   | exact ih2 _ _ _ _ _
   | exact r1_trim.mono _ _
   | exact LeO.none _
   | refine LeO.ite ?_ ?_
   | refine LeO.bind ?_ (fun _ => ?_)
  ·intro y0 y1 y2 y3 y4
   unfold r1_Shl.l1
   repeat' first
   | (with_reducible exact ih0 _ _ _ _)
   | (with_reducible exact ih1 _ _ _ _ _)
   | (with_reducible exact ih2 _ _ _ _ _)
   | (with_reducible exact r1_trim.mono _ _)
   | (with_reducible exact LeO.refl _)
   | (with_reducible exact LeO.none _)
   | (with_reducible refine LeO.ite ?_ ?_)
   | (with_reducible refine LeO.bind ?_ (fun _ => ?_))
   | exact ih0 _ _ _ _
   | exact ih1 _ _ _ _ _
   | exact ih2 _ _ _ _ _
   | exact r1_trim.mono _ _
   | exact LeO.none _
   | refine LeO.ite ?_ ?_
   | refine LeO.bind ?_ (fun _ => ?_)
  ·intro y0 y1 y2 y3 y4
   unfold r1_Shl.l2
   repeat' first
   | (with_reducible exact ih0 _ _ _ _)
   | (with_reducible exact ih1 _ _ _ _ _)
   | (with_reducible exact ih2 _ _ _ _ _)
   | (with_reducible exact r1_trim.mono _ _)
   | (with_reducible exact LeO.refl _)
   | (with_reducible exact LeO.none _)
   | (with_reducible refine LeO.ite ?_ ?_)
   | (with_reducible refine LeO.bind ?_ (fun _ => ?_))
   | exact ih0 _ _ _ _
   | exact ih1 _ _ _ _ _
   | exact ih2 _ _ _ _ _
   | exact r1_trim.mono _ _
   | exact LeO.none _
   | refine LeO.ite ?_ ?_
   | refine LeO.bind ?_ (fun _ => ?_)
theorem r1_Shl.mono : ∀ a0 a1 k, LeO (r1_Shl.f k a0 a1) (r1_Shl.f (k + 1) a0 a1) := by
 intro a0 a1 k
 obtain ⟨ih0, ih1, ih2⟩ := r1_Shl.mono_l k
 unfold r1_Shl.f
 repeat' first
   | (with_reducible exact ih0 _ _ _ _)
   | (with_reducible exact ih1 _ _ _ _ _)
   | (with_reducible exact ih2 _ _ _ _ _)
   | (with_reducible exact r1_trim.mono _ _)
   | (with_reducible exact LeO.refl _)
   | (with_reducible exact LeO.none _)
   | (with_reducible refine LeO.ite ?_ ?_)
   | (with_reducible refine LeO.bind ?_ (fun _ => ?_))
   | exact ih0 _ _ _ _
   | exact ih1 _ _ _ _ _
   | exact ih2 _ _ _ _ _
   | exact r1_trim.mono _ _
   | exact LeO.none _
   | refine LeO.ite ?_ ?_
   | refine LeO.bind ?_ (fun _ => ?_)
theorem r1_Shl.calls (k : Nat) (A0_0 : Option Addr) (c0_0 : Nat) (l0_0 : List Int) (a1 : Int) (r : List Int) (w : World) (hr0_0 : Kd.C (Kd.int .u64) w A0_0 l0_0.length l0_0) (hc0_0 : l0_0.length ≤ c0_0) (h : r1_Shl.f k l0_0 a1 = some r) :
  Calls Tryz.prog 42 #[.agg #[.slice A0_0 l0_0.length c0_0], .int .i64 a1] w fun e w' => ∃ v0_ : Value, e = .returned (.agg #[v0_]) ∧ Kd.R (Kd.int .u64) 22 w' w.heap.size (fun _ => True) v0_ r ∧ Below w.heap.size w w' := by
 have hu31 := Tryz.underlying31
 have HR0_0 := A_ hr0_0;have HC0_0 := A_ hc0_0;clear hr0_0 hc0_0
 have HB := A_ (Below.refl w.heap.size w)
 have H : (r1_Shl.l0 k a1 ([] : List Int) 0 l0_0) = some r := h
 clear h
 have H' := A_ H
 clear H
 go_enter Tryz.func42, Tryz.ntmps42
 go_wp2_with (first | ((with_reducible refine gate_dst (N := 2) rfl ?_); refine be_ 2 #[.slice A0_0 l0_0.length c0_0] 31 ?_; intro gb663 hg w3 hbox hb; have BK663 := A_ (hbox); have GW663 := A_ (sz_ hg (hb_ HB.out)); have GE663 := A_ (sz_ hg (hb_ HB.out)); replace HB := A_ (below_step (hb_ HB.out) hb); clear hb hbox hg) | ((with_reducible refine gate_dst (N := 4) rfl ?_); refine be_ 4 #[.slice none 0 0] 31 ?_; intro gb664 hg w4 hbox hb; have BK664 := A_ (hbox); have GW664 := A_ (sz_ hg (hb1_ HB.out GE663.out)); have GE664 := A_ (sz_ hg (hb1_ HB.out GE663.out)); have NB663_664 := A_ (nl_ hg BK663.out); have NB664_663 := A_ (ng_ hg BK663.out); replace BK663 := A_ (bb_ BK663.out hb); replace HB := A_ (below_step (hb1_ HB.out GE663.out) hb); clear hb hbox hg))
 go_loopg [5, 6] k (fun kq v5 v6 w' => ∃ (x5_1 : List Int) (x6_1 : Int), v6 = .int .i64 x6_1 ∧ Aside0 (r1_Shl.l0 kq a1 x5_1 x6_1 l0_0 = some r) ∧ Aside0 (kq ≤ k) ∧ Aside0 (Kd.R (Kd.int .u64) 22 w' w.heap.size (fun _ => True) v5 x5_1) ∧ Aside0 (w'.heap[gb663]? = some (.cells #[(.slice A0_0 l0_0.length c0_0)] 31 (0, 0))) ∧ Aside0 (w'.heap[gb664]? = some (.cells #[(.slice none 0 0)] 31 (0, 0))) ∧ Aside0 (Below w.heap.size w w'))
 case atStart => exact ⟨(([] : List Int)), (0), sm_, H', ⟨Nat.le_refl _⟩, ⟨by first | exact Kd.R_nil _ _ _ _ _ | exact Kd.N_nil _ _ _ _ _ | exact Kd.V_nil _ _ _ _ _ | exact Kd.Q_nil _ _ _ _ _ | exact Kd.S_nil _ _ _ _ _⟩, ⟨bk_ BK663.out⟩, ⟨bk_ BK664.out⟩, ⟨hb2_ HB.out GE663.out GE664.out⟩⟩
 case round =>
  clear H'
  try clear p2
  try clear c4
  obtain ⟨x5_1, x6_1, rfl, HA, HK1, HO_5, BK663, BK664, HB⟩ := hrel
  cases gk with
  | zero => exact absurd HA.out (by simp [r1_Shl.l0])
  | succ k1 =>
   have H := HA.out
   clear HA
   simp only [r1_Shl.l0] at H
   by_cases c5 : x6_1 < (wrap64 (Int.tdiv a1 32))
   ·rw [if_pos c5] at H
    have c5b0 : decide (x6_1 < (wrap64 (Int.tdiv a1 32))) = true := decide_eq_true c5
    clear c5
    by_cases c6 : x5_1.length < 17592186044416
    ·rw [if_pos c6] at H
     have LMc6 := A_ c6;clear c6
     obtain ⟨y665, hy665⟩ : ∃ y_ : List Int, y_ = (x5_1 ++ [0]) := ⟨_, rfl⟩
     replace H : (r1_Shl.l0 k1 a1 y665 (wrap64 (x6_1 + 1)) l0_0) = some r := by first | (rw [hy665]; with_reducible exact H) | (have H2_ := (Option.bind_some _ _).symm.trans H; rw [hy665]; with_reducible exact H2_) | (have H2_ := (Option.bind_some _ _).symm.trans H; with_reducible exact H2_) | with_reducible exact H | (rw [hy665]; exact H) | exact H
     have Ny665 := A_ hy665;clear hy665
     have H' := A_ H
     clear H
     go_wp2_with (first | ((with_reducible refine gate_builtin (b := .append) (xs := #[.tmp 18, .tmp 19]) rfl ?_); at_builtin; refine Kd.R_append (Kd.int .u64) (w0 := w) w.heap.size rfl (.tmp 18) (.tmp 19) 29 22 (.int .u64 0) 8 rfl Tryz.underlying29 info22 rfl (by decide) (by omega) u5 x5_1 0 [.int .u64 0] (fun _ => True) (fun _ => False) rfl rfl ?aP (fun _ hk => hk.elim) ?aF ?aO ?aB ?aS ?aL ?_; (case aP => exact rfl); (case aB => exact (hb2_ HB.out GE663.out GE664.out)); (case aF => exact (fun _ _ => trivial)); (case aO => exact (kr_ HO_5.out)); (case aS => exact (below_size (hb2_ HB.out GE663.out GE664.out))); (case aL => have := LMc6.out; omega); intro v666 w7 ho hb hg hat; rw [← Ny665.out] at ho; have n0_ := A_ (blk_grown (g := gb663) (o := .cells #[.slice A0_0 l0_0.length c0_0] 31 (0, 0)) (bk_ BK663.out) hg (Kd.R_ne HO_5.out BK663.out (by decide))); have n1_ := A_ (blk_grown (g := gb664) (o := .cells #[.slice none 0 0] 31 (0, 0)) (bk_ BK664.out) hg (Kd.R_ne HO_5.out BK664.out (by decide))); have n2_ := A_ (hb); have n3_ := A_ (ho); clear BK663; clear BK664; clear HB; clear HO_5; have BK663 := n0_; have BK664 := n1_; have HB := n2_; have HO667 := n3_; clear n0_ n1_ n2_ n3_; clear ho hb hg hat))
     go_roundg k1
     case measure => have := HK1.out; omega
     case rel => exact ⟨(y665), (wrap64 (x6_1 + 1)), sm_, H', ⟨by have := HK1.out; omega⟩, ⟨by (with_reducible repeat (first | apply Kd.R_alloc | apply Kd.R_drewN | apply Kd.R_drew)); exact HO667.out⟩, ⟨bk_ BK663.out⟩, ⟨bk_ BK664.out⟩, ⟨hb2_ HB.out GE663.out GE664.out⟩⟩
    ·rw [if_neg c6] at H
     exact absurd H (by simp)
   ·rw [if_neg c5] at H
    have c5b0 : decide (x6_1 < (wrap64 (Int.tdiv a1 32))) = false := decide_eq_false c5
    clear c5
    have H' := A_ H
    clear H
    go_wp2
    go_loopg [7, 8] k1 (fun kq v7 v8 w' => ∃ (x7_2 : Int) (x8_2 : Int), v7 = .int .u64 x7_2 ∧ v8 = .int .i64 x8_2 ∧ Aside0 (r1_Shl.l1 kq a1 x5_1 x7_2 x8_2 l0_0 = some r) ∧ Aside0 (kq ≤ k1) ∧ Aside0 (Kd.R (Kd.int .u64) 22 w' w.heap.size (fun _ => True) u5 x5_1) ∧ Aside0 (w'.heap[gb663]? = some (.cells #[(.slice A0_0 l0_0.length c0_0)] 31 (0, 0))) ∧ Aside0 (w'.heap[gb664]? = some (.cells #[(.slice none 0 0)] 31 (0, 0))) ∧ Aside0 (Below w.heap.size w w'))
    case atStart => exact ⟨(1), (0), sm_, sm_, H', ⟨Nat.le_refl _⟩, ⟨by (with_reducible repeat (first | apply Kd.R_alloc | apply Kd.R_drewN | apply Kd.R_drew)); exact HO_5.out⟩, ⟨bk_ BK663.out⟩, ⟨bk_ BK664.out⟩, ⟨hb2_ HB.out GE663.out GE664.out⟩⟩
    case round =>
     clear H'
     try clear p2
     try clear c4
     try clear c5
     try clear c5b0
     try clear c6
     try clear p6
     try clear p2
     obtain ⟨x7_2, x8_2, rfl, rfl, HA, HK2, HO_5, BK663, BK664, HB⟩ := hrel
     cases gk with
     | zero => exact absurd HA.out (by simp [r1_Shl.l1])
     | succ k2 =>
      have H := HA.out
      clear HA
      simp only [r1_Shl.l1] at H
      by_cases c8 : x8_2 < (Int.tmod a1 32)
      ·rw [if_pos c8] at H
       have c8b0 : decide (x8_2 < (Int.tmod a1 32)) = true := decide_eq_true c8
       clear c8
       have H' := A_ H
       clear H
       go_wp2
       go_roundg k2
       case measure => have := HK1.out; have := HK2.out; omega
       case rel => exact ⟨(IntKind.u64.wrap (2 * x7_2)), (wrap64 (x8_2 + 1)), sm_, sm_, H', ⟨by have := HK1.out; have := HK2.out; omega⟩, ⟨by (with_reducible repeat (first | apply Kd.R_alloc | apply Kd.R_drewN | apply Kd.R_drew)); exact HO_5.out⟩, ⟨bk_ BK663.out⟩, ⟨bk_ BK664.out⟩, ⟨hb2_ HB.out GE663.out GE664.out⟩⟩
      ·rw [if_neg c8] at H
       have c8b0 : decide (x8_2 < (Int.tmod a1 32)) = false := decide_eq_false c8
       clear c8
       have H' := A_ H
       clear H
       go_wp2
       go_loopg [5, 9, 10] k2 (fun kq v5 v9 v10 w' => ∃ (x5_3 : List Int) (x9_3 : Int) (x10_3 : Int), v9 = .int .u64 x9_3 ∧ v10 = .int .i64 x10_3 ∧ Aside0 (r1_Shl.l2 kq x5_3 x7_2 x9_3 x10_3 l0_0 = some r) ∧ Aside0 (kq ≤ k2) ∧ Aside0 (Kd.R (Kd.int .u64) 22 w' w.heap.size (fun _ => True) v5 x5_3) ∧ Aside0 (w'.heap[gb663]? = some (.cells #[(.slice A0_0 l0_0.length c0_0)] 31 (0, 0))) ∧ Aside0 (w'.heap[gb664]? = some (.cells #[(.slice none 0 0)] 31 (0, 0))) ∧ Aside0 (Below w.heap.size w w'))
       case atStart => exact ⟨(x5_1), (0), (0), sm_, sm_, H', ⟨Nat.le_refl _⟩, ⟨by (with_reducible repeat (first | apply Kd.R_alloc | apply Kd.R_drewN | apply Kd.R_drew)); exact HO_5.out⟩, ⟨bk_ BK663.out⟩, ⟨bk_ BK664.out⟩, ⟨hb2_ HB.out GE663.out GE664.out⟩⟩
       case round =>
        clear H'
        try clear p2
        try clear c4
        try clear c5
        try clear c5b0
        try clear c6
        try clear p6
        try clear c8
        try clear c8b0
        try clear p2
        try clear p6
        obtain ⟨x5_3, x9_3, x10_3, rfl, rfl, HA, HK3, HO_5, BK663, BK664, HB⟩ := hrel
        cases gk with
        | zero => exact absurd HA.out (by simp [r1_Shl.l2])
        | succ k3 =>
         have H := HA.out
         clear HA
         simp only [r1_Shl.l2] at H
         by_cases c9 : x10_3 < (l0_0.length : Int)
         ·rw [if_pos c9] at H
          have c9b0 : decide (x10_3 < (l0_0.length : Int)) = true := decide_eq_true c9
          clear c9
          by_cases c10 : 0 ≤ x10_3
          ·rw [if_pos c10] at H
           have c10b0 : decide (0 ≤ x10_3) = true := decide_eq_true c10
           clear c10
           by_cases c11 : x5_3.length < 17592186044416
           ·rw [if_pos c11] at H
            have LMc11 := A_ c11;clear c11
            obtain ⟨y669, hy669⟩ : ∃ y_ : List Int, y_ = (x5_3 ++ [Int.tmod (IntKind.u64.wrap ((IntKind.u64.wrap ((rd l0_0 x10_3) * x7_2)) + x9_3)) 4294967296]) := ⟨_, rfl⟩
            replace H : (r1_Shl.l2 k3 y669 x7_2 (IntKind.u64.wrap (Int.tdiv (IntKind.u64.wrap ((IntKind.u64.wrap ((rd l0_0 x10_3) * x7_2)) + x9_3)) 4294967296)) (wrap64 (x10_3 + 1)) l0_0) = some r := by first | (rw [hy669]; with_reducible exact H) | (have H2_ := (Option.bind_some _ _).symm.trans H; rw [hy669]; with_reducible exact H2_) | (have H2_ := (Option.bind_some _ _).symm.trans H; with_reducible exact H2_) | with_reducible exact H | (rw [hy669]; exact H) | exact H
            have Ny669 := A_ hy669;clear hy669
            have H' := A_ H
            clear H
            have hnb12 := NB663_664.out
            have hnc12 := NB664_663.out
            have hcz13_0 := bv_ BK663.out 0
            have hfz13_0 := blk_frozen BK663.out 0
            have p668 : 0 ≤ (x10_3 : Int) := of_decide_eq_true (by first | (with_reducible assumption) | assumption)
            have q668 : x10_3 < (l0_0.length : Int) := of_decide_eq_true (by first | (with_reducible assumption) | assumption)
            obtain ⟨ad668, e668, hx668_0⟩ := Kd.at_int HR0_0.out x10_3 p668 q668
            cases e668
            replace hx668_0 := (HB.out.cell (World.block_lt_of_cell? w _ hx668_0)).trans hx668_0
            replace p668 := eq_true p668
            replace q668 := eq_true q668
            go_wp2_with (first | ((with_reducible refine gate_builtin (b := .append) (xs := #[.tmp 45, .tmp 48]) rfl ?_); at_builtin; refine Kd.R_append (Kd.int .u64) (w0 := w) w.heap.size rfl (.tmp 45) (.tmp 48) 29 22 (.int .u64 0) 8 rfl Tryz.underlying29 info22 rfl (by decide) (by omega) u5 x5_3 (Int.tmod (IntKind.u64.wrap ((IntKind.u64.wrap ((rd l0_0 x10_3) * x7_2)) + x9_3)) 4294967296) [.int .u64 (Int.tmod (IntKind.u64.wrap ((IntKind.u64.wrap ((rd l0_0 x10_3) * x7_2)) + x9_3)) 4294967296)] (fun _ => True) (fun _ => False) rfl rfl ?aP (fun _ hk => hk.elim) ?aF ?aO ?aB ?aS ?aL ?_; (case aP => exact rfl); (case aB => exact (hb2_ HB.out GE663.out GE664.out)); (case aF => exact (fun _ _ => trivial)); (case aO => exact (kr_ HO_5.out)); (case aS => exact (below_size (hb2_ HB.out GE663.out GE664.out))); (case aL => have := LMc11.out; omega); intro v670 w14 ho hb hg hat; rw [← Ny669.out] at ho; have n0_ := A_ (blk_grown (g := gb663) (o := .cells #[.slice (some ad668) l0_0.length c0_0] 31 (0, 0)) (bk_ BK663.out) hg (Kd.R_ne HO_5.out BK663.out (by decide))); have n1_ := A_ (blk_grown (g := gb664) (o := .cells #[.slice none 0 0] 31 (0, 0)) (bk_ BK664.out) hg (Kd.R_ne HO_5.out BK664.out (by decide))); have n2_ := A_ (hb); have n3_ := A_ (ho); clear BK663; clear BK664; clear HB; clear HO_5; have BK663 := n0_; have BK664 := n1_; have HB := n2_; have HO671 := n3_; clear n0_ n1_ n2_ n3_; clear ho hb hg hat))
            go_roundg k3
            case measure => have := HK1.out; have := HK2.out; have := HK3.out; omega
            case rel => exact ⟨(y669), (IntKind.u64.wrap (Int.tdiv (IntKind.u64.wrap ((IntKind.u64.wrap ((rd l0_0 x10_3) * x7_2)) + x9_3)) 4294967296)), (wrap64 (x10_3 + 1)), sm_, sm_, H', ⟨by have := HK1.out; have := HK2.out; have := HK3.out; omega⟩, ⟨by (with_reducible repeat (first | apply Kd.R_alloc | apply Kd.R_drewN | apply Kd.R_drew)); exact HO671.out⟩, ⟨bk_ BK663.out⟩, ⟨bk_ BK664.out⟩, ⟨hb2_ HB.out GE663.out GE664.out⟩⟩
           ·rw [if_neg c11] at H
            exact absurd H (by simp)
          ·rw [if_neg c10] at H
           exact absurd H (by simp)
         ·rw [if_neg c9] at H
          have c9b0 : decide (x10_3 < (l0_0.length : Int)) = false := decide_eq_false c9
          clear c9
          by_cases c15 : x5_3.length < 17592186044416
          ·rw [if_pos c15] at H
           have LMc15 := A_ c15;clear c15
           obtain ⟨y672, hy672⟩ : ∃ y_ : List Int, y_ = (x5_3 ++ [x9_3]) := ⟨_, rfl⟩
           replace H : ((r1_trim.f k3 y672).bind fun t675 => (some t675)) = some r := by first | (rw [hy672]; with_reducible exact H) | (have H2_ := (Option.bind_some _ _).symm.trans H; rw [hy672]; with_reducible exact H2_) | (have H2_ := (Option.bind_some _ _).symm.trans H; with_reducible exact H2_) | with_reducible exact H | (rw [hy672]; exact H) | exact H
           have Ny672 := A_ hy672;clear hy672
           replace H := ob_ H
           obtain ⟨t675, A160, H⟩ := H
           replace H : (some t675) = some r := H
           have A16 := A_ A160;clear A160
           obtain rfl := Option.some.inj H
           have hnb17 := NB663_664.out
           have hnc17 := NB664_663.out
           have hcz18_0 := bv_ BK663.out 0
           have hfz18_0 := blk_frozen BK663.out 0
           go_wp2_with (first | ((with_reducible refine gate_builtin (b := .append) (xs := #[.tmp 52, .tmp 54]) rfl ?_); at_builtin; refine Kd.R_append (Kd.int .u64) (w0 := w) w.heap.size rfl (.tmp 52) (.tmp 54) 29 22 (.int .u64 0) 8 rfl Tryz.underlying29 info22 rfl (by decide) (by omega) u5 x5_3 x9_3 [.int .u64 x9_3] (fun _ => True) (fun _ => False) rfl rfl ?aP (fun _ hk => hk.elim) ?aF ?aO ?aB ?aS ?aL ?_; (case aP => exact rfl); (case aB => exact (hb2_ HB.out GE663.out GE664.out)); (case aF => exact (fun _ _ => trivial)); (case aO => exact (kr_ HO_5.out)); (case aS => exact (below_size (hb2_ HB.out GE663.out GE664.out))); (case aL => have := LMc15.out; omega); intro v673 w19 ho hb hg hat; rw [← Ny672.out] at ho; have n0_ := A_ (blk_grown (g := gb663) (o := .cells #[.slice A0_0 l0_0.length c0_0] 31 (0, 0)) (bk_ BK663.out) hg (Kd.R_ne HO_5.out BK663.out (by decide))); have n1_ := A_ (blk_grown (g := gb664) (o := .cells #[.slice none 0 0] 31 (0, 0)) (bk_ BK664.out) hg (Kd.R_ne HO_5.out BK664.out (by decide))); have n2_ := A_ (hb); have n3_ := A_ (ho); clear BK663; clear BK664; clear HB; clear HO_5; have BK663 := n0_; have BK664 := n1_; have HB := n2_; have HO674 := n3_; clear n0_ n1_ n2_ n3_; clear ho hb hg hat; obtain ⟨Ao20, co20, eo20⟩ := Kd.R_slice HO674.out; subst eo20) | ((with_reducible refine gate_callee (f := 40) rfl ?_); refine goesL_ (some 56) rfl rfl Tryz.func40 (by kernel_rfl) rfl #[.slice Ao20 y672.length co20] rfl mp_ ?_; (with_reducible refine (r1_trim.calls k3 (fun k_ => some k_ = (.slice Ao20 y672.length co20 : Value).ownBlock) (.slice Ao20 y672.length co20) y672 t675 w _ ?side1 ?side2 A16.out).mono ?_); (case side1 => exact hb2_ HB.out GE663.out GE664.out); (case side2 => exact Kd.R_tight rfl HO674.out); rintro e w21 ⟨v676, rfl, ho0, hb, hkp⟩; refine ⟨_, rfl, ?_⟩; have n0_ := A_ (blk_kept (bk_ BK663.out) hkp (fun hs_ => (fun e_ => (Kd.R_ne HO674.out BK663.out (by decide)) e_) hs_)); have n1_ := A_ (blk_kept (bk_ BK664.out) hkp (fun hs_ => (fun e_ => (Kd.R_ne HO674.out BK664.out (by decide)) e_) hs_)); have n2_ := A_ (Kd.R_mono (ok' := fun k_ => True) ho0 (fun k_ hk_ => trivial)); have n3_ := A_ (hb); clear BK663; clear BK664; clear HB; clear HO674; have BK663 := n0_; have BK664 := n1_; have HO677 := n2_; have HB := n3_; clear n0_ n1_ n2_ n3_; (try clear hb); (try clear hkp); (try clear ho0); obtain ⟨Ao22, co22, eo22⟩ := Kd.R_slice HO677.out; subst eo22; have hcz23_0 := bv_ BK664.out 0; have hfz23_0 := blk_frozen BK664.out 0))
           refine bodyPost_ret (results_cell_row rfl _ _ gb664 31 #[.slice Ao22 t675.length co22] (0, 0) _ rfl (by (with_reducible repeat (first | refine blk_drewN ?_ _ | refine blk_drew ?_ | refine blk_alloc ?_ _)); refine blk_put (cs := #[.slice none 0 0]) ?_ 0 _ rfl; (with_reducible repeat (first | refine blk_drewN ?_ _ | refine blk_drew ?_ | refine blk_alloc ?_ _)); exact BK664.out) Tryz.underlying31 rfl (by kernel_rfl)) rfl ?_
           exact ⟨_, by first | rfl | (simp [errW_none, errW_some] <;> rfl) | (simp [*, errW_none, errW_some] <;> rfl), by (with_reducible repeat (first | apply Kd.R_alloc | apply Kd.R_drewN | apply Kd.R_drew)); exact Kd.R_mono (Kd.R_far (p := ⟨gb664, 0, none⟩) (Kd.R_types HO677.out BK664.out (by decide)) (fun _ hk => hk.2) (.slice Ao22 t675.length co22)) (fun _ hk => trivial), hb2_ HB.out GE663.out GE664.out⟩
          ·rw [if_neg c15] at H
           exact absurd H (by simp)
mutual
def r1_Mul.l0 : Nat → List Int → Int → List Int → List Int → Option (List Int)
 | 0, _, _, _, _ => none
 | k + 1, x5, x6, x636000, x637000 => if x6 < (x636000.length : Int) then (r1_Mul.l1 k x5 x6 0 0 x636000 x637000) else ((r1_trim.f k x5).bind fun t641 => (some t641))
def r1_Mul.l1 : Nat → List Int → Int → Int → Int → List Int → List Int → Option (List Int)
 | 0, _, _, _, _, _, _ => none
 | k + 1, x5, x6, x7, x8, x636000, x637000 => if x8 < (x637000.length : Int) then (if 0 ≤ (wrap64 (x6 + x8)) then (if (wrap64 (x6 + x8)) < (x5.length : Int) then (if 0 ≤ x6 then (if x6 < (x636000.length : Int) then ((r1_at.f x637000 x8).bind fun t646 => (r1_Mul.l1 k (x5.set ((wrap64 (x6 + x8)) : Int).toNat (Int.tmod (IntKind.u64.wrap ((IntKind.u64.wrap ((rd x5 (wrap64 (x6 + x8))) + (IntKind.u64.wrap ((rd x636000 x6) * t646)))) + x7)) 4294967296)) x6 (IntKind.u64.wrap (Int.tdiv (IntKind.u64.wrap ((IntKind.u64.wrap ((rd x5 (wrap64 (x6 + x8))) + (IntKind.u64.wrap ((rd x636000 x6) * t646)))) + x7)) 4294967296)) (wrap64 (x8 + 1)) x636000 x637000)) else (none)) else (none)) else (none)) else (none)) else (if x7 > 0 then (if 0 ≤ (wrap64 (x6 + x8)) then (if (wrap64 (x6 + x8)) < (x5.length : Int) then (if 0 ≤ x6 then (if x6 < (x636000.length : Int) then ((r1_at.f x637000 x8).bind fun t650 => (r1_Mul.l1 k (x5.set ((wrap64 (x6 + x8)) : Int).toNat (Int.tmod (IntKind.u64.wrap ((IntKind.u64.wrap ((rd x5 (wrap64 (x6 + x8))) + (IntKind.u64.wrap ((rd x636000 x6) * t650)))) + x7)) 4294967296)) x6 (IntKind.u64.wrap (Int.tdiv (IntKind.u64.wrap ((IntKind.u64.wrap ((rd x5 (wrap64 (x6 + x8))) + (IntKind.u64.wrap ((rd x636000 x6) * t650)))) + x7)) 4294967296)) (wrap64 (x8 + 1)) x636000 x637000)) else (none)) else (none)) else (none)) else (none)) else (r1_Mul.l0 k x5 (wrap64 (x6 + 1)) x636000 x637000))
end
def r1_Mul.f (k : Nat) (l0_0 : List Int) (l1_0 : List Int) : Option (List Int) := if 0 ≤ (wrap64 ((wrap64 ((l0_0.length : Int) + (l1_0.length : Int))) + 1)) then (if (wrap64 ((wrap64 ((l0_0.length : Int) + (l1_0.length : Int))) + 1) : Int).toNat ≤ 35184372088832 then (r1_Mul.l0 k (List.replicate (wrap64 ((wrap64 ((l0_0.length : Int) + (l1_0.length : Int))) + 1) : Int).toNat 0) 0 l0_0 l1_0) else (none)) else (none)
theorem r1_Mul.mono_l : ∀ k, (∀ y0 y1 y2 y3, LeO (r1_Mul.l0 k y0 y1 y2 y3) (r1_Mul.l0 (k + 1) y0 y1 y2 y3)) ∧ (∀ y0 y1 y2 y3 y4 y5, LeO (r1_Mul.l1 k y0 y1 y2 y3 y4 y5) (r1_Mul.l1 (k + 1) y0 y1 y2 y3 y4 y5))
 | 0 => ⟨fun _ _ _ _ r h => by simp [r1_Mul.l0] at h, fun _ _ _ _ _ _ r h => by simp [r1_Mul.l1] at h⟩
 | k + 1 => by
  obtain ⟨ih0, ih1⟩ := r1_Mul.mono_l k
  refine ⟨?_, ?_⟩
  ·intro y0 y1 y2 y3
   unfold r1_Mul.l0
   repeat' first
   | (with_reducible exact ih0 _ _ _ _)
   | (with_reducible exact ih1 _ _ _ _ _ _)
   | (with_reducible exact r1_trim.mono _ _)
   | (with_reducible exact LeO.refl _)
   | (with_reducible exact LeO.none _)
   | (with_reducible refine LeO.ite ?_ ?_)
   | (with_reducible refine LeO.bind ?_ (fun _ => ?_))
   | exact ih0 _ _ _ _
   | exact ih1 _ _ _ _ _ _
   | exact r1_trim.mono _ _
   | exact LeO.none _
   | refine LeO.ite ?_ ?_
   | refine LeO.bind ?_ (fun _ => ?_)
  ·intro y0 y1 y2 y3 y4 y5
   unfold r1_Mul.l1
   repeat' first
   | (with_reducible exact ih0 _ _ _ _)
   | (with_reducible exact ih1 _ _ _ _ _ _)
   | (with_reducible exact r1_trim.mono _ _)
   | (with_reducible exact LeO.refl _)
   | (with_reducible exact LeO.none _)
   | (with_reducible refine LeO.ite ?_ ?_)
   | (with_reducible refine LeO.bind ?_ (fun _ => ?_))
   | exact ih0 _ _ _ _
   | exact ih1 _ _ _ _ _ _
   | exact r1_trim.mono _ _
   | exact LeO.none _
   | refine LeO.ite ?_ ?_
   | refine LeO.bind ?_ (fun _ => ?_)
theorem r1_Mul.mono : ∀ a0 a1 k, LeO (r1_Mul.f k a0 a1) (r1_Mul.f (k + 1) a0 a1) := by
 intro a0 a1 k
 obtain ⟨ih0, ih1⟩ := r1_Mul.mono_l k
 unfold r1_Mul.f
 repeat' first
   | (with_reducible exact ih0 _ _ _ _)
   | (with_reducible exact ih1 _ _ _ _ _ _)
   | (with_reducible exact r1_trim.mono _ _)
   | (with_reducible exact LeO.refl _)
   | (with_reducible exact LeO.none _)
   | (with_reducible refine LeO.ite ?_ ?_)
   | (with_reducible refine LeO.bind ?_ (fun _ => ?_))
   | exact ih0 _ _ _ _
   | exact ih1 _ _ _ _ _ _
   | exact r1_trim.mono _ _
   | exact LeO.none _
   | refine LeO.ite ?_ ?_
   | refine LeO.bind ?_ (fun _ => ?_)
theorem r1_Mul.calls (k : Nat) (A0_0 : Option Addr) (c0_0 : Nat) (l0_0 : List Int) (A1_0 : Option Addr) (c1_0 : Nat) (l1_0 : List Int) (r : List Int) (w : World) (hr0_0 : Kd.C (Kd.int .u64) w A0_0 l0_0.length l0_0) (hc0_0 : l0_0.length ≤ c0_0) (hr1_0 : Kd.C (Kd.int .u64) w A1_0 l1_0.length l1_0) (hc1_0 : l1_0.length ≤ c1_0) (h : r1_Mul.f k l0_0 l1_0 = some r) :
  Calls Tryz.prog 12 #[.agg #[.slice A0_0 l0_0.length c0_0], .agg #[.slice A1_0 l1_0.length c1_0]] w fun e w' => ∃ v0_ : Value, e = .returned (.agg #[v0_]) ∧ Kd.R (Kd.int .u64) 22 w' w.heap.size (fun _ => True) v0_ r ∧ Below w.heap.size w w' := by
 have hu31 := Tryz.underlying31
 have HR0_0 := A_ hr0_0;have HC0_0 := A_ hc0_0;clear hr0_0 hc0_0;have HR1_0 := A_ hr1_0;have HC1_0 := A_ hc1_0;clear hr1_0 hc1_0
 have HB := A_ (Below.refl w.heap.size w)
 have H : (if 0 ≤ (wrap64 ((wrap64 ((l0_0.length : Int) + (l1_0.length : Int))) + 1)) then (if (wrap64 ((wrap64 ((l0_0.length : Int) + (l1_0.length : Int))) + 1) : Int).toNat ≤ 35184372088832 then (r1_Mul.l0 k (List.replicate (wrap64 ((wrap64 ((l0_0.length : Int) + (l1_0.length : Int))) + 1) : Int).toNat 0) 0 l0_0 l1_0) else (none)) else (none)) = some r := h
 clear h
 obtain ⟨ji3, hji3⟩ : ∃ j_ : Int, (wrap64 ((wrap64 ((l0_0.length : Int) + (l1_0.length : Int))) + 1)) = j_ := ⟨_, rfl⟩
 replace H : (if 0 ≤ (ji3) then (if (ji3 : Int).toNat ≤ 35184372088832 then (r1_Mul.l0 k (List.replicate (ji3 : Int).toNat 0) 0 l0_0 l1_0) else (none)) else (none)) = some r := by first | (rw [hji3] at H; exact H) | (simp only [hji3] at H ⊢; exact H)
 have hji3w : (IntKind.i64.wrap ((wrap64 ((l0_0.length : Int) + (l1_0.length : Int))) + 1)) = ji3 := (i64_w _).trans hji3
 by_cases c4 : 0 ≤ (ji3)
 ·rw [if_pos c4] at H
  have c4b0 := eq_true c4
  have c4b1 : decide (0 ≤ (ji3)) = true := decide_eq_true c4
  clear c4
  by_cases c5 : (ji3 : Int).toNat ≤ 35184372088832
  ·rw [if_pos c5] at H
   have c5b0 := eq_true c5
   have c5b1 : decide ((ji3 : Int).toNat ≤ 35184372088832) = true := decide_eq_true c5
   clear c5
   obtain ⟨y638, hy638⟩ : ∃ y_ : List Int, y_ = (List.replicate (ji3 : Int).toNat 0) := ⟨_, rfl⟩
   replace H : (r1_Mul.l0 k y638 0 l0_0 l1_0) = some r := by first | (rw [hy638]; with_reducible exact H) | (have H2_ := (Option.bind_some _ _).symm.trans H; rw [hy638]; with_reducible exact H2_) | (have H2_ := (Option.bind_some _ _).symm.trans H; with_reducible exact H2_) | with_reducible exact H | (rw [hy638]; exact H) | exact H
   have Ny638 := A_ hy638;clear hy638
   have H' := A_ H
   clear H
   go_enter Tryz.func12, Tryz.ntmps12
   go_wp2_with (first | ((with_reducible refine gate_dst (N := 2) rfl ?_); refine be_ 2 #[.slice A0_0 l0_0.length c0_0] 31 ?_; intro gb635 hg w6 hbox hb; have BK635 := A_ (hbox); have GW635 := A_ (sz_ hg (hb_ HB.out)); have GE635 := A_ (sz_ hg (hb_ HB.out)); replace HB := A_ (below_step (hb_ HB.out) hb); clear hb hbox hg) | ((with_reducible refine gate_dst (N := 3) rfl ?_); refine be_ 3 #[.slice A1_0 l1_0.length c1_0] 31 ?_; intro gb636 hg w7 hbox hb; have BK636 := A_ (hbox); have GW636 := A_ (sz_ hg (hb1_ HB.out GE635.out)); have GE636 := A_ (sz_ hg (hb1_ HB.out GE635.out)); have NB635_636 := A_ (nl_ hg BK635.out); have NB636_635 := A_ (ng_ hg BK635.out); replace BK635 := A_ (bb_ BK635.out hb); replace HB := A_ (below_step (hb1_ HB.out GE635.out) hb); clear hb hbox hg) | ((with_reducible refine gate_dst (N := 4) rfl ?_); refine be_ 4 #[.slice none 0 0] 31 ?_; intro gb637 hg w8 hbox hb; have BK637 := A_ (hbox); have GW637 := A_ (sz_ hg (hb2_ HB.out GE635.out GE636.out)); have GE637 := A_ (sz_ hg (hb2_ HB.out GE635.out GE636.out)); have NB635_637 := A_ (nl_ hg BK635.out); have NB637_635 := A_ (ng_ hg BK635.out); have NB636_637 := A_ (nl_ hg BK636.out); have NB637_636 := A_ (ng_ hg BK636.out); replace BK635 := A_ (bb_ BK635.out hb); replace BK636 := A_ (bb_ BK636.out hb); replace HB := A_ (below_step (hb2_ HB.out GE635.out GE636.out) hb); clear hb hbox hg; have hnb9 := NB635_636.out; have hnc9 := NB636_635.out; have hnb10 := NB635_637.out; have hnc10 := NB637_635.out; have hcz11_0 := bv_ BK635.out 0; have hfz11_0 := blk_frozen BK635.out 0; have hnb12 := NB636_637.out; have hnc12 := NB637_636.out; have hcz13_0 := bv_ BK636.out 0; have hfz13_0 := blk_frozen BK636.out 0) | ((with_reducible refine gate_dst (N := 18) rfl ?_); refine Kd.R_make (Kd.int .u64) _ 22 rfl (N := 18) rfl 29 _ _ rfl ji3 rfl rfl Tryz.underlying29 (.int .u64 0) 8 info22 rfl (by decide) (by omega) 0 (ok := fun _ => True) (okp := fun _ => True) rfl (fun _ hk => hk) trivial (of_decide_eq_true (by first | (with_reducible assumption) | assumption)) (Nat.le_trans (Nat.mul_le_mul_right _ (of_decide_eq_true (by first | (with_reducible assumption) | assumption) : ji3.toNat ≤ 35184372088832)) (by omega)) (Below.refl _ _) (Nat.le_refl _) ?_; intro v639 w14 ho15 hb hg_ hnew_; clear hg_ hnew_; (first | rw [← Ny638.out] at ho15 | (simp only [Int.reduceToNat] at ho15; rw [← Ny638.out] at ho15)); have HO640 := A_ (Kd.R_lower ho15 (below_size (hb3_ HB.out GE635.out GE636.out GE637.out))); replace BK635 := A_ (bb_ BK635.out hb); replace BK636 := A_ (bb_ BK636.out hb); replace BK637 := A_ (bb_ BK637.out hb); replace HB := A_ (below_step (hb3_ HB.out GE635.out GE636.out GE637.out) hb); clear hb ho15))
   repeat (go_quiet (first | ((with_reducible refine gate_dst (N := 2) rfl ?_); refine be_ 2 #[.slice A0_0 l0_0.length c0_0] 31 ?_; intro gb635 hg w6 hbox hb; have BK635 := A_ (hbox); have GW635 := A_ (sz_ hg (hb_ HB.out)); have GE635 := A_ (sz_ hg (hb_ HB.out)); replace HB := A_ (below_step (hb_ HB.out) hb); clear hb hbox hg) | ((with_reducible refine gate_dst (N := 3) rfl ?_); refine be_ 3 #[.slice A1_0 l1_0.length c1_0] 31 ?_; intro gb636 hg w7 hbox hb; have BK636 := A_ (hbox); have GW636 := A_ (sz_ hg (hb1_ HB.out GE635.out)); have GE636 := A_ (sz_ hg (hb1_ HB.out GE635.out)); have NB635_636 := A_ (nl_ hg BK635.out); have NB636_635 := A_ (ng_ hg BK635.out); replace BK635 := A_ (bb_ BK635.out hb); replace HB := A_ (below_step (hb1_ HB.out GE635.out) hb); clear hb hbox hg) | ((with_reducible refine gate_dst (N := 4) rfl ?_); refine be_ 4 #[.slice none 0 0] 31 ?_; intro gb637 hg w8 hbox hb; have BK637 := A_ (hbox); have GW637 := A_ (sz_ hg (hb2_ HB.out GE635.out GE636.out)); have GE637 := A_ (sz_ hg (hb2_ HB.out GE635.out GE636.out)); have NB635_637 := A_ (nl_ hg BK635.out); have NB637_635 := A_ (ng_ hg BK635.out); have NB636_637 := A_ (nl_ hg BK636.out); have NB637_636 := A_ (ng_ hg BK636.out); replace BK635 := A_ (bb_ BK635.out hb); replace BK636 := A_ (bb_ BK636.out hb); replace HB := A_ (below_step (hb2_ HB.out GE635.out GE636.out) hb); clear hb hbox hg; have hnb9 := NB635_636.out; have hnc9 := NB636_635.out; have hnb10 := NB635_637.out; have hnc10 := NB637_635.out; have hcz11_0 := bv_ BK635.out 0; have hfz11_0 := blk_frozen BK635.out 0; have hnb12 := NB636_637.out; have hnc12 := NB637_636.out; have hcz13_0 := bv_ BK636.out 0; have hfz13_0 := blk_frozen BK636.out 0) | ((with_reducible refine gate_dst (N := 18) rfl ?_); refine Kd.R_make (Kd.int .u64) _ 22 rfl (N := 18) rfl 29 _ _ rfl ji3 rfl rfl Tryz.underlying29 (.int .u64 0) 8 info22 rfl (by decide) (by omega) 0 (ok := fun _ => True) (okp := fun _ => True) rfl (fun _ hk => hk) trivial (of_decide_eq_true (by first | (with_reducible assumption) | assumption)) (Nat.le_trans (Nat.mul_le_mul_right _ (of_decide_eq_true (by first | (with_reducible assumption) | assumption) : ji3.toNat ≤ 35184372088832)) (by omega)) (Below.refl _ _) (Nat.le_refl _) ?_; intro v639 w14 ho15 hb hg_ hnew_; clear hg_ hnew_; (first | rw [← Ny638.out] at ho15 | (simp only [Int.reduceToNat] at ho15; rw [← Ny638.out] at ho15)); have HO640 := A_ (Kd.R_lower ho15 (below_size (hb3_ HB.out GE635.out GE636.out GE637.out))); replace BK635 := A_ (bb_ BK635.out hb); replace BK636 := A_ (bb_ BK636.out hb); replace BK637 := A_ (bb_ BK637.out hb); replace HB := A_ (below_step (hb3_ HB.out GE635.out GE636.out GE637.out) hb); clear hb ho15)); try go_wp2_with (first | ((with_reducible refine gate_dst (N := 2) rfl ?_); refine be_ 2 #[.slice A0_0 l0_0.length c0_0] 31 ?_; intro gb635 hg w6 hbox hb; have BK635 := A_ (hbox); have GW635 := A_ (sz_ hg (hb_ HB.out)); have GE635 := A_ (sz_ hg (hb_ HB.out)); replace HB := A_ (below_step (hb_ HB.out) hb); clear hb hbox hg) | ((with_reducible refine gate_dst (N := 3) rfl ?_); refine be_ 3 #[.slice A1_0 l1_0.length c1_0] 31 ?_; intro gb636 hg w7 hbox hb; have BK636 := A_ (hbox); have GW636 := A_ (sz_ hg (hb1_ HB.out GE635.out)); have GE636 := A_ (sz_ hg (hb1_ HB.out GE635.out)); have NB635_636 := A_ (nl_ hg BK635.out); have NB636_635 := A_ (ng_ hg BK635.out); replace BK635 := A_ (bb_ BK635.out hb); replace HB := A_ (below_step (hb1_ HB.out GE635.out) hb); clear hb hbox hg) | ((with_reducible refine gate_dst (N := 4) rfl ?_); refine be_ 4 #[.slice none 0 0] 31 ?_; intro gb637 hg w8 hbox hb; have BK637 := A_ (hbox); have GW637 := A_ (sz_ hg (hb2_ HB.out GE635.out GE636.out)); have GE637 := A_ (sz_ hg (hb2_ HB.out GE635.out GE636.out)); have NB635_637 := A_ (nl_ hg BK635.out); have NB637_635 := A_ (ng_ hg BK635.out); have NB636_637 := A_ (nl_ hg BK636.out); have NB637_636 := A_ (ng_ hg BK636.out); replace BK635 := A_ (bb_ BK635.out hb); replace BK636 := A_ (bb_ BK636.out hb); replace HB := A_ (below_step (hb2_ HB.out GE635.out GE636.out) hb); clear hb hbox hg; have hnb9 := NB635_636.out; have hnc9 := NB636_635.out; have hnb10 := NB635_637.out; have hnc10 := NB637_635.out; have hcz11_0 := bv_ BK635.out 0; have hfz11_0 := blk_frozen BK635.out 0; have hnb12 := NB636_637.out; have hnc12 := NB637_636.out; have hcz13_0 := bv_ BK636.out 0; have hfz13_0 := blk_frozen BK636.out 0) | ((with_reducible refine gate_dst (N := 18) rfl ?_); refine Kd.R_make (Kd.int .u64) _ 22 rfl (N := 18) rfl 29 _ _ rfl ji3 rfl rfl Tryz.underlying29 (.int .u64 0) 8 info22 rfl (by decide) (by omega) 0 (ok := fun _ => True) (okp := fun _ => True) rfl (fun _ hk => hk) trivial (of_decide_eq_true (by first | (with_reducible assumption) | assumption)) (Nat.le_trans (Nat.mul_le_mul_right _ (of_decide_eq_true (by first | (with_reducible assumption) | assumption) : ji3.toNat ≤ 35184372088832)) (by omega)) (Below.refl _ _) (Nat.le_refl _) ?_; intro v639 w14 ho15 hb hg_ hnew_; clear hg_ hnew_; (first | rw [← Ny638.out] at ho15 | (simp only [Int.reduceToNat] at ho15; rw [← Ny638.out] at ho15)); have HO640 := A_ (Kd.R_lower ho15 (below_size (hb3_ HB.out GE635.out GE636.out GE637.out))); replace BK635 := A_ (bb_ BK635.out hb); replace BK636 := A_ (bb_ BK636.out hb); replace BK637 := A_ (bb_ BK637.out hb); replace HB := A_ (below_step (hb3_ HB.out GE635.out GE636.out GE637.out) hb); clear hb ho15)))
   go_loopg [6] k (fun kq v6 w' => ∃ (x5_1 : List Int) (x6_1 : Int), v6 = .int .i64 x6_1 ∧ Aside0 (r1_Mul.l0 kq x5_1 x6_1 l0_0 l1_0 = some r) ∧ Aside0 (kq ≤ k) ∧ Aside0 (Kd.R (Kd.int .u64) 22 w' w.heap.size (fun _ => True) v639 x5_1) ∧ Aside0 (w'.heap[gb635]? = some (.cells #[(.slice A0_0 l0_0.length c0_0)] 31 (0, 0))) ∧ Aside0 (w'.heap[gb636]? = some (.cells #[(.slice A1_0 l1_0.length c1_0)] 31 (0, 0))) ∧ Aside0 (w'.heap[gb637]? = some (.cells #[(.slice none 0 0)] 31 (0, 0))) ∧ Aside0 (Below w.heap.size w w'))
   case atStart => exact ⟨(y638), (0), sm_, H', ⟨Nat.le_refl _⟩, ⟨by (with_reducible repeat (first | apply Kd.R_alloc | apply Kd.R_drewN | apply Kd.R_drew)); exact HO640.out⟩, ⟨bk_ BK635.out⟩, ⟨bk_ BK636.out⟩, ⟨bk_ BK637.out⟩, ⟨hb3_ HB.out GE635.out GE636.out GE637.out⟩⟩
   case round =>
    clear H'
    try clear c1
    try clear p2
    try clear c4
    try clear c4b0
    try clear c4b1
    try clear c5
    try clear c5b0
    try clear c5b1
    try clear p6
    try clear c9
    try clear c10
    try clear c12
    try clear hcz11_0
    try clear hcz13_0
    try clear hfz11_0
    try clear hfz13_0
    obtain ⟨x5_1, x6_1, rfl, HA, HK1, HO_5, BK635, BK636, BK637, HB⟩ := hrel
    cases gk with
    | zero => exact absurd HA.out (by simp [r1_Mul.l0])
    | succ k1 =>
     have H := HA.out
     clear HA
     simp only [r1_Mul.l0] at H
     by_cases c16 : x6_1 < (l0_0.length : Int)
     ·rw [if_pos c16] at H
      have c16b0 : decide (x6_1 < (l0_0.length : Int)) = true := decide_eq_true c16
      clear c16
      have H' := A_ H
      clear H
      have hnb17 := NB635_636.out
      have hnc17 := NB636_635.out
      have hnb18 := NB635_637.out
      have hnc18 := NB637_635.out
      have hcz19_0 := bv_ BK635.out 0
      have hfz19_0 := blk_frozen BK635.out 0
      go_wp2
      repeat (go_quiet (fail); try go_wp2)
      go_loopg [7, 8] k1 (fun kq v7 v8 w' => ∃ (x5_2 : List Int) (x7_2 : Int) (x8_2 : Int), v7 = .int .u64 x7_2 ∧ v8 = .int .i64 x8_2 ∧ Aside0 (r1_Mul.l1 kq x5_2 x6_1 x7_2 x8_2 l0_0 l1_0 = some r) ∧ Aside0 (kq ≤ k1) ∧ Aside0 (Kd.R (Kd.int .u64) 22 w' w.heap.size (fun _ => True) v639 x5_2) ∧ Aside0 (w'.heap[gb635]? = some (.cells #[(.slice A0_0 l0_0.length c0_0)] 31 (0, 0))) ∧ Aside0 (w'.heap[gb636]? = some (.cells #[(.slice A1_0 l1_0.length c1_0)] 31 (0, 0))) ∧ Aside0 (w'.heap[gb637]? = some (.cells #[(.slice none 0 0)] 31 (0, 0))) ∧ Aside0 (Below w.heap.size w w'))
      case atStart => exact ⟨(x5_1), (0), (0), sm_, sm_, H', ⟨Nat.le_refl _⟩, ⟨by (with_reducible repeat (first | apply Kd.R_alloc | apply Kd.R_drewN | apply Kd.R_drew)); exact HO_5.out⟩, ⟨bk_ BK635.out⟩, ⟨bk_ BK636.out⟩, ⟨bk_ BK637.out⟩, ⟨hb3_ HB.out GE635.out GE636.out GE637.out⟩⟩
      case round =>
       clear H'
       try clear c1
       try clear p2
       try clear c4
       try clear c4b0
       try clear c4b1
       try clear c5
       try clear c5b0
       try clear c5b1
       try clear p6
       try clear c9
       try clear c10
       try clear c12
       try clear c16
       try clear c16b0
       try clear c17
       try clear c18
       try clear hcz11_0
       try clear hcz13_0
       try clear hcz19_0
       try clear hfz11_0
       try clear hfz13_0
       try clear hfz19_0
       try clear p2
       try clear p6
       obtain ⟨x5_2, x7_2, x8_2, rfl, rfl, HA, HK2, HO_5, BK635, BK636, BK637, HB⟩ := hrel
       cases gk with
       | zero => exact absurd HA.out (by simp [r1_Mul.l1])
       | succ k2 =>
        have H := HA.out
        clear HA
        simp only [r1_Mul.l1] at H
        by_cases c20 : x8_2 < (l1_0.length : Int)
        ·rw [if_pos c20] at H
         have c20b0 : decide (x8_2 < (l1_0.length : Int)) = true := decide_eq_true c20
         clear c20
         obtain ⟨ji21, hji21⟩ : ∃ j_ : Int, (wrap64 (x6_1 + x8_2)) = j_ := ⟨_, rfl⟩
         replace H : (if 0 ≤ (ji21) then (if (ji21) < (x5_2.length : Int) then (if 0 ≤ x6_1 then (if x6_1 < (l0_0.length : Int) then ((r1_at.f l1_0 x8_2).bind fun t646 => (r1_Mul.l1 k2 (x5_2.set ((ji21) : Int).toNat (Int.tmod (IntKind.u64.wrap ((IntKind.u64.wrap ((rd x5_2 (ji21)) + (IntKind.u64.wrap ((rd l0_0 x6_1) * t646)))) + x7_2)) 4294967296)) x6_1 (IntKind.u64.wrap (Int.tdiv (IntKind.u64.wrap ((IntKind.u64.wrap ((rd x5_2 (ji21)) + (IntKind.u64.wrap ((rd l0_0 x6_1) * t646)))) + x7_2)) 4294967296)) (wrap64 (x8_2 + 1)) l0_0 l1_0)) else (none)) else (none)) else (none)) else (none)) = some r := by first | (rw [hji21] at H; exact H) | (simp only [hji21] at H ⊢; exact H)
         have hji21w : (IntKind.i64.wrap (x6_1 + x8_2)) = ji21 := (i64_w _).trans hji21
         by_cases c22 : 0 ≤ (ji21)
         ·rw [if_pos c22] at H
          have c22b0 : decide (0 ≤ (ji21)) = true := decide_eq_true c22
          clear c22
          by_cases c23 : (ji21) < (x5_2.length : Int)
          ·rw [if_pos c23] at H
           have c23b0 : decide ((ji21) < (x5_2.length : Int)) = true := decide_eq_true c23
           clear c23
           by_cases c24 : 0 ≤ x6_1
           ·rw [if_pos c24] at H
            have c24b0 : decide (0 ≤ x6_1) = true := decide_eq_true c24
            clear c24
            by_cases c25 : x6_1 < (l0_0.length : Int)
            ·rw [if_pos c25] at H
             have c25b0 : decide (x6_1 < (l0_0.length : Int)) = true := decide_eq_true c25
             clear c25
             replace H := ob_ H
             obtain ⟨t646, A260, H⟩ := H
             replace H : (r1_Mul.l1 k2 (x5_2.set ((ji21) : Int).toNat (Int.tmod (IntKind.u64.wrap ((IntKind.u64.wrap ((rd x5_2 (ji21)) + (IntKind.u64.wrap ((rd l0_0 x6_1) * t646)))) + x7_2)) 4294967296)) x6_1 (IntKind.u64.wrap (Int.tdiv (IntKind.u64.wrap ((IntKind.u64.wrap ((rd x5_2 (ji21)) + (IntKind.u64.wrap ((rd l0_0 x6_1) * t646)))) + x7_2)) 4294967296)) (wrap64 (x8_2 + 1)) l0_0 l1_0) = some r := H
             have A26 := A_ A260;clear A260
             obtain ⟨y647, hy647⟩ : ∃ y_ : List Int, y_ = (x5_2.set ((ji21) : Int).toNat (Int.tmod (IntKind.u64.wrap ((IntKind.u64.wrap ((rd x5_2 (ji21)) + (IntKind.u64.wrap ((rd l0_0 x6_1) * t646)))) + x7_2)) 4294967296)) := ⟨_, rfl⟩
             replace H : (r1_Mul.l1 k2 y647 x6_1 (IntKind.u64.wrap (Int.tdiv (IntKind.u64.wrap ((IntKind.u64.wrap ((rd x5_2 (ji21)) + (IntKind.u64.wrap ((rd l0_0 x6_1) * t646)))) + x7_2)) 4294967296)) (wrap64 (x8_2 + 1)) l0_0 l1_0) = some r := by first | (rw [hy647]; with_reducible exact H) | (have H2_ := (Option.bind_some _ _).symm.trans H; rw [hy647]; with_reducible exact H2_) | (have H2_ := (Option.bind_some _ _).symm.trans H; with_reducible exact H2_) | with_reducible exact H | (rw [hy647]; exact H) | exact H
             have Ny647 := A_ hy647;clear hy647
             have H' := A_ H
             clear H
             have hnb28 := NB636_635.out
             have hnc28 := NB635_636.out
             have hnb29 := NB636_637.out
             have hnc29 := NB637_636.out
             have hcz30_0 := bv_ BK636.out 0
             have hfz30_0 := blk_frozen BK636.out 0
             obtain ⟨Ao31, co31, eo31⟩ := Kd.R_slice HO_5.out
             subst eo31
             have p644 : 0 ≤ ((ji21) : Int) := of_decide_eq_true (by first | (with_reducible assumption) | assumption)
             have q644 : (ji21) < (x5_2.length : Int) := of_decide_eq_true (by first | (with_reducible assumption) | assumption)
             obtain ⟨ad644, e644, hx644_0⟩ := Kd.at_int (Kd.R_reads' HO_5.out).2.2 (ji21) p644 q644
             cases e644
             replace p644 := eq_true p644
             replace q644 := eq_true q644
             have hnb32 := NB635_637.out
             have hnc32 := NB637_635.out
             have hcz33_0 := bv_ BK635.out 0
             have hfz33_0 := blk_frozen BK635.out 0
             have p645 : 0 ≤ (x6_1 : Int) := of_decide_eq_true (by first | (with_reducible assumption) | assumption)
             have q645 : x6_1 < (l0_0.length : Int) := of_decide_eq_true (by first | (with_reducible assumption) | assumption)
             obtain ⟨ad645, e645, hx645_0⟩ := Kd.at_int HR0_0.out x6_1 p645 q645
             cases e645
             replace hx645_0 := (HB.out.cell (World.block_lt_of_cell? w _ hx645_0)).trans hx645_0
             replace p645 := eq_true p645
             replace q645 := eq_true q645
             go_wp2_with (first | (go_at_call 39; (with_reducible refine (r1_at.calls _ _ l1_0 x8_2 t646 _ ?side1 ?side2 A26.out).mono ?_); (case side1 => exact cs_ ((Kd.C_below HR1_0.out HB.out))); (case side2 => exact HC1_0.out); rintro e w' ⟨rfl, ⟨nd, rfl⟩⟩; (try first | exact ⟨rfl, _, World.drewN_drewN _ _ _⟩ | exact ⟨rfl, _, Eq.trans (World.drewN_drewN _ _ _) (congrArg (World.drewN _) (Nat.add_assoc _ _ _))⟩); have p27 : 0 ≤ ((ji21) : Int) := of_decide_eq_true (by first | (with_reducible assumption) | assumption); have q27 : ((ji21) : Int) < ((x5_2.length : Int) : Int) := of_decide_eq_true (by first | (with_reducible assumption) | assumption); obtain ⟨go27, co27, eo27, gb27, gl27, cl27, HG27⟩ := Kd.R_form HO_5.out (by omega); (first | cases eo27 | (injection eo27 with ea_ en_ ec_; (first | subst ea_ | (injection ea_ with ea_; subst ea_)); subst ec_; clear en_)); have GB27 := A_ gb27; have GG27 := A_ HG27; clear gb27 gl27 HG27; (first | simp only [add_plain] at hx644_0 | skip); obtain ⟨hx27_0, hf27_0⟩ := Kd.R_celln 0 HO_5.out ((ji21) : Int) p27 q27; replace p27 := eq_true p27; replace q27 := eq_true q27; obtain ⟨hy34_, hz34_⟩ := Kd.R_celln 0 HO_5.out ((ji21) : Int) (of_decide_eq_true (by first | (with_reducible assumption) | assumption)) (of_decide_eq_true (by first | (with_reducible assumption) | assumption)); have HP34 := Kd.R_putg HO_5.out ((ji21) : Int) (Int.tmod (IntKind.u64.wrap ((IntKind.u64.wrap ((rd x5_2 (ji21)) + (IntKind.u64.wrap ((rd l0_0 x6_1) * t646)))) + x7_2)) 4294967296)) | ((with_reducible refine gate_store (t := 22) (p := 62) rfl ?_); (try (rw [drewN_self wr]; generalize hq_ : World.drewN wr _ = wr; have n0_ := A_ (Kd.R_at hq_ HO_5.out); have n1_ := A_ (blk_at hq_ BK635.out); have n2_ := A_ (blk_at hq_ BK636.out); have n3_ := A_ (blk_at hq_ BK637.out); have n4_ := A_ (below_at hq_ HB.out); clear hq_ HO_5 BK635 BK636 BK637 HB; have HO_5 := n0_; have BK635 := n1_; have BK636 := n2_; have BK637 := n3_; have HB := n4_; clear n0_ n1_ n2_ n3_ n4_; (try (obtain ⟨hy34_, hz34_⟩ := Kd.R_celln 0 HO_5.out ((ji21) : Int) (of_decide_eq_true (by first | (with_reducible assumption) | assumption)) (of_decide_eq_true (by first | (with_reducible assumption) | assumption)))); (try (have HP34 := Kd.R_putg HO_5.out ((ji21) : Int) (Int.tmod (IntKind.u64.wrap ((IntKind.u64.wrap ((rd x5_2 (ji21)) + (IntKind.u64.wrap ((rd l0_0 x6_1) * t646)))) + x7_2)) 4294967296))))); refine store_event (t := 22) (p := 62) (v := ?vo_w35) (w1 := (wr.setCell ⟨go27, ((ji21) : Int).toNat, none⟩ (.int .u64 (Int.tmod (IntKind.u64.wrap ((IntKind.u64.wrap ((rd x5_2 (ji21)) + (IntKind.u64.wrap ((rd l0_0 x6_1) * t646)))) + x7_2)) 4294967296)))) ?hg ?ho ?hn ?hr ?_; (case ho => rfl); (case hg => rfl); (case hn => rfl); (case hr => first | (go_simp; done) | (go_simp; rfl)); intro w35 hw; have hg : wr.grownBy w35 (some go27) := (by rw [hw]; exact HP34.2); have hp_ : Kd.R (Kd.int .u64) 22 w35 w.heap.size (fun _ => True) (.slice (some ⟨go27, 0, none⟩) x5_2.length co31) y647 := (by rw [hw, Ny647.out]; exact HP34.1); clear HP34; replace BK635 := A_ (blk_grown (g := gb635) (o := .cells #[.slice (some ad645) l0_0.length c0_0] 31 (0, 0)) (bk_ BK635.out) hg (Kd.R_ne HO_5.out BK635.out (by decide))); replace BK636 := A_ (blk_grown (g := gb636) (o := .cells #[.slice A1_0 l1_0.length c1_0] 31 (0, 0)) (bk_ BK636.out) hg (Kd.R_ne HO_5.out BK636.out (by decide))); replace BK637 := A_ (blk_grown (g := gb637) (o := .cells #[.slice none 0 0] 31 (0, 0)) (bk_ BK637.out) hg (Kd.R_ne HO_5.out BK637.out (by decide))); replace HO_5 := A_ (hp_); replace HB := A_ ((by rw [hw]; exact below_set (HB.out) GB27.out : Below w.heap.size w w35)); clear hg hw hp_))
             repeat (go_quiet (first | (go_at_call 39; (with_reducible refine (r1_at.calls _ _ l1_0 x8_2 t646 _ ?side1 ?side2 A26.out).mono ?_); (case side1 => exact cs_ ((Kd.C_below HR1_0.out HB.out))); (case side2 => exact HC1_0.out); rintro e w' ⟨rfl, ⟨nd, rfl⟩⟩; (try first | exact ⟨rfl, _, World.drewN_drewN _ _ _⟩ | exact ⟨rfl, _, Eq.trans (World.drewN_drewN _ _ _) (congrArg (World.drewN _) (Nat.add_assoc _ _ _))⟩); have p27 : 0 ≤ ((ji21) : Int) := of_decide_eq_true (by first | (with_reducible assumption) | assumption); have q27 : ((ji21) : Int) < ((x5_2.length : Int) : Int) := of_decide_eq_true (by first | (with_reducible assumption) | assumption); obtain ⟨go27, co27, eo27, gb27, gl27, cl27, HG27⟩ := Kd.R_form HO_5.out (by omega); (first | cases eo27 | (injection eo27 with ea_ en_ ec_; (first | subst ea_ | (injection ea_ with ea_; subst ea_)); subst ec_; clear en_)); have GB27 := A_ gb27; have GG27 := A_ HG27; clear gb27 gl27 HG27; (first | simp only [add_plain] at hx644_0 | skip); obtain ⟨hx27_0, hf27_0⟩ := Kd.R_celln 0 HO_5.out ((ji21) : Int) p27 q27; replace p27 := eq_true p27; replace q27 := eq_true q27; obtain ⟨hy34_, hz34_⟩ := Kd.R_celln 0 HO_5.out ((ji21) : Int) (of_decide_eq_true (by first | (with_reducible assumption) | assumption)) (of_decide_eq_true (by first | (with_reducible assumption) | assumption)); have HP34 := Kd.R_putg HO_5.out ((ji21) : Int) (Int.tmod (IntKind.u64.wrap ((IntKind.u64.wrap ((rd x5_2 (ji21)) + (IntKind.u64.wrap ((rd l0_0 x6_1) * t646)))) + x7_2)) 4294967296)) | ((with_reducible refine gate_store (t := 22) (p := 62) rfl ?_); (try (rw [drewN_self wr]; generalize hq_ : World.drewN wr _ = wr; have n0_ := A_ (Kd.R_at hq_ HO_5.out); have n1_ := A_ (blk_at hq_ BK635.out); have n2_ := A_ (blk_at hq_ BK636.out); have n3_ := A_ (blk_at hq_ BK637.out); have n4_ := A_ (below_at hq_ HB.out); clear hq_ HO_5 BK635 BK636 BK637 HB; have HO_5 := n0_; have BK635 := n1_; have BK636 := n2_; have BK637 := n3_; have HB := n4_; clear n0_ n1_ n2_ n3_ n4_; (try (obtain ⟨hy34_, hz34_⟩ := Kd.R_celln 0 HO_5.out ((ji21) : Int) (of_decide_eq_true (by first | (with_reducible assumption) | assumption)) (of_decide_eq_true (by first | (with_reducible assumption) | assumption)))); (try (have HP34 := Kd.R_putg HO_5.out ((ji21) : Int) (Int.tmod (IntKind.u64.wrap ((IntKind.u64.wrap ((rd x5_2 (ji21)) + (IntKind.u64.wrap ((rd l0_0 x6_1) * t646)))) + x7_2)) 4294967296))))); refine store_event (t := 22) (p := 62) (v := ?vo_w35) (w1 := (wr.setCell ⟨go27, ((ji21) : Int).toNat, none⟩ (.int .u64 (Int.tmod (IntKind.u64.wrap ((IntKind.u64.wrap ((rd x5_2 (ji21)) + (IntKind.u64.wrap ((rd l0_0 x6_1) * t646)))) + x7_2)) 4294967296)))) ?hg ?ho ?hn ?hr ?_; (case ho => rfl); (case hg => rfl); (case hn => rfl); (case hr => first | (go_simp; done) | (go_simp; rfl)); intro w35 hw; have hg : wr.grownBy w35 (some go27) := (by rw [hw]; exact HP34.2); have hp_ : Kd.R (Kd.int .u64) 22 w35 w.heap.size (fun _ => True) (.slice (some ⟨go27, 0, none⟩) x5_2.length co31) y647 := (by rw [hw, Ny647.out]; exact HP34.1); clear HP34; replace BK635 := A_ (blk_grown (g := gb635) (o := .cells #[.slice (some ad645) l0_0.length c0_0] 31 (0, 0)) (bk_ BK635.out) hg (Kd.R_ne HO_5.out BK635.out (by decide))); replace BK636 := A_ (blk_grown (g := gb636) (o := .cells #[.slice A1_0 l1_0.length c1_0] 31 (0, 0)) (bk_ BK636.out) hg (Kd.R_ne HO_5.out BK636.out (by decide))); replace BK637 := A_ (blk_grown (g := gb637) (o := .cells #[.slice none 0 0] 31 (0, 0)) (bk_ BK637.out) hg (Kd.R_ne HO_5.out BK637.out (by decide))); replace HO_5 := A_ (hp_); replace HB := A_ ((by rw [hw]; exact below_set (HB.out) GB27.out : Below w.heap.size w w35)); clear hg hw hp_)); try go_wp2_with (first | (go_at_call 39; (with_reducible refine (r1_at.calls _ _ l1_0 x8_2 t646 _ ?side1 ?side2 A26.out).mono ?_); (case side1 => exact cs_ ((Kd.C_below HR1_0.out HB.out))); (case side2 => exact HC1_0.out); rintro e w' ⟨rfl, ⟨nd, rfl⟩⟩; (try first | exact ⟨rfl, _, World.drewN_drewN _ _ _⟩ | exact ⟨rfl, _, Eq.trans (World.drewN_drewN _ _ _) (congrArg (World.drewN _) (Nat.add_assoc _ _ _))⟩); have p27 : 0 ≤ ((ji21) : Int) := of_decide_eq_true (by first | (with_reducible assumption) | assumption); have q27 : ((ji21) : Int) < ((x5_2.length : Int) : Int) := of_decide_eq_true (by first | (with_reducible assumption) | assumption); obtain ⟨go27, co27, eo27, gb27, gl27, cl27, HG27⟩ := Kd.R_form HO_5.out (by omega); (first | cases eo27 | (injection eo27 with ea_ en_ ec_; (first | subst ea_ | (injection ea_ with ea_; subst ea_)); subst ec_; clear en_)); have GB27 := A_ gb27; have GG27 := A_ HG27; clear gb27 gl27 HG27; (first | simp only [add_plain] at hx644_0 | skip); obtain ⟨hx27_0, hf27_0⟩ := Kd.R_celln 0 HO_5.out ((ji21) : Int) p27 q27; replace p27 := eq_true p27; replace q27 := eq_true q27; obtain ⟨hy34_, hz34_⟩ := Kd.R_celln 0 HO_5.out ((ji21) : Int) (of_decide_eq_true (by first | (with_reducible assumption) | assumption)) (of_decide_eq_true (by first | (with_reducible assumption) | assumption)); have HP34 := Kd.R_putg HO_5.out ((ji21) : Int) (Int.tmod (IntKind.u64.wrap ((IntKind.u64.wrap ((rd x5_2 (ji21)) + (IntKind.u64.wrap ((rd l0_0 x6_1) * t646)))) + x7_2)) 4294967296)) | ((with_reducible refine gate_store (t := 22) (p := 62) rfl ?_); (try (rw [drewN_self wr]; generalize hq_ : World.drewN wr _ = wr; have n0_ := A_ (Kd.R_at hq_ HO_5.out); have n1_ := A_ (blk_at hq_ BK635.out); have n2_ := A_ (blk_at hq_ BK636.out); have n3_ := A_ (blk_at hq_ BK637.out); have n4_ := A_ (below_at hq_ HB.out); clear hq_ HO_5 BK635 BK636 BK637 HB; have HO_5 := n0_; have BK635 := n1_; have BK636 := n2_; have BK637 := n3_; have HB := n4_; clear n0_ n1_ n2_ n3_ n4_; (try (obtain ⟨hy34_, hz34_⟩ := Kd.R_celln 0 HO_5.out ((ji21) : Int) (of_decide_eq_true (by first | (with_reducible assumption) | assumption)) (of_decide_eq_true (by first | (with_reducible assumption) | assumption)))); (try (have HP34 := Kd.R_putg HO_5.out ((ji21) : Int) (Int.tmod (IntKind.u64.wrap ((IntKind.u64.wrap ((rd x5_2 (ji21)) + (IntKind.u64.wrap ((rd l0_0 x6_1) * t646)))) + x7_2)) 4294967296))))); refine store_event (t := 22) (p := 62) (v := ?vo_w35) (w1 := (wr.setCell ⟨go27, ((ji21) : Int).toNat, none⟩ (.int .u64 (Int.tmod (IntKind.u64.wrap ((IntKind.u64.wrap ((rd x5_2 (ji21)) + (IntKind.u64.wrap ((rd l0_0 x6_1) * t646)))) + x7_2)) 4294967296)))) ?hg ?ho ?hn ?hr ?_; (case ho => rfl); (case hg => rfl); (case hn => rfl); (case hr => first | (go_simp; done) | (go_simp; rfl)); intro w35 hw; have hg : wr.grownBy w35 (some go27) := (by rw [hw]; exact HP34.2); have hp_ : Kd.R (Kd.int .u64) 22 w35 w.heap.size (fun _ => True) (.slice (some ⟨go27, 0, none⟩) x5_2.length co31) y647 := (by rw [hw, Ny647.out]; exact HP34.1); clear HP34; replace BK635 := A_ (blk_grown (g := gb635) (o := .cells #[.slice (some ad645) l0_0.length c0_0] 31 (0, 0)) (bk_ BK635.out) hg (Kd.R_ne HO_5.out BK635.out (by decide))); replace BK636 := A_ (blk_grown (g := gb636) (o := .cells #[.slice A1_0 l1_0.length c1_0] 31 (0, 0)) (bk_ BK636.out) hg (Kd.R_ne HO_5.out BK636.out (by decide))); replace BK637 := A_ (blk_grown (g := gb637) (o := .cells #[.slice none 0 0] 31 (0, 0)) (bk_ BK637.out) hg (Kd.R_ne HO_5.out BK637.out (by decide))); replace HO_5 := A_ (hp_); replace HB := A_ ((by rw [hw]; exact below_set (HB.out) GB27.out : Below w.heap.size w w35)); clear hg hw hp_)))
             go_roundg k2
             case measure => have := HK1.out; have := HK2.out; omega
             case rel => exact ⟨(y647), (IntKind.u64.wrap (Int.tdiv (IntKind.u64.wrap ((IntKind.u64.wrap ((rd x5_2 (ji21)) + (IntKind.u64.wrap ((rd l0_0 x6_1) * t646)))) + x7_2)) 4294967296)), (wrap64 (x8_2 + 1)), (by first | rfl | (simp; done) | (simp only [← hji21] <;> (first | rfl | simp)) | (simp [*]; done)), sm_, H', ⟨by have := HK1.out; have := HK2.out; omega⟩, ⟨by (with_reducible repeat (first | apply Kd.R_alloc | apply Kd.R_drewN | apply Kd.R_drew)); exact HO_5.out⟩, ⟨bk_ BK635.out⟩, ⟨bk_ BK636.out⟩, ⟨bk_ BK637.out⟩, ⟨hb3_ HB.out GE635.out GE636.out GE637.out⟩⟩
            ·rw [if_neg c25] at H
             exact absurd H (by simp)
           ·rw [if_neg c24] at H
            exact absurd H (by simp)
          ·rw [if_neg c23] at H
           exact absurd H (by simp)
         ·rw [if_neg c22] at H
          exact absurd H (by simp)
        ·rw [if_neg c20] at H
         have c20b0 : decide (x8_2 < (l1_0.length : Int)) = false := decide_eq_false c20
         clear c20
         by_cases c36 : x7_2 > 0
         ·rw [if_pos c36] at H
          have c36b0 : decide (0 < x7_2) = true := decide_eq_true c36
          clear c36
          obtain ⟨ji37, hji37⟩ : ∃ j_ : Int, (wrap64 (x6_1 + x8_2)) = j_ := ⟨_, rfl⟩
          replace H : (if 0 ≤ (ji37) then (if (ji37) < (x5_2.length : Int) then (if 0 ≤ x6_1 then (if x6_1 < (l0_0.length : Int) then ((r1_at.f l1_0 x8_2).bind fun t650 => (r1_Mul.l1 k2 (x5_2.set ((ji37) : Int).toNat (Int.tmod (IntKind.u64.wrap ((IntKind.u64.wrap ((rd x5_2 (ji37)) + (IntKind.u64.wrap ((rd l0_0 x6_1) * t650)))) + x7_2)) 4294967296)) x6_1 (IntKind.u64.wrap (Int.tdiv (IntKind.u64.wrap ((IntKind.u64.wrap ((rd x5_2 (ji37)) + (IntKind.u64.wrap ((rd l0_0 x6_1) * t650)))) + x7_2)) 4294967296)) (wrap64 (x8_2 + 1)) l0_0 l1_0)) else (none)) else (none)) else (none)) else (none)) = some r := by first | (rw [hji37] at H; exact H) | (simp only [hji37] at H ⊢; exact H)
          have hji37w : (IntKind.i64.wrap (x6_1 + x8_2)) = ji37 := (i64_w _).trans hji37
          by_cases c38 : 0 ≤ (ji37)
          ·rw [if_pos c38] at H
           have c38b0 : decide (0 ≤ (ji37)) = true := decide_eq_true c38
           clear c38
           by_cases c39 : (ji37) < (x5_2.length : Int)
           ·rw [if_pos c39] at H
            have c39b0 : decide ((ji37) < (x5_2.length : Int)) = true := decide_eq_true c39
            clear c39
            by_cases c40 : 0 ≤ x6_1
            ·rw [if_pos c40] at H
             have c40b0 : decide (0 ≤ x6_1) = true := decide_eq_true c40
             clear c40
             by_cases c41 : x6_1 < (l0_0.length : Int)
             ·rw [if_pos c41] at H
              have c41b0 : decide (x6_1 < (l0_0.length : Int)) = true := decide_eq_true c41
              clear c41
              replace H := ob_ H
              obtain ⟨t650, A420, H⟩ := H
              replace H : (r1_Mul.l1 k2 (x5_2.set ((ji37) : Int).toNat (Int.tmod (IntKind.u64.wrap ((IntKind.u64.wrap ((rd x5_2 (ji37)) + (IntKind.u64.wrap ((rd l0_0 x6_1) * t650)))) + x7_2)) 4294967296)) x6_1 (IntKind.u64.wrap (Int.tdiv (IntKind.u64.wrap ((IntKind.u64.wrap ((rd x5_2 (ji37)) + (IntKind.u64.wrap ((rd l0_0 x6_1) * t650)))) + x7_2)) 4294967296)) (wrap64 (x8_2 + 1)) l0_0 l1_0) = some r := H
              have A42 := A_ A420;clear A420
              obtain ⟨y651, hy651⟩ : ∃ y_ : List Int, y_ = (x5_2.set ((ji37) : Int).toNat (Int.tmod (IntKind.u64.wrap ((IntKind.u64.wrap ((rd x5_2 (ji37)) + (IntKind.u64.wrap ((rd l0_0 x6_1) * t650)))) + x7_2)) 4294967296)) := ⟨_, rfl⟩
              replace H : (r1_Mul.l1 k2 y651 x6_1 (IntKind.u64.wrap (Int.tdiv (IntKind.u64.wrap ((IntKind.u64.wrap ((rd x5_2 (ji37)) + (IntKind.u64.wrap ((rd l0_0 x6_1) * t650)))) + x7_2)) 4294967296)) (wrap64 (x8_2 + 1)) l0_0 l1_0) = some r := by first | (rw [hy651]; with_reducible exact H) | (have H2_ := (Option.bind_some _ _).symm.trans H; rw [hy651]; with_reducible exact H2_) | (have H2_ := (Option.bind_some _ _).symm.trans H; with_reducible exact H2_) | with_reducible exact H | (rw [hy651]; exact H) | exact H
              have Ny651 := A_ hy651;clear hy651
              have H' := A_ H
              clear H
              have hnb44 := NB636_635.out
              have hnc44 := NB635_636.out
              have hnb45 := NB636_637.out
              have hnc45 := NB637_636.out
              have hcz46_0 := bv_ BK636.out 0
              have hfz46_0 := blk_frozen BK636.out 0
              obtain ⟨Ao47, co47, eo47⟩ := Kd.R_slice HO_5.out
              subst eo47
              have p648 : 0 ≤ ((ji37) : Int) := of_decide_eq_true (by first | (with_reducible assumption) | assumption)
              have q648 : (ji37) < (x5_2.length : Int) := of_decide_eq_true (by first | (with_reducible assumption) | assumption)
              obtain ⟨ad648, e648, hx648_0⟩ := Kd.at_int (Kd.R_reads' HO_5.out).2.2 (ji37) p648 q648
              cases e648
              replace p648 := eq_true p648
              replace q648 := eq_true q648
              have hnb48 := NB635_637.out
              have hnc48 := NB637_635.out
              have hcz49_0 := bv_ BK635.out 0
              have hfz49_0 := blk_frozen BK635.out 0
              have p649 : 0 ≤ (x6_1 : Int) := of_decide_eq_true (by first | (with_reducible assumption) | assumption)
              have q649 : x6_1 < (l0_0.length : Int) := of_decide_eq_true (by first | (with_reducible assumption) | assumption)
              obtain ⟨ad649, e649, hx649_0⟩ := Kd.at_int HR0_0.out x6_1 p649 q649
              cases e649
              replace hx649_0 := (HB.out.cell (World.block_lt_of_cell? w _ hx649_0)).trans hx649_0
              replace p649 := eq_true p649
              replace q649 := eq_true q649
              go_wp2_with (first | (go_at_call 39; (with_reducible refine (r1_at.calls _ _ l1_0 x8_2 t650 _ ?side1 ?side2 A42.out).mono ?_); (case side1 => exact cs_ ((Kd.C_below HR1_0.out HB.out))); (case side2 => exact HC1_0.out); rintro e w' ⟨rfl, ⟨nd, rfl⟩⟩; (try first | exact ⟨rfl, _, World.drewN_drewN _ _ _⟩ | exact ⟨rfl, _, Eq.trans (World.drewN_drewN _ _ _) (congrArg (World.drewN _) (Nat.add_assoc _ _ _))⟩); have p43 : 0 ≤ ((ji37) : Int) := of_decide_eq_true (by first | (with_reducible assumption) | assumption); have q43 : ((ji37) : Int) < ((x5_2.length : Int) : Int) := of_decide_eq_true (by first | (with_reducible assumption) | assumption); obtain ⟨go43, co43, eo43, gb43, gl43, cl43, HG43⟩ := Kd.R_form HO_5.out (by omega); (first | cases eo43 | (injection eo43 with ea_ en_ ec_; (first | subst ea_ | (injection ea_ with ea_; subst ea_)); subst ec_; clear en_)); have GB43 := A_ gb43; have GG43 := A_ HG43; clear gb43 gl43 HG43; (first | simp only [add_plain] at hx648_0 | skip); obtain ⟨hx43_0, hf43_0⟩ := Kd.R_celln 0 HO_5.out ((ji37) : Int) p43 q43; replace p43 := eq_true p43; replace q43 := eq_true q43; obtain ⟨hy50_, hz50_⟩ := Kd.R_celln 0 HO_5.out ((ji37) : Int) (of_decide_eq_true (by first | (with_reducible assumption) | assumption)) (of_decide_eq_true (by first | (with_reducible assumption) | assumption)); have HP50 := Kd.R_putg HO_5.out ((ji37) : Int) (Int.tmod (IntKind.u64.wrap ((IntKind.u64.wrap ((rd x5_2 (ji37)) + (IntKind.u64.wrap ((rd l0_0 x6_1) * t650)))) + x7_2)) 4294967296)) | ((with_reducible refine gate_store (t := 22) (p := 62) rfl ?_); (try (rw [drewN_self wr]; generalize hq_ : World.drewN wr _ = wr; have n0_ := A_ (Kd.R_at hq_ HO_5.out); have n1_ := A_ (blk_at hq_ BK635.out); have n2_ := A_ (blk_at hq_ BK636.out); have n3_ := A_ (blk_at hq_ BK637.out); have n4_ := A_ (below_at hq_ HB.out); clear hq_ HO_5 BK635 BK636 BK637 HB; have HO_5 := n0_; have BK635 := n1_; have BK636 := n2_; have BK637 := n3_; have HB := n4_; clear n0_ n1_ n2_ n3_ n4_; (try (obtain ⟨hy50_, hz50_⟩ := Kd.R_celln 0 HO_5.out ((ji37) : Int) (of_decide_eq_true (by first | (with_reducible assumption) | assumption)) (of_decide_eq_true (by first | (with_reducible assumption) | assumption)))); (try (have HP50 := Kd.R_putg HO_5.out ((ji37) : Int) (Int.tmod (IntKind.u64.wrap ((IntKind.u64.wrap ((rd x5_2 (ji37)) + (IntKind.u64.wrap ((rd l0_0 x6_1) * t650)))) + x7_2)) 4294967296))))); refine store_event (t := 22) (p := 62) (v := ?vo_w51) (w1 := (wr.setCell ⟨go43, ((ji37) : Int).toNat, none⟩ (.int .u64 (Int.tmod (IntKind.u64.wrap ((IntKind.u64.wrap ((rd x5_2 (ji37)) + (IntKind.u64.wrap ((rd l0_0 x6_1) * t650)))) + x7_2)) 4294967296)))) ?hg ?ho ?hn ?hr ?_; (case ho => rfl); (case hg => rfl); (case hn => rfl); (case hr => first | (go_simp; done) | (go_simp; rfl)); intro w51 hw; have hg : wr.grownBy w51 (some go43) := (by rw [hw]; exact HP50.2); have hp_ : Kd.R (Kd.int .u64) 22 w51 w.heap.size (fun _ => True) (.slice (some ⟨go43, 0, none⟩) x5_2.length co47) y651 := (by rw [hw, Ny651.out]; exact HP50.1); clear HP50; replace BK635 := A_ (blk_grown (g := gb635) (o := .cells #[.slice (some ad649) l0_0.length c0_0] 31 (0, 0)) (bk_ BK635.out) hg (Kd.R_ne HO_5.out BK635.out (by decide))); replace BK636 := A_ (blk_grown (g := gb636) (o := .cells #[.slice A1_0 l1_0.length c1_0] 31 (0, 0)) (bk_ BK636.out) hg (Kd.R_ne HO_5.out BK636.out (by decide))); replace BK637 := A_ (blk_grown (g := gb637) (o := .cells #[.slice none 0 0] 31 (0, 0)) (bk_ BK637.out) hg (Kd.R_ne HO_5.out BK637.out (by decide))); replace HO_5 := A_ (hp_); replace HB := A_ ((by rw [hw]; exact below_set (HB.out) GB43.out : Below w.heap.size w w51)); clear hg hw hp_))
              repeat (go_quiet (first | (go_at_call 39; (with_reducible refine (r1_at.calls _ _ l1_0 x8_2 t650 _ ?side1 ?side2 A42.out).mono ?_); (case side1 => exact cs_ ((Kd.C_below HR1_0.out HB.out))); (case side2 => exact HC1_0.out); rintro e w' ⟨rfl, ⟨nd, rfl⟩⟩; (try first | exact ⟨rfl, _, World.drewN_drewN _ _ _⟩ | exact ⟨rfl, _, Eq.trans (World.drewN_drewN _ _ _) (congrArg (World.drewN _) (Nat.add_assoc _ _ _))⟩); have p43 : 0 ≤ ((ji37) : Int) := of_decide_eq_true (by first | (with_reducible assumption) | assumption); have q43 : ((ji37) : Int) < ((x5_2.length : Int) : Int) := of_decide_eq_true (by first | (with_reducible assumption) | assumption); obtain ⟨go43, co43, eo43, gb43, gl43, cl43, HG43⟩ := Kd.R_form HO_5.out (by omega); (first | cases eo43 | (injection eo43 with ea_ en_ ec_; (first | subst ea_ | (injection ea_ with ea_; subst ea_)); subst ec_; clear en_)); have GB43 := A_ gb43; have GG43 := A_ HG43; clear gb43 gl43 HG43; (first | simp only [add_plain] at hx648_0 | skip); obtain ⟨hx43_0, hf43_0⟩ := Kd.R_celln 0 HO_5.out ((ji37) : Int) p43 q43; replace p43 := eq_true p43; replace q43 := eq_true q43; obtain ⟨hy50_, hz50_⟩ := Kd.R_celln 0 HO_5.out ((ji37) : Int) (of_decide_eq_true (by first | (with_reducible assumption) | assumption)) (of_decide_eq_true (by first | (with_reducible assumption) | assumption)); have HP50 := Kd.R_putg HO_5.out ((ji37) : Int) (Int.tmod (IntKind.u64.wrap ((IntKind.u64.wrap ((rd x5_2 (ji37)) + (IntKind.u64.wrap ((rd l0_0 x6_1) * t650)))) + x7_2)) 4294967296)) | ((with_reducible refine gate_store (t := 22) (p := 62) rfl ?_); (try (rw [drewN_self wr]; generalize hq_ : World.drewN wr _ = wr; have n0_ := A_ (Kd.R_at hq_ HO_5.out); have n1_ := A_ (blk_at hq_ BK635.out); have n2_ := A_ (blk_at hq_ BK636.out); have n3_ := A_ (blk_at hq_ BK637.out); have n4_ := A_ (below_at hq_ HB.out); clear hq_ HO_5 BK635 BK636 BK637 HB; have HO_5 := n0_; have BK635 := n1_; have BK636 := n2_; have BK637 := n3_; have HB := n4_; clear n0_ n1_ n2_ n3_ n4_; (try (obtain ⟨hy50_, hz50_⟩ := Kd.R_celln 0 HO_5.out ((ji37) : Int) (of_decide_eq_true (by first | (with_reducible assumption) | assumption)) (of_decide_eq_true (by first | (with_reducible assumption) | assumption)))); (try (have HP50 := Kd.R_putg HO_5.out ((ji37) : Int) (Int.tmod (IntKind.u64.wrap ((IntKind.u64.wrap ((rd x5_2 (ji37)) + (IntKind.u64.wrap ((rd l0_0 x6_1) * t650)))) + x7_2)) 4294967296))))); refine store_event (t := 22) (p := 62) (v := ?vo_w51) (w1 := (wr.setCell ⟨go43, ((ji37) : Int).toNat, none⟩ (.int .u64 (Int.tmod (IntKind.u64.wrap ((IntKind.u64.wrap ((rd x5_2 (ji37)) + (IntKind.u64.wrap ((rd l0_0 x6_1) * t650)))) + x7_2)) 4294967296)))) ?hg ?ho ?hn ?hr ?_; (case ho => rfl); (case hg => rfl); (case hn => rfl); (case hr => first | (go_simp; done) | (go_simp; rfl)); intro w51 hw; have hg : wr.grownBy w51 (some go43) := (by rw [hw]; exact HP50.2); have hp_ : Kd.R (Kd.int .u64) 22 w51 w.heap.size (fun _ => True) (.slice (some ⟨go43, 0, none⟩) x5_2.length co47) y651 := (by rw [hw, Ny651.out]; exact HP50.1); clear HP50; replace BK635 := A_ (blk_grown (g := gb635) (o := .cells #[.slice (some ad649) l0_0.length c0_0] 31 (0, 0)) (bk_ BK635.out) hg (Kd.R_ne HO_5.out BK635.out (by decide))); replace BK636 := A_ (blk_grown (g := gb636) (o := .cells #[.slice A1_0 l1_0.length c1_0] 31 (0, 0)) (bk_ BK636.out) hg (Kd.R_ne HO_5.out BK636.out (by decide))); replace BK637 := A_ (blk_grown (g := gb637) (o := .cells #[.slice none 0 0] 31 (0, 0)) (bk_ BK637.out) hg (Kd.R_ne HO_5.out BK637.out (by decide))); replace HO_5 := A_ (hp_); replace HB := A_ ((by rw [hw]; exact below_set (HB.out) GB43.out : Below w.heap.size w w51)); clear hg hw hp_)); try go_wp2_with (first | (go_at_call 39; (with_reducible refine (r1_at.calls _ _ l1_0 x8_2 t650 _ ?side1 ?side2 A42.out).mono ?_); (case side1 => exact cs_ ((Kd.C_below HR1_0.out HB.out))); (case side2 => exact HC1_0.out); rintro e w' ⟨rfl, ⟨nd, rfl⟩⟩; (try first | exact ⟨rfl, _, World.drewN_drewN _ _ _⟩ | exact ⟨rfl, _, Eq.trans (World.drewN_drewN _ _ _) (congrArg (World.drewN _) (Nat.add_assoc _ _ _))⟩); have p43 : 0 ≤ ((ji37) : Int) := of_decide_eq_true (by first | (with_reducible assumption) | assumption); have q43 : ((ji37) : Int) < ((x5_2.length : Int) : Int) := of_decide_eq_true (by first | (with_reducible assumption) | assumption); obtain ⟨go43, co43, eo43, gb43, gl43, cl43, HG43⟩ := Kd.R_form HO_5.out (by omega); (first | cases eo43 | (injection eo43 with ea_ en_ ec_; (first | subst ea_ | (injection ea_ with ea_; subst ea_)); subst ec_; clear en_)); have GB43 := A_ gb43; have GG43 := A_ HG43; clear gb43 gl43 HG43; (first | simp only [add_plain] at hx648_0 | skip); obtain ⟨hx43_0, hf43_0⟩ := Kd.R_celln 0 HO_5.out ((ji37) : Int) p43 q43; replace p43 := eq_true p43; replace q43 := eq_true q43; obtain ⟨hy50_, hz50_⟩ := Kd.R_celln 0 HO_5.out ((ji37) : Int) (of_decide_eq_true (by first | (with_reducible assumption) | assumption)) (of_decide_eq_true (by first | (with_reducible assumption) | assumption)); have HP50 := Kd.R_putg HO_5.out ((ji37) : Int) (Int.tmod (IntKind.u64.wrap ((IntKind.u64.wrap ((rd x5_2 (ji37)) + (IntKind.u64.wrap ((rd l0_0 x6_1) * t650)))) + x7_2)) 4294967296)) | ((with_reducible refine gate_store (t := 22) (p := 62) rfl ?_); (try (rw [drewN_self wr]; generalize hq_ : World.drewN wr _ = wr; have n0_ := A_ (Kd.R_at hq_ HO_5.out); have n1_ := A_ (blk_at hq_ BK635.out); have n2_ := A_ (blk_at hq_ BK636.out); have n3_ := A_ (blk_at hq_ BK637.out); have n4_ := A_ (below_at hq_ HB.out); clear hq_ HO_5 BK635 BK636 BK637 HB; have HO_5 := n0_; have BK635 := n1_; have BK636 := n2_; have BK637 := n3_; have HB := n4_; clear n0_ n1_ n2_ n3_ n4_; (try (obtain ⟨hy50_, hz50_⟩ := Kd.R_celln 0 HO_5.out ((ji37) : Int) (of_decide_eq_true (by first | (with_reducible assumption) | assumption)) (of_decide_eq_true (by first | (with_reducible assumption) | assumption)))); (try (have HP50 := Kd.R_putg HO_5.out ((ji37) : Int) (Int.tmod (IntKind.u64.wrap ((IntKind.u64.wrap ((rd x5_2 (ji37)) + (IntKind.u64.wrap ((rd l0_0 x6_1) * t650)))) + x7_2)) 4294967296))))); refine store_event (t := 22) (p := 62) (v := ?vo_w51) (w1 := (wr.setCell ⟨go43, ((ji37) : Int).toNat, none⟩ (.int .u64 (Int.tmod (IntKind.u64.wrap ((IntKind.u64.wrap ((rd x5_2 (ji37)) + (IntKind.u64.wrap ((rd l0_0 x6_1) * t650)))) + x7_2)) 4294967296)))) ?hg ?ho ?hn ?hr ?_; (case ho => rfl); (case hg => rfl); (case hn => rfl); (case hr => first | (go_simp; done) | (go_simp; rfl)); intro w51 hw; have hg : wr.grownBy w51 (some go43) := (by rw [hw]; exact HP50.2); have hp_ : Kd.R (Kd.int .u64) 22 w51 w.heap.size (fun _ => True) (.slice (some ⟨go43, 0, none⟩) x5_2.length co47) y651 := (by rw [hw, Ny651.out]; exact HP50.1); clear HP50; replace BK635 := A_ (blk_grown (g := gb635) (o := .cells #[.slice (some ad649) l0_0.length c0_0] 31 (0, 0)) (bk_ BK635.out) hg (Kd.R_ne HO_5.out BK635.out (by decide))); replace BK636 := A_ (blk_grown (g := gb636) (o := .cells #[.slice A1_0 l1_0.length c1_0] 31 (0, 0)) (bk_ BK636.out) hg (Kd.R_ne HO_5.out BK636.out (by decide))); replace BK637 := A_ (blk_grown (g := gb637) (o := .cells #[.slice none 0 0] 31 (0, 0)) (bk_ BK637.out) hg (Kd.R_ne HO_5.out BK637.out (by decide))); replace HO_5 := A_ (hp_); replace HB := A_ ((by rw [hw]; exact below_set (HB.out) GB43.out : Below w.heap.size w w51)); clear hg hw hp_)))
              go_roundg k2
              case measure => have := HK1.out; have := HK2.out; omega
              case rel => exact ⟨(y651), (IntKind.u64.wrap (Int.tdiv (IntKind.u64.wrap ((IntKind.u64.wrap ((rd x5_2 (ji37)) + (IntKind.u64.wrap ((rd l0_0 x6_1) * t650)))) + x7_2)) 4294967296)), (wrap64 (x8_2 + 1)), (by first | rfl | (simp; done) | (simp only [← hji37] <;> (first | rfl | simp)) | (simp [*]; done)), sm_, H', ⟨by have := HK1.out; have := HK2.out; omega⟩, ⟨by (with_reducible repeat (first | apply Kd.R_alloc | apply Kd.R_drewN | apply Kd.R_drew)); exact HO_5.out⟩, ⟨bk_ BK635.out⟩, ⟨bk_ BK636.out⟩, ⟨bk_ BK637.out⟩, ⟨hb3_ HB.out GE635.out GE636.out GE637.out⟩⟩
             ·rw [if_neg c41] at H
              exact absurd H (by simp)
            ·rw [if_neg c40] at H
             exact absurd H (by simp)
           ·rw [if_neg c39] at H
            exact absurd H (by simp)
          ·rw [if_neg c38] at H
           exact absurd H (by simp)
         ·rw [if_neg c36] at H
          have c36b0 : decide (0 < x7_2) = false := decide_eq_false c36
          clear c36
          have H' := A_ H
          clear H
          have hnb52 := NB636_635.out
          have hnc52 := NB635_636.out
          have hnb53 := NB636_637.out
          have hnc53 := NB637_636.out
          have hcz54_0 := bv_ BK636.out 0
          have hfz54_0 := blk_frozen BK636.out 0
          go_wp2
          repeat (go_quiet (fail); try go_wp2)
          go_roundg k2
          case measure => have := HK1.out; have := HK2.out; omega
          case rel => exact ⟨(x5_2), (wrap64 (x6_1 + 1)), sm_, H', ⟨by have := HK1.out; have := HK2.out; omega⟩, ⟨by (with_reducible repeat (first | apply Kd.R_alloc | apply Kd.R_drewN | apply Kd.R_drew)); exact HO_5.out⟩, ⟨bk_ BK635.out⟩, ⟨bk_ BK636.out⟩, ⟨bk_ BK637.out⟩, ⟨hb3_ HB.out GE635.out GE636.out GE637.out⟩⟩
     ·rw [if_neg c16] at H
      have c16b0 : decide (x6_1 < (l0_0.length : Int)) = false := decide_eq_false c16
      clear c16
      replace H := ob_ H
      obtain ⟨t641, A550, H⟩ := H
      replace H : (some t641) = some r := H
      have A55 := A_ A550;clear A550
      obtain rfl := Option.some.inj H
      have hnb56 := NB635_636.out
      have hnc56 := NB636_635.out
      have hnb57 := NB635_637.out
      have hnc57 := NB637_635.out
      have hcz58_0 := bv_ BK635.out 0
      have hfz58_0 := blk_frozen BK635.out 0
      obtain ⟨Ao59, co59, eo59⟩ := Kd.R_slice HO_5.out
      subst eo59
      go_wp2_with (first | (go_at_call 40; (with_reducible refine (r1_trim.calls k1 (fun k_ => some k_ = (.slice Ao59 x5_1.length co59 : Value).ownBlock) (.slice Ao59 x5_1.length co59) x5_1 t641 w _ ?side1 ?side2 A55.out).mono ?_); (case side1 => exact hb3_ HB.out GE635.out GE636.out GE637.out); (case side2 => exact Kd.R_tight rfl HO_5.out); rintro e w60 ⟨v642, rfl, ho0, hb, hkp⟩; have n0_ := A_ (blk_kept (bk_ BK635.out) hkp (fun hs_ => (fun e_ => (Kd.R_ne HO_5.out BK635.out (by decide)) e_) hs_)); have n1_ := A_ (blk_kept (bk_ BK636.out) hkp (fun hs_ => (fun e_ => (Kd.R_ne HO_5.out BK636.out (by decide)) e_) hs_)); have n2_ := A_ (blk_kept (bk_ BK637.out) hkp (fun hs_ => (fun e_ => (Kd.R_ne HO_5.out BK637.out (by decide)) e_) hs_)); have n3_ := A_ (Kd.R_mono (ok' := fun k_ => True) ho0 (fun k_ hk_ => trivial)); have n4_ := A_ (hb); clear BK635; clear BK636; clear BK637; clear HB; clear HO_5; have BK635 := n0_; have BK636 := n1_; have BK637 := n2_; have HO643 := n3_; have HB := n4_; clear n0_ n1_ n2_ n3_ n4_; (try clear hb); (try clear hkp); (try clear ho0); obtain ⟨Ao61, co61, eo61⟩ := Kd.R_slice HO643.out; subst eo61; have hnb62 := NB637_636.out; have hnc62 := NB636_637.out; have hcz63_0 := bv_ BK637.out 0; have hfz63_0 := blk_frozen BK637.out 0))
      repeat (go_quiet (first | (go_at_call 40; (with_reducible refine (r1_trim.calls k1 (fun k_ => some k_ = (.slice Ao59 x5_1.length co59 : Value).ownBlock) (.slice Ao59 x5_1.length co59) x5_1 t641 w _ ?side1 ?side2 A55.out).mono ?_); (case side1 => exact hb3_ HB.out GE635.out GE636.out GE637.out); (case side2 => exact Kd.R_tight rfl HO_5.out); rintro e w60 ⟨v642, rfl, ho0, hb, hkp⟩; have n0_ := A_ (blk_kept (bk_ BK635.out) hkp (fun hs_ => (fun e_ => (Kd.R_ne HO_5.out BK635.out (by decide)) e_) hs_)); have n1_ := A_ (blk_kept (bk_ BK636.out) hkp (fun hs_ => (fun e_ => (Kd.R_ne HO_5.out BK636.out (by decide)) e_) hs_)); have n2_ := A_ (blk_kept (bk_ BK637.out) hkp (fun hs_ => (fun e_ => (Kd.R_ne HO_5.out BK637.out (by decide)) e_) hs_)); have n3_ := A_ (Kd.R_mono (ok' := fun k_ => True) ho0 (fun k_ hk_ => trivial)); have n4_ := A_ (hb); clear BK635; clear BK636; clear BK637; clear HB; clear HO_5; have BK635 := n0_; have BK636 := n1_; have BK637 := n2_; have HO643 := n3_; have HB := n4_; clear n0_ n1_ n2_ n3_ n4_; (try clear hb); (try clear hkp); (try clear ho0); obtain ⟨Ao61, co61, eo61⟩ := Kd.R_slice HO643.out; subst eo61; have hnb62 := NB637_636.out; have hnc62 := NB636_637.out; have hcz63_0 := bv_ BK637.out 0; have hfz63_0 := blk_frozen BK637.out 0)); try go_wp2_with (first | (go_at_call 40; (with_reducible refine (r1_trim.calls k1 (fun k_ => some k_ = (.slice Ao59 x5_1.length co59 : Value).ownBlock) (.slice Ao59 x5_1.length co59) x5_1 t641 w _ ?side1 ?side2 A55.out).mono ?_); (case side1 => exact hb3_ HB.out GE635.out GE636.out GE637.out); (case side2 => exact Kd.R_tight rfl HO_5.out); rintro e w60 ⟨v642, rfl, ho0, hb, hkp⟩; have n0_ := A_ (blk_kept (bk_ BK635.out) hkp (fun hs_ => (fun e_ => (Kd.R_ne HO_5.out BK635.out (by decide)) e_) hs_)); have n1_ := A_ (blk_kept (bk_ BK636.out) hkp (fun hs_ => (fun e_ => (Kd.R_ne HO_5.out BK636.out (by decide)) e_) hs_)); have n2_ := A_ (blk_kept (bk_ BK637.out) hkp (fun hs_ => (fun e_ => (Kd.R_ne HO_5.out BK637.out (by decide)) e_) hs_)); have n3_ := A_ (Kd.R_mono (ok' := fun k_ => True) ho0 (fun k_ hk_ => trivial)); have n4_ := A_ (hb); clear BK635; clear BK636; clear BK637; clear HB; clear HO_5; have BK635 := n0_; have BK636 := n1_; have BK637 := n2_; have HO643 := n3_; have HB := n4_; clear n0_ n1_ n2_ n3_ n4_; (try clear hb); (try clear hkp); (try clear ho0); obtain ⟨Ao61, co61, eo61⟩ := Kd.R_slice HO643.out; subst eo61; have hnb62 := NB637_636.out; have hnc62 := NB636_637.out; have hcz63_0 := bv_ BK637.out 0; have hfz63_0 := blk_frozen BK637.out 0)))
      refine bodyPost_ret (results_cell_row rfl _ _ gb637 31 #[.slice Ao61 t641.length co61] (0, 0) _ rfl (by (with_reducible repeat (first | refine blk_drewN ?_ _ | refine blk_drew ?_ | refine blk_alloc ?_ _)); refine blk_put (cs := #[.slice none 0 0]) ?_ 0 _ rfl; (with_reducible repeat (first | refine blk_drewN ?_ _ | refine blk_drew ?_ | refine blk_alloc ?_ _)); exact BK637.out) Tryz.underlying31 rfl (by kernel_rfl)) rfl ?_
      exact ⟨_, by first | rfl | (simp [errW_none, errW_some] <;> rfl) | (simp only [← hji3]; first | rfl | (simp [errW_none, errW_some] <;> rfl)) | (simp [*, errW_none, errW_some] <;> rfl), by (with_reducible repeat (first | apply Kd.R_alloc | apply Kd.R_drewN | apply Kd.R_drew)); exact Kd.R_mono (Kd.R_far (p := ⟨gb637, 0, none⟩) (Kd.R_types HO643.out BK637.out (by decide)) (fun _ hk => hk.2) (.slice Ao61 t641.length co61)) (fun _ hk => trivial), hb3_ HB.out GE635.out GE636.out GE637.out⟩
  ·rw [if_neg c5] at H
   exact absurd H (by simp)
 ·rw [if_neg c4] at H
  exact absurd H (by simp)
end Go.Proofs.YtnmlmgmljoncoaaGreatDoor.PA
