/- What the Go functions that the statement WholeHalf reaches compute, and the mathematics on it, in the order in which one leans on the other; for every input. -/
import Derived.Test.YthdeeoallfbjmaaVWholeHalf1
import Derived.Test.YthdeeoallfbjmaaMWholeHalf0
import Derived.Test.YthdeeoallfbjmaaMWholeHalf4
import Derived.Test.YthdeeoallfbjmaaMWholeHalf3
import Derived.Test.YthdeeoallfbjmaaMWholeHalf2
import Derived.Test.YthdeeoallfbjmaaMWholeHalf1
namespace Go.Proofs.Ythdeeoallfbjmaa.PA
open Go.RowKit Go.Proofs.YthdeeoallfbjmaaW.PrintWords Go.Proofs.YthdeeoallfbjmaaW.PrintLast Go.Proofs.YthdeeoallfbjmaaW.PrintMore
attribute [local go_sem] max2_int min2_int max_two min_two max_three min_three max_four min_four   -- for this text's walks alone
set_option linter.unusedVariables false
set_option linter.unusedSimpArgs false
set_option maxHeartbeats 8000000
set_option maxRecDepth 100000
def r1_Cmp.l0 : Nat → Int → List Int → List Int → Option (Int)
 | 0, _, _, _ => none
 | k + 1, x5, x282000, x283000 => if x5 ≥ 0 then ((r1_at.f x282000 x5).bind fun t283 => ((r1_at.f x283000 x5).bind fun t284 => (if t283 < t284 then (some (-1)) else (if t283 > t284 then (some 1) else (r1_Cmp.l0 k (wrap64 (x5 - 1)) x282000 x283000))))) else (some 0)
def r1_Cmp.f (k : Nat) (l0_0 : List Int) (l1_0 : List Int) : Option (Int) := r1_Cmp.l0 k (wrap64 ((mx (l0_0.length : Int) (l1_0.length : Int)) - 1)) l0_0 l1_0
theorem r1_Cmp.mono_l : ∀ k, (∀ y0 y1 y2, LeO (r1_Cmp.l0 k y0 y1 y2) (r1_Cmp.l0 (k + 1) y0 y1 y2))
 | 0 => fun _ _ _ r h => by simp [r1_Cmp.l0] at h
 | k + 1 => by
  have ih0 := r1_Cmp.mono_l k
  ·intro y0 y1 y2
   unfold r1_Cmp.l0
   repeat' first
   | (with_reducible exact ih0 _ _ _)
   | (with_reducible exact LeO.refl _)
   | (with_reducible exact LeO.none _)
   | (with_reducible refine LeO.ite ?_ ?_)
   | (with_reducible refine LeO.bind ?_ (fun _ => ?_))
   | exact ih0 _ _ _
   | exact LeO.none _
   | refine LeO.ite ?_ ?_
   | refine LeO.bind ?_ (fun _ => ?_)
theorem r1_Cmp.mono : ∀ a0 a1 k, LeO (r1_Cmp.f k a0 a1) (r1_Cmp.f (k + 1) a0 a1) := by
 intro a0 a1 k
 have ih0 := r1_Cmp.mono_l k
 unfold r1_Cmp.f
 repeat' first
   | (with_reducible exact ih0 _ _ _)
   | (with_reducible exact LeO.refl _)
   | (with_reducible exact LeO.none _)
   | (with_reducible refine LeO.ite ?_ ?_)
   | (with_reducible refine LeO.bind ?_ (fun _ => ?_))
   | exact ih0 _ _ _
   | exact LeO.none _
   | refine LeO.ite ?_ ?_
   | refine LeO.bind ?_ (fun _ => ?_)
theorem r1_Cmp.calls (k : Nat) (A0_0 : Option Addr) (c0_0 : Nat) (l0_0 : List Int) (A1_0 : Option Addr) (c1_0 : Nat) (l1_0 : List Int) (r : Int) (w : World) (hr0_0 : Kd.C (Kd.int .u64) w A0_0 l0_0.length l0_0) (hc0_0 : l0_0.length ≤ c0_0) (hr1_0 : Kd.C (Kd.int .u64) w A1_0 l1_0.length l1_0) (hc1_0 : l1_0.length ≤ c1_0) (h : r1_Cmp.f k l0_0 l1_0 = some r) :
  Calls Try.prog 46 #[.agg #[.slice A0_0 l0_0.length c0_0], .agg #[.slice A1_0 l1_0.length c1_0]] w fun e w' => e = .returned (.int .i64 r) ∧ Below w.heap.size w w' := by
 have hu33 := Try.underlying33
 have HR0_0 := A_ hr0_0;have HC0_0 := A_ hc0_0;clear hr0_0 hc0_0;have HR1_0 := A_ hr1_0;have HC1_0 := A_ hc1_0;clear hr1_0 hc1_0
 have HB := A_ (Below.refl w.heap.size w)
 have H : (r1_Cmp.l0 k (wrap64 ((mx (l0_0.length : Int) (l1_0.length : Int)) - 1)) l0_0 l1_0) = some r := h
 clear h
 obtain ⟨ji3, hji3⟩ : ∃ j_ : Int, (mx (l0_0.length : Int) (l1_0.length : Int)) = j_ := ⟨_, rfl⟩
 replace H : (r1_Cmp.l0 k (wrap64 ((ji3) - 1)) l0_0 l1_0) = some r := by first | (rw [hji3] at H; exact H) | (simp only [hji3] at H ⊢; exact H)
 (try (have hji3l : 0 ≤ ji3 := by (rw [← hji3]; unfold mx; (repeat' split) <;> omega)))
 (try (have hji3m : 0 ≤ ji3 := by omega))
 have hji3_ : (if (l0_0.length : Int) < (l1_0.length : Int) then (l1_0.length : Int) else (l0_0.length : Int)) = ji3 := hji3
 have hji3n_ : (if l0_0.length < l1_0.length then (l1_0.length : Int) else (l0_0.length : Int)) = ji3 := by have h_ := hji3_; simpa only [Int.ofNat_lt] using h_
 have H' := A_ H
 clear H
 go_enter Try.func46, Try.ntmps46
 go_wp2_with (first | ((with_reducible refine gate_dst (N := 2) rfl ?_); refine be_ 2 #[.slice A0_0 l0_0.length c0_0] 33 ?_; intro gb281 hg w4 hbox hb; have BK281 := A_ (hbox); have GW281 := A_ (sz_ hg (hb_ HB.out)); have GE281 := A_ (sz_ hg (hb_ HB.out)); replace HB := A_ (below_step (hb_ HB.out) hb); clear hb hbox hg) | ((with_reducible refine gate_dst (N := 3) rfl ?_); refine be_ 3 #[.slice A1_0 l1_0.length c1_0] 33 ?_; intro gb282 hg w5 hbox hb; have BK282 := A_ (hbox); have GW282 := A_ (sz_ hg (hb1_ HB.out GE281.out)); have GE282 := A_ (sz_ hg (hb1_ HB.out GE281.out)); have NB281_282 := A_ (nl_ hg BK281.out); have NB282_281 := A_ (ng_ hg BK281.out); replace BK281 := A_ (bb_ BK281.out hb); replace HB := A_ (below_step (hb1_ HB.out GE281.out) hb); clear hb hbox hg; have hnb6 := NB281_282.out; have hnc6 := NB282_281.out; have hcz7_0 := bv_ BK281.out 0; have hfz7_0 := blk_frozen BK281.out 0; have hcz8_0 := bv_ BK282.out 0; have hfz8_0 := blk_frozen BK282.out 0))
 repeat (go_quiet (first | ((with_reducible refine gate_dst (N := 2) rfl ?_); refine be_ 2 #[.slice A0_0 l0_0.length c0_0] 33 ?_; intro gb281 hg w4 hbox hb; have BK281 := A_ (hbox); have GW281 := A_ (sz_ hg (hb_ HB.out)); have GE281 := A_ (sz_ hg (hb_ HB.out)); replace HB := A_ (below_step (hb_ HB.out) hb); clear hb hbox hg) | ((with_reducible refine gate_dst (N := 3) rfl ?_); refine be_ 3 #[.slice A1_0 l1_0.length c1_0] 33 ?_; intro gb282 hg w5 hbox hb; have BK282 := A_ (hbox); have GW282 := A_ (sz_ hg (hb1_ HB.out GE281.out)); have GE282 := A_ (sz_ hg (hb1_ HB.out GE281.out)); have NB281_282 := A_ (nl_ hg BK281.out); have NB282_281 := A_ (ng_ hg BK281.out); replace BK281 := A_ (bb_ BK281.out hb); replace HB := A_ (below_step (hb1_ HB.out GE281.out) hb); clear hb hbox hg; have hnb6 := NB281_282.out; have hnc6 := NB282_281.out; have hcz7_0 := bv_ BK281.out 0; have hfz7_0 := blk_frozen BK281.out 0; have hcz8_0 := bv_ BK282.out 0; have hfz8_0 := blk_frozen BK282.out 0)); try go_wp2_with (first | ((with_reducible refine gate_dst (N := 2) rfl ?_); refine be_ 2 #[.slice A0_0 l0_0.length c0_0] 33 ?_; intro gb281 hg w4 hbox hb; have BK281 := A_ (hbox); have GW281 := A_ (sz_ hg (hb_ HB.out)); have GE281 := A_ (sz_ hg (hb_ HB.out)); replace HB := A_ (below_step (hb_ HB.out) hb); clear hb hbox hg) | ((with_reducible refine gate_dst (N := 3) rfl ?_); refine be_ 3 #[.slice A1_0 l1_0.length c1_0] 33 ?_; intro gb282 hg w5 hbox hb; have BK282 := A_ (hbox); have GW282 := A_ (sz_ hg (hb1_ HB.out GE281.out)); have GE282 := A_ (sz_ hg (hb1_ HB.out GE281.out)); have NB281_282 := A_ (nl_ hg BK281.out); have NB282_281 := A_ (ng_ hg BK281.out); replace BK281 := A_ (bb_ BK281.out hb); replace HB := A_ (below_step (hb1_ HB.out GE281.out) hb); clear hb hbox hg; have hnb6 := NB281_282.out; have hnc6 := NB282_281.out; have hcz7_0 := bv_ BK281.out 0; have hfz7_0 := blk_frozen BK281.out 0; have hcz8_0 := bv_ BK282.out 0; have hfz8_0 := blk_frozen BK282.out 0)))
 go_loopg [5] k (fun kq v5 w' => ∃ (x5_1 : Int), v5 = .int .i64 x5_1 ∧ Aside0 (r1_Cmp.l0 kq x5_1 l0_0 l1_0 = some r) ∧ Aside0 (kq ≤ k) ∧ Aside0 (w'.heap[gb281]? = some (.cells #[(.slice A0_0 l0_0.length c0_0)] 33 (0, 0))) ∧ Aside0 (w'.heap[gb282]? = some (.cells #[(.slice A1_0 l1_0.length c1_0)] 33 (0, 0))) ∧ Aside0 (Below w.heap.size w w'))
 case atStart => exact ⟨(wrap64 ((ji3) - 1)), (by first | rfl | (simp; done) | (simp only [← hji3] <;> (first | rfl | simp)) | (simp [*]; done)), H', ⟨Nat.le_refl _⟩, ⟨bk_ BK281.out⟩, ⟨bk_ BK282.out⟩, ⟨hb2_ HB.out GE281.out GE282.out⟩⟩
 case round =>
  clear H'
  try clear c1
  try clear p2
  try clear c4
  try clear c6
  try clear p6
  try clear hcz7_0
  try clear hcz8_0
  try clear hfz7_0
  try clear hfz8_0
  obtain ⟨x5_1, rfl, HA, HK1, BK281, BK282, HB⟩ := hrel
  cases gk with
  | zero => exact absurd HA.out (by simp [r1_Cmp.l0])
  | succ k1 =>
   have H := HA.out
   clear HA
   simp only [r1_Cmp.l0] at H
   by_cases c9 : x5_1 ≥ 0
   ·rw [if_pos c9] at H
    have c9b0 : decide (0 ≤ x5_1) = true := decide_eq_true c9
    clear c9
    replace H := ob_ H
    obtain ⟨t283, A100, H⟩ := H
    replace H : ((r1_at.f l1_0 x5_1).bind fun t284 => (if t283 < t284 then (some (-1)) else (if t283 > t284 then (some 1) else (r1_Cmp.l0 k1 (wrap64 (x5_1 - 1)) l0_0 l1_0)))) = some r := H
    have A10 := A_ A100;clear A100
    replace H := ob_ H
    obtain ⟨t284, A110, H⟩ := H
    replace H : (if t283 < t284 then (some (-1)) else (if t283 > t284 then (some 1) else (r1_Cmp.l0 k1 (wrap64 (x5_1 - 1)) l0_0 l1_0))) = some r := H
    have A11 := A_ A110;clear A110
    by_cases c12 : t283 < t284
    ·rw [if_pos c12] at H
     have c12b0 : decide (t283 < t284) = true := decide_eq_true c12
     clear c12
     obtain rfl := Option.some.inj H
     have hnb13 := NB281_282.out
     have hnc13 := NB282_281.out
     have hcz14_0 := bv_ BK281.out 0
     have hfz14_0 := blk_frozen BK281.out 0
     go_wp2_with (first | (go_at_call 59; (with_reducible refine (r1_at.calls _ _ l0_0 x5_1 t283 _ ?side1 ?side2 A10.out).mono ?_); (case side1 => exact cs_ ((Kd.C_below HR0_0.out HB.out))); (case side2 => exact HC0_0.out); rintro e w' ⟨rfl, ⟨nd, rfl⟩⟩; (try first | exact ⟨rfl, _, World.drewN_drewN _ _ _⟩ | exact ⟨rfl, _, Eq.trans (World.drewN_drewN _ _ _) (congrArg (World.drewN _) (Nat.add_assoc _ _ _))⟩); have hcz15_0 := bv_ BK282.out 0; have hfz15_0 := blk_frozen BK282.out 0) | (go_at_call 59; (with_reducible refine (r1_at.calls _ _ l1_0 x5_1 t284 _ ?side1 ?side2 A11.out).mono ?_); (case side1 => exact cs_ ((Kd.C_below HR1_0.out (hb2_ HB.out GE281.out GE282.out)))); (case side2 => exact HC1_0.out); rintro e w' ⟨rfl, ⟨nd, rfl⟩⟩; (try first | exact ⟨rfl, _, World.drewN_drewN _ _ _⟩ | exact ⟨rfl, _, Eq.trans (World.drewN_drewN _ _ _) (congrArg (World.drewN _) (Nat.add_assoc _ _ _))⟩)))
     repeat (go_quiet (first | (go_at_call 59; (with_reducible refine (r1_at.calls _ _ l0_0 x5_1 t283 _ ?side1 ?side2 A10.out).mono ?_); (case side1 => exact cs_ ((Kd.C_below HR0_0.out HB.out))); (case side2 => exact HC0_0.out); rintro e w' ⟨rfl, ⟨nd, rfl⟩⟩; (try first | exact ⟨rfl, _, World.drewN_drewN _ _ _⟩ | exact ⟨rfl, _, Eq.trans (World.drewN_drewN _ _ _) (congrArg (World.drewN _) (Nat.add_assoc _ _ _))⟩); have hcz15_0 := bv_ BK282.out 0; have hfz15_0 := blk_frozen BK282.out 0) | (go_at_call 59; (with_reducible refine (r1_at.calls _ _ l1_0 x5_1 t284 _ ?side1 ?side2 A11.out).mono ?_); (case side1 => exact cs_ ((Kd.C_below HR1_0.out (hb2_ HB.out GE281.out GE282.out)))); (case side2 => exact HC1_0.out); rintro e w' ⟨rfl, ⟨nd, rfl⟩⟩; (try first | exact ⟨rfl, _, World.drewN_drewN _ _ _⟩ | exact ⟨rfl, _, Eq.trans (World.drewN_drewN _ _ _) (congrArg (World.drewN _) (Nat.add_assoc _ _ _))⟩))); try go_wp2_with (first | (go_at_call 59; (with_reducible refine (r1_at.calls _ _ l0_0 x5_1 t283 _ ?side1 ?side2 A10.out).mono ?_); (case side1 => exact cs_ ((Kd.C_below HR0_0.out HB.out))); (case side2 => exact HC0_0.out); rintro e w' ⟨rfl, ⟨nd, rfl⟩⟩; (try first | exact ⟨rfl, _, World.drewN_drewN _ _ _⟩ | exact ⟨rfl, _, Eq.trans (World.drewN_drewN _ _ _) (congrArg (World.drewN _) (Nat.add_assoc _ _ _))⟩); have hcz15_0 := bv_ BK282.out 0; have hfz15_0 := blk_frozen BK282.out 0) | (go_at_call 59; (with_reducible refine (r1_at.calls _ _ l1_0 x5_1 t284 _ ?side1 ?side2 A11.out).mono ?_); (case side1 => exact cs_ ((Kd.C_below HR1_0.out (hb2_ HB.out GE281.out GE282.out)))); (case side2 => exact HC1_0.out); rintro e w' ⟨rfl, ⟨nd, rfl⟩⟩; (try first | exact ⟨rfl, _, World.drewN_drewN _ _ _⟩ | exact ⟨rfl, _, Eq.trans (World.drewN_drewN _ _ _) (congrArg (World.drewN _) (Nat.add_assoc _ _ _))⟩))))
     go_ret
     exact ⟨by first | rfl | (simp [errW_none, errW_some] <;> rfl) | (simp only [← hji3]; first | rfl | (simp [errW_none, errW_some] <;> rfl)) | (simp [*, errW_none, errW_some] <;> rfl), hb2_ HB.out GE281.out GE282.out⟩
    ·rw [if_neg c12] at H
     have c12b0 : decide (t283 < t284) = false := decide_eq_false c12
     clear c12
     by_cases c16 : t283 > t284
     ·rw [if_pos c16] at H
      have c16b0 : decide (t284 < t283) = true := decide_eq_true c16
      clear c16
      obtain rfl := Option.some.inj H
      have hnb17 := NB281_282.out
      have hnc17 := NB282_281.out
      have hcz18_0 := bv_ BK281.out 0
      have hfz18_0 := blk_frozen BK281.out 0
      go_wp2_with (first | (go_at_call 59; (with_reducible refine (r1_at.calls _ _ l0_0 x5_1 t283 _ ?side1 ?side2 A10.out).mono ?_); (case side1 => exact cs_ ((Kd.C_below HR0_0.out HB.out))); (case side2 => exact HC0_0.out); rintro e w' ⟨rfl, ⟨nd, rfl⟩⟩; (try first | exact ⟨rfl, _, World.drewN_drewN _ _ _⟩ | exact ⟨rfl, _, Eq.trans (World.drewN_drewN _ _ _) (congrArg (World.drewN _) (Nat.add_assoc _ _ _))⟩); have hcz19_0 := bv_ BK282.out 0; have hfz19_0 := blk_frozen BK282.out 0) | (go_at_call 59; (with_reducible refine (r1_at.calls _ _ l1_0 x5_1 t284 _ ?side1 ?side2 A11.out).mono ?_); (case side1 => exact cs_ ((Kd.C_below HR1_0.out (hb2_ HB.out GE281.out GE282.out)))); (case side2 => exact HC1_0.out); rintro e w' ⟨rfl, ⟨nd, rfl⟩⟩; (try first | exact ⟨rfl, _, World.drewN_drewN _ _ _⟩ | exact ⟨rfl, _, Eq.trans (World.drewN_drewN _ _ _) (congrArg (World.drewN _) (Nat.add_assoc _ _ _))⟩)))
      repeat (go_quiet (first | (go_at_call 59; (with_reducible refine (r1_at.calls _ _ l0_0 x5_1 t283 _ ?side1 ?side2 A10.out).mono ?_); (case side1 => exact cs_ ((Kd.C_below HR0_0.out HB.out))); (case side2 => exact HC0_0.out); rintro e w' ⟨rfl, ⟨nd, rfl⟩⟩; (try first | exact ⟨rfl, _, World.drewN_drewN _ _ _⟩ | exact ⟨rfl, _, Eq.trans (World.drewN_drewN _ _ _) (congrArg (World.drewN _) (Nat.add_assoc _ _ _))⟩); have hcz19_0 := bv_ BK282.out 0; have hfz19_0 := blk_frozen BK282.out 0) | (go_at_call 59; (with_reducible refine (r1_at.calls _ _ l1_0 x5_1 t284 _ ?side1 ?side2 A11.out).mono ?_); (case side1 => exact cs_ ((Kd.C_below HR1_0.out (hb2_ HB.out GE281.out GE282.out)))); (case side2 => exact HC1_0.out); rintro e w' ⟨rfl, ⟨nd, rfl⟩⟩; (try first | exact ⟨rfl, _, World.drewN_drewN _ _ _⟩ | exact ⟨rfl, _, Eq.trans (World.drewN_drewN _ _ _) (congrArg (World.drewN _) (Nat.add_assoc _ _ _))⟩))); try go_wp2_with (first | (go_at_call 59; (with_reducible refine (r1_at.calls _ _ l0_0 x5_1 t283 _ ?side1 ?side2 A10.out).mono ?_); (case side1 => exact cs_ ((Kd.C_below HR0_0.out HB.out))); (case side2 => exact HC0_0.out); rintro e w' ⟨rfl, ⟨nd, rfl⟩⟩; (try first | exact ⟨rfl, _, World.drewN_drewN _ _ _⟩ | exact ⟨rfl, _, Eq.trans (World.drewN_drewN _ _ _) (congrArg (World.drewN _) (Nat.add_assoc _ _ _))⟩); have hcz19_0 := bv_ BK282.out 0; have hfz19_0 := blk_frozen BK282.out 0) | (go_at_call 59; (with_reducible refine (r1_at.calls _ _ l1_0 x5_1 t284 _ ?side1 ?side2 A11.out).mono ?_); (case side1 => exact cs_ ((Kd.C_below HR1_0.out (hb2_ HB.out GE281.out GE282.out)))); (case side2 => exact HC1_0.out); rintro e w' ⟨rfl, ⟨nd, rfl⟩⟩; (try first | exact ⟨rfl, _, World.drewN_drewN _ _ _⟩ | exact ⟨rfl, _, Eq.trans (World.drewN_drewN _ _ _) (congrArg (World.drewN _) (Nat.add_assoc _ _ _))⟩))))
      go_ret
      exact ⟨by first | rfl | (simp [errW_none, errW_some] <;> rfl) | (simp only [← hji3]; first | rfl | (simp [errW_none, errW_some] <;> rfl)) | (simp [*, errW_none, errW_some] <;> rfl), hb2_ HB.out GE281.out GE282.out⟩
     ·rw [if_neg c16] at H
      have c16b0 : decide (t284 < t283) = false := decide_eq_false c16
      clear c16
      have H' := A_ H
      clear H
      have hnb20 := NB281_282.out
      have hnc20 := NB282_281.out
      have hcz21_0 := bv_ BK281.out 0
      have hfz21_0 := blk_frozen BK281.out 0
      go_wp2_with (first | (go_at_call 59; (with_reducible refine (r1_at.calls _ _ l0_0 x5_1 t283 _ ?side1 ?side2 A10.out).mono ?_); (case side1 => exact cs_ ((Kd.C_below HR0_0.out HB.out))); (case side2 => exact HC0_0.out); rintro e w' ⟨rfl, ⟨nd, rfl⟩⟩; (try first | exact ⟨rfl, _, World.drewN_drewN _ _ _⟩ | exact ⟨rfl, _, Eq.trans (World.drewN_drewN _ _ _) (congrArg (World.drewN _) (Nat.add_assoc _ _ _))⟩); have hcz22_0 := bv_ BK282.out 0; have hfz22_0 := blk_frozen BK282.out 0) | (go_at_call 59; (with_reducible refine (r1_at.calls _ _ l1_0 x5_1 t284 _ ?side1 ?side2 A11.out).mono ?_); (case side1 => exact cs_ ((Kd.C_below HR1_0.out (hb2_ HB.out GE281.out GE282.out)))); (case side2 => exact HC1_0.out); rintro e w' ⟨rfl, ⟨nd, rfl⟩⟩; (try first | exact ⟨rfl, _, World.drewN_drewN _ _ _⟩ | exact ⟨rfl, _, Eq.trans (World.drewN_drewN _ _ _) (congrArg (World.drewN _) (Nat.add_assoc _ _ _))⟩)))
      repeat (go_quiet (first | (go_at_call 59; (with_reducible refine (r1_at.calls _ _ l0_0 x5_1 t283 _ ?side1 ?side2 A10.out).mono ?_); (case side1 => exact cs_ ((Kd.C_below HR0_0.out HB.out))); (case side2 => exact HC0_0.out); rintro e w' ⟨rfl, ⟨nd, rfl⟩⟩; (try first | exact ⟨rfl, _, World.drewN_drewN _ _ _⟩ | exact ⟨rfl, _, Eq.trans (World.drewN_drewN _ _ _) (congrArg (World.drewN _) (Nat.add_assoc _ _ _))⟩); have hcz22_0 := bv_ BK282.out 0; have hfz22_0 := blk_frozen BK282.out 0) | (go_at_call 59; (with_reducible refine (r1_at.calls _ _ l1_0 x5_1 t284 _ ?side1 ?side2 A11.out).mono ?_); (case side1 => exact cs_ ((Kd.C_below HR1_0.out (hb2_ HB.out GE281.out GE282.out)))); (case side2 => exact HC1_0.out); rintro e w' ⟨rfl, ⟨nd, rfl⟩⟩; (try first | exact ⟨rfl, _, World.drewN_drewN _ _ _⟩ | exact ⟨rfl, _, Eq.trans (World.drewN_drewN _ _ _) (congrArg (World.drewN _) (Nat.add_assoc _ _ _))⟩))); try go_wp2_with (first | (go_at_call 59; (with_reducible refine (r1_at.calls _ _ l0_0 x5_1 t283 _ ?side1 ?side2 A10.out).mono ?_); (case side1 => exact cs_ ((Kd.C_below HR0_0.out HB.out))); (case side2 => exact HC0_0.out); rintro e w' ⟨rfl, ⟨nd, rfl⟩⟩; (try first | exact ⟨rfl, _, World.drewN_drewN _ _ _⟩ | exact ⟨rfl, _, Eq.trans (World.drewN_drewN _ _ _) (congrArg (World.drewN _) (Nat.add_assoc _ _ _))⟩); have hcz22_0 := bv_ BK282.out 0; have hfz22_0 := blk_frozen BK282.out 0) | (go_at_call 59; (with_reducible refine (r1_at.calls _ _ l1_0 x5_1 t284 _ ?side1 ?side2 A11.out).mono ?_); (case side1 => exact cs_ ((Kd.C_below HR1_0.out (hb2_ HB.out GE281.out GE282.out)))); (case side2 => exact HC1_0.out); rintro e w' ⟨rfl, ⟨nd, rfl⟩⟩; (try first | exact ⟨rfl, _, World.drewN_drewN _ _ _⟩ | exact ⟨rfl, _, Eq.trans (World.drewN_drewN _ _ _) (congrArg (World.drewN _) (Nat.add_assoc _ _ _))⟩))))
      go_roundg k1
      case measure => have := HK1.out; omega
      case rel => exact ⟨(wrap64 (x5_1 - 1)), sm_, H', ⟨by have := HK1.out; omega⟩, ⟨bk_ BK281.out⟩, ⟨bk_ BK282.out⟩, ⟨hb2_ HB.out GE281.out GE282.out⟩⟩
   ·rw [if_neg c9] at H
    have c9b0 : decide (0 ≤ x5_1) = false := decide_eq_false c9
    clear c9
    obtain rfl := Option.some.inj H
    go_wp2
    repeat (go_quiet (fail); try go_wp2)
    go_ret
    exact ⟨by first | rfl | (simp [errW_none, errW_some] <;> rfl) | (simp only [← hji3]; first | rfl | (simp [errW_none, errW_some] <;> rfl)) | (simp [*, errW_none, errW_some] <;> rfl), hb2_ HB.out GE281.out GE282.out⟩
def r1_Len.l0 : Nat → Int → Int → Option (Int)
 | 0, _, _ => none
 | k + 1, x3, x4 => if x4 > 0 then (r1_Len.l0 k (wrap64 (x3 + 1)) (IntKind.u64.wrap (Int.tdiv x4 2))) else (some x3)
def r1_Len.f (k : Nat) (l0_0 : List Int) : Option (Int) := if (l0_0.length : Int) = 0 then (some 0) else (if 0 ≤ (wrap64 ((l0_0.length : Int) - 1)) then (if (wrap64 ((l0_0.length : Int) - 1)) < (l0_0.length : Int) then (r1_Len.l0 k (wrap64 (32 * (wrap64 ((l0_0.length : Int) - 1)))) (rd l0_0 (wrap64 ((l0_0.length : Int) - 1)))) else (none)) else (none))
theorem r1_Len.mono_l : ∀ k, (∀ y0 y1, LeO (r1_Len.l0 k y0 y1) (r1_Len.l0 (k + 1) y0 y1))
 | 0 => fun _ _ r h => by simp [r1_Len.l0] at h
 | k + 1 => by
  have ih0 := r1_Len.mono_l k
  ·intro y0 y1
   unfold r1_Len.l0
   repeat' first
   | (with_reducible exact ih0 _ _)
   | (with_reducible exact LeO.refl _)
   | (with_reducible exact LeO.none _)
   | (with_reducible refine LeO.ite ?_ ?_)
   | (with_reducible refine LeO.bind ?_ (fun _ => ?_))
   | exact ih0 _ _
   | exact LeO.none _
   | refine LeO.ite ?_ ?_
   | refine LeO.bind ?_ (fun _ => ?_)
theorem r1_Len.mono : ∀ a0 k, LeO (r1_Len.f k a0) (r1_Len.f (k + 1) a0) := by
 intro a0 k
 have ih0 := r1_Len.mono_l k
 unfold r1_Len.f
 repeat' first
   | (with_reducible exact ih0 _ _)
   | (with_reducible exact LeO.refl _)
   | (with_reducible exact LeO.none _)
   | (with_reducible refine LeO.ite ?_ ?_)
   | (with_reducible refine LeO.bind ?_ (fun _ => ?_))
   | exact ih0 _ _
   | exact LeO.none _
   | refine LeO.ite ?_ ?_
   | refine LeO.bind ?_ (fun _ => ?_)
theorem r1_Len.calls (k : Nat) (A0_0 : Option Addr) (c0_0 : Nat) (l0_0 : List Int) (r : Int) (w : World) (hr0_0 : Kd.C (Kd.int .u64) w A0_0 l0_0.length l0_0) (hc0_0 : l0_0.length ≤ c0_0) (h : r1_Len.f k l0_0 = some r) :
  Calls Try.prog 65 #[.agg #[.slice A0_0 l0_0.length c0_0]] w fun e w' => e = .returned (.int .i64 r) ∧ Below w.heap.size w w' := by
 have hu33 := Try.underlying33
 have HR0_0 := A_ hr0_0;have HC0_0 := A_ hc0_0;clear hr0_0 hc0_0
 have HB := A_ (Below.refl w.heap.size w)
 have H : (if (l0_0.length : Int) = 0 then (some 0) else (if 0 ≤ (wrap64 ((l0_0.length : Int) - 1)) then (if (wrap64 ((l0_0.length : Int) - 1)) < (l0_0.length : Int) then (r1_Len.l0 k (wrap64 (32 * (wrap64 ((l0_0.length : Int) - 1)))) (rd l0_0 (wrap64 ((l0_0.length : Int) - 1)))) else (none)) else (none))) = some r := h
 clear h
 by_cases c2 : (l0_0.length : Int) = 0
 ·rw [if_pos c2] at H
  have c2b0 : ((l0_0.length : Int) == 0) = true := beq_iff_eq.mpr c2
  have c2b1 : ((l0_0.length : Int) != 0) = false := bne_eq_false_iff_eq.mpr c2
  clear c2
  obtain rfl := Option.some.inj H
  go_enter Try.func65, Try.ntmps65
  go_wp2_with (first | ((with_reducible refine gate_dst (N := 1) rfl ?_); refine be_ 1 #[.slice A0_0 l0_0.length c0_0] 33 ?_; intro gb285 hg w3 hbox hb; have BK285 := A_ (hbox); have GW285 := A_ (sz_ hg (hb_ HB.out)); have GE285 := A_ (sz_ hg (hb_ HB.out)); replace HB := A_ (below_step (hb_ HB.out) hb); clear hb hbox hg; have hcz4_0 := bv_ BK285.out 0; have hfz4_0 := blk_frozen BK285.out 0))
  go_ret
  exact ⟨er_, hb1_ HB.out GE285.out⟩
 ·rw [if_neg c2] at H
  have c2b0 : ((l0_0.length : Int) == 0) = false := beq_eq_false_iff_ne.mpr c2
  have c2b1 : ((l0_0.length : Int) != 0) = true := bne_iff_ne.mpr c2
  have c2b2 : ¬ (l0_0 = []) := fun h_ => c2 (by rw [h_]; rfl)
  obtain ⟨ji5, hji5⟩ : ∃ j_ : Int, (wrap64 ((l0_0.length : Int) - 1)) = j_ := ⟨_, rfl⟩
  replace H : (if 0 ≤ (ji5) then (if (ji5) < (l0_0.length : Int) then (r1_Len.l0 k (wrap64 (32 * (ji5))) (rd l0_0 (ji5))) else (none)) else (none)) = some r := by first | (rw [hji5] at H; exact H) | (simp only [hji5] at H ⊢; exact H)
  have hji5w : (IntKind.i64.wrap ((l0_0.length : Int) - 1)) = ji5 := (i64_w _).trans hji5
  by_cases c6 : 0 ≤ (ji5)
  ·rw [if_pos c6] at H
   have c6b0 : decide (0 ≤ (ji5)) = true := decide_eq_true c6
   clear c6
   by_cases c7 : (ji5) < (l0_0.length : Int)
   ·rw [if_pos c7] at H
    have c7b0 : decide ((ji5) < (l0_0.length : Int)) = true := decide_eq_true c7
    clear c7
    have H' := A_ H
    clear H
    go_enter Try.func65, Try.ntmps65
    go_wp2_with (first | ((with_reducible refine gate_dst (N := 1) rfl ?_); refine be_ 1 #[.slice A0_0 l0_0.length c0_0] 33 ?_; intro gb285 hg w8 hbox hb; have BK285 := A_ (hbox); have GW285 := A_ (sz_ hg (hb_ HB.out)); have GE285 := A_ (sz_ hg (hb_ HB.out)); replace HB := A_ (below_step (hb_ HB.out) hb); clear hb hbox hg; have hcz9_0 := bv_ BK285.out 0; have hfz9_0 := blk_frozen BK285.out 0; have p286 : 0 ≤ ((ji5) : Int) := of_decide_eq_true (by first | (with_reducible assumption) | assumption); have q286 : (ji5) < (l0_0.length : Int) := of_decide_eq_true (by first | (with_reducible assumption) | assumption); obtain ⟨ad286, e286, hx286_0⟩ := Kd.at_int HR0_0.out (ji5) p286 q286; cases e286; replace hx286_0 := (HB.out.cell (World.block_lt_of_cell? w _ hx286_0)).trans hx286_0; replace p286 := eq_true p286; replace q286 := eq_true q286))
    go_loopg [3, 4] k (fun kq v3 v4 w' => ∃ (x3_1 : Int) (x4_1 : Int), v3 = .int .i64 x3_1 ∧ v4 = .int .u64 x4_1 ∧ Aside0 (r1_Len.l0 kq x3_1 x4_1 = some r) ∧ Aside0 (kq ≤ k) ∧ Aside0 (w'.heap[gb285]? = some (.cells #[(.slice (some ad286) l0_0.length c0_0)] 33 (0, 0))) ∧ Aside0 (Below w.heap.size w w'))
    case atStart => exact ⟨(wrap64 (32 * (ji5))), (rd l0_0 (ji5)), (by first | rfl | (simp; done) | (simp only [← hji5] <;> (first | rfl | simp)) | (simp [*]; done)), (by first | rfl | (simp; done) | (simp only [← hji5] <;> (first | rfl | simp)) | (simp [*]; done)), H', ⟨Nat.le_refl _⟩, ⟨bk_ BK285.out⟩, ⟨hb1_ HB.out GE285.out⟩⟩
    case round =>
     clear H'
     try clear c2
     try clear c2b0
     try clear c2b1
     try clear c2b2
     try clear p2
     try clear q2
     try clear hx2
     try clear c6
     try clear c6b0
     try clear p6
     try clear c7
     try clear c7b0
     try clear hcz4_0
     try clear hcz9_0
     try clear hfz4_0
     try clear hfz9_0
     try clear hx286_0
     try clear p286
     try clear q286
     obtain ⟨x3_1, x4_1, rfl, rfl, HA, HK1, BK285, HB⟩ := hrel
     cases gk with
     | zero => exact absurd HA.out (by simp [r1_Len.l0])
     | succ k1 =>
      have H := HA.out
      clear HA
      simp only [r1_Len.l0] at H
      by_cases c10 : x4_1 > 0
      ·rw [if_pos c10] at H
       have c10b0 : decide (0 < x4_1) = true := decide_eq_true c10
       clear c10
       have H' := A_ H
       clear H
       go_wp2
       go_roundg k1
       case measure => have := HK1.out; omega
       case rel => exact ⟨(wrap64 (x3_1 + 1)), (IntKind.u64.wrap (Int.tdiv x4_1 2)), sm_, sm_, H', ⟨by have := HK1.out; omega⟩, ⟨bk_ BK285.out⟩, ⟨hb1_ HB.out GE285.out⟩⟩
      ·rw [if_neg c10] at H
       have c10b0 : decide (0 < x4_1) = false := decide_eq_false c10
       clear c10
       obtain rfl := Option.some.inj H
       go_wp2
       go_ret
       exact ⟨by first | rfl | (simp [errW_none, errW_some] <;> rfl) | (simp only [← hji5]; first | rfl | (simp [errW_none, errW_some] <;> rfl)) | (simp [*, errW_none, errW_some] <;> rfl), hb1_ HB.out GE285.out⟩
   ·rw [if_neg c7] at H
    exact absurd H (by simp)
  ·rw [if_neg c6] at H
   exact absurd H (by simp)
end Go.Proofs.Ythdeeoallfbjmaa.PA
namespace Dig
def dgB (B n : Nat) : List Int := if _h : n = 0 ∨ B < 2 then [] else ((n % B : Nat) : Int) :: dgB B (n / B)
termination_by n
decreasing_by exact Nat.div_lt_self (by omega) (by omega)
def valB (B : Nat) : List Int → Nat
  | [] => 0
  | d :: l => d.toNat + B * valB B l
def OkB (B : Nat) (l : List Int) : Prop := ∀ d ∈ l, 0 ≤ d ∧ d < B
section
variable {B : Nat}
theorem dgB_zero : dgB B 0 = [] := by rw [dgB, dif_pos (.inl rfl)]
theorem dgB_pos (hB : 2 ≤ B) {n : Nat} (h : 0 < n) : dgB B n = ((n % B : Nat) : Int) :: dgB B (n / B) := by rw [dgB, dif_neg (by omega)]
theorem OkB.nil : OkB B [] := fun _ h => by cases h
theorem OkB.cons {d : Int} {l : List Int} (h : 0 ≤ d ∧ d < B) (k : OkB B l) : OkB B (d :: l) := fun x hx => by
  rcases List.mem_cons.1 hx with rfl | hx
  · exact h
  · exact k x hx
theorem OkB.snoc {d : Int} {l : List Int} (k : OkB B l) (h : 0 ≤ d ∧ d < B) : OkB B (l ++ [d]) := fun x hx => by
  rcases List.mem_append.1 hx with hx | hx
  · exact k x hx
  · rcases List.mem_singleton.1 hx with rfl; exact h
theorem OkB.head {d : Int} {l : List Int} (k : OkB B (d :: l)) : 0 ≤ d ∧ d < B := k d List.mem_cons_self
theorem OkB.tail {d : Int} {l : List Int} (k : OkB B (d :: l)) : OkB B l := fun x hx => k x (List.mem_cons_of_mem _ hx)
theorem OkB.take {l : List Int} (k : OkB B l) (i : Nat) : OkB B (l.take i) := fun x hx => k x (List.mem_of_mem_take hx)
theorem okB_dg (hB : 2 ≤ B) (n : Nat) : OkB B (dgB B n) := by
  induction n using Nat.strongRecOn with
  | _ n ih =>
    rcases Nat.eq_zero_or_pos n with h | h
    · subst h; rw [dgB_zero]; exact OkB.nil
    · rw [dgB_pos hB h]
      refine OkB.cons ⟨by omega, ?_⟩ (ih _ (Nat.div_lt_self h (by omega)))
      have := Nat.mod_lt n (show 0 < B by omega)
      omega
theorem valB_dg (hB : 2 ≤ B) (n : Nat) : valB B (dgB B n) = n := by
  induction n using Nat.strongRecOn with
  | _ n ih =>
    rcases Nat.eq_zero_or_pos n with h | h
    · subst h; rw [dgB_zero]; rfl
    · rw [dgB_pos hB h, valB, ih _ (Nat.div_lt_self h (by omega)), Int.toNat_natCast]
      exact Nat.mod_add_div n B
theorem valB_append (l m : List Int) : valB B (l ++ m) = valB B l + B ^ l.length * valB B m := by
  induction l with
  | nil => simp [valB]
  | cons d l ih =>
    simp only [List.cons_append, valB, ih, List.length_cons, Nat.pow_succ, Nat.mul_add]
    rw [Nat.add_assoc, Nat.mul_comm (B ^ l.length) B, Nat.mul_assoc]
theorem valB_snoc (l : List Int) (d : Int) : valB B (l ++ [d]) = valB B l + B ^ l.length * d.toNat := by rw [valB_append]; simp [valB]
theorem valB_lt {l : List Int} (h : OkB B l) : valB B l < B ^ l.length := by
  induction l with
  | nil => simp [valB]
  | cons d l ih =>
    have h1 := ih h.tail
    have h2 := h.head
    simp only [valB, List.length_cons, Nat.pow_succ]
    have h4 : B * (valB B l + 1) ≤ B * B ^ l.length := Nat.mul_le_mul_left _ h1
    rw [Nat.mul_add, Nat.mul_one, Nat.mul_comm B (B ^ l.length)] at h4
    have : d.toNat < B := by omega
    omega
theorem valB_zeros (n : Nat) : valB B (List.replicate n 0) = 0 := by
  induction n with
  | zero => rfl
  | succ n ih => rw [List.replicate_succ, valB, ih]; simp
theorem okB_zeros (hB : 2 ≤ B) (n : Nat) : OkB B (List.replicate n 0) := fun x hx => by
  rw [List.eq_of_mem_replicate hx]; omega
theorem atB_val (hB : 2 ≤ B) {l : List Int} (h : OkB B l) (i : Nat) : (l.getD i 0).toNat = valB B l / B ^ i % B := by
  induction l generalizing i with
  | nil => simp [valB]
  | cons d l ih =>
    have h2 := h.head
    have h3 : d.toNat < B := by omega
    cases i with
    | zero =>
      simp only [List.getD_cons_zero, valB, Nat.pow_zero, Nat.div_one, Nat.add_mul_mod_self_left]
      rw [Nat.mod_eq_of_lt h3]
    | succ i =>
      simp only [List.getD_cons_succ, valB]
      rw [ih h.tail, Nat.pow_succ, Nat.mul_comm (B ^ i) B, ← Nat.div_div_eq_div_mul, Nat.add_mul_div_left _ _ (show 0 < B by omega), Nat.div_eq_of_lt h3, Nat.zero_add]
theorem okB_getD (hB : 2 ≤ B) {l : List Int} (h : OkB B l) (i : Nat) : 0 ≤ l.getD i 0 ∧ l.getD i 0 < B := by
  rcases Nat.lt_or_ge i l.length with hi | hi
  · rw [List.getD_eq_getElem?_getD, List.getElem?_eq_getElem hi]; exact h _ (List.getElem_mem hi)
  · rw [List.getD_eq_getElem?_getD, List.getElem?_eq_none hi]; simp; omega
theorem getDB_val (hB : 2 ≤ B) {l : List Int} (h : OkB B l) (i : Nat) : l.getD i 0 = ((valB B l / B ^ i % B : Nat) : Int) := by
  have h1 := atB_val hB h i
  have h2 := okB_getD hB h i
  rw [← h1]; omega
theorem lengthB_le (hB : 2 ≤ B) {n k : Nat} (h : n < B ^ k) : (dgB B n).length ≤ k := by
  induction k generalizing n with
  | zero => obtain rfl : n = 0 := by simpa using h
            rw [dgB_zero]; simp
  | succ k ih =>
    rcases Nat.eq_zero_or_pos n with h0 | h0
    · subst h0; rw [dgB_zero]; simp
    · rw [dgB_pos hB h0, List.length_cons]
      have : n / B < B ^ k := by rw [Nat.div_lt_iff_lt_mul (by omega)]; rwa [Nat.pow_succ] at h
      have := ih this
      omega
theorem dgB_val (hB : 2 ≤ B) {l : List Int} (h : OkB B l) (h0 : ∀ d, l.getLast? = some d → d ≠ 0) : dgB B (valB B l) = l := by
  induction l with
  | nil => rw [valB, dgB_zero]
  | cons d l ih =>
    have h2 := h.head
    have h4 : d.toNat < B := by omega
    have h3 : dgB B (valB B l) = l := by
      refine ih h.tail fun e he => ?_
      cases l with
      | nil => cases he
      | cons e' l' => exact h0 e (by rwa [List.getLast?_cons_cons])
    have hp : 0 < valB B (d :: l) := by
      rw [valB]
      rcases Nat.eq_zero_or_pos (valB B l) with hv | hv
      · rw [hv, dgB_zero] at h3
        subst h3
        have := h0 d rfl
        omega
      · have : 1 ≤ B * valB B l := Nat.mul_pos (by omega) hv
        omega
    rw [dgB_pos hB hp, valB, Nat.add_mul_mod_self_left, Nat.add_mul_div_left _ _ (by omega), Nat.mod_eq_of_lt h4, Nat.div_eq_of_lt h4, Nat.zero_add, h3, Int.toNat_of_nonneg h2.1]
theorem modB_succ (n i : Nat) : n % B ^ (i + 1) = n % B ^ i + B ^ i * (n / B ^ i % B) := by
  rw [Nat.pow_succ, Nat.mod_mul]
theorem divB_step (n i : Nat) : n / B ^ i = n / B ^ (i + 1) * B + n / B ^ i % B := by
  rw [Nat.pow_succ, ← Nat.div_div_eq_div_mul]
  have := Nat.div_add_mod (n / B ^ i) B
  rw [Nat.mul_comm] at this
  omega
end
theorem W2 : 2 ≤ 4294967296 := by decide
def dg (n : Nat) : List Int := dgB 4294967296 n
def val (l : List Int) : Nat := valB 4294967296 l
def Ok (l : List Int) : Prop := ∀ d ∈ l, 0 ≤ d ∧ d < 4294967296
theorem Ok.up {l : List Int} (h : Ok l) : OkB 4294967296 l := h
theorem Ok.nil : Ok [] := fun _ h => by cases h
theorem Ok.cons {d : Int} {l : List Int} (h : 0 ≤ d ∧ d < 4294967296) (k : Ok l) : Ok (d :: l) := OkB.cons (B := 4294967296) h k
theorem Ok.snoc {d : Int} {l : List Int} (k : Ok l) (h : 0 ≤ d ∧ d < 4294967296) : Ok (l ++ [d]) := OkB.snoc (B := 4294967296) k h
theorem Ok.take {l : List Int} (k : Ok l) (i : Nat) : Ok (l.take i) := OkB.take (B := 4294967296) k i
theorem ok_zeros (n : Nat) : Ok (List.replicate n 0) := okB_zeros W2 n
theorem ok_dg (n : Nat) : Ok (dg n) := okB_dg W2 n
theorem dg_zero : dg 0 = [] := dgB_zero
theorem val_dg (n : Nat) : val (dg n) = n := valB_dg W2 n
theorem val_nil : val [] = 0 := rfl
theorem val_cons (d : Int) (l : List Int) : val (d :: l) = d.toNat + 4294967296 * val l := rfl
theorem val_snoc (l : List Int) (d : Int) : val (l ++ [d]) = val l + 4294967296 ^ l.length * d.toNat := valB_snoc l d
theorem val_lt {l : List Int} (h : Ok l) : val l < 4294967296 ^ l.length := valB_lt h
theorem val_zeros (n : Nat) : val (List.replicate n 0) = 0 := valB_zeros n
theorem dg_val {l : List Int} (h : Ok l) (h0 : ∀ d, l.getLast? = some d → d ≠ 0) : dg (val l) = l := dgB_val W2 h h0
theorem getD_val {l : List Int} (h : Ok l) (i : Nat) : l.getD i 0 = ((val l / 4294967296 ^ i % 4294967296 : Nat) : Int) := getDB_val W2 h i
theorem getD_dg (n i : Nat) : (dg n).getD i 0 = ((n / 4294967296 ^ i % 4294967296 : Nat) : Int) := by rw [getD_val (ok_dg n), val_dg]
theorem len_le {n k : Nat} (h : n < 4294967296 ^ k) : (dg n).length ≤ k := lengthB_le W2 h
theorem lt_len (n : Nat) : n < 4294967296 ^ (dg n).length := by
  have := val_lt (ok_dg n); rwa [val_dg] at this
theorem lt_of_len {n i : Nat} (h : (dg n).length ≤ i) : n < 4294967296 ^ i := Nat.lt_of_lt_of_le (lt_len n) (Nat.pow_le_pow_right (by decide) h)
theorem mod_len {n i : Nat} (h : (dg n).length ≤ i) : n % 4294967296 ^ i = n := Nat.mod_eq_of_lt (lt_of_len h)
theorem mod_succ (n i : Nat) : n % 4294967296 ^ (i + 1) = n % 4294967296 ^ i + 4294967296 ^ i * (n / 4294967296 ^ i % 4294967296) := modB_succ n i
theorem div_step (n i : Nat) : n / 4294967296 ^ i = n / 4294967296 ^ (i + 1) * 4294967296 + n / 4294967296 ^ i % 4294967296 := divB_step n i
theorem word_lt (n i : Nat) : n / 4294967296 ^ i % 4294967296 < 4294967296 := Nat.mod_lt _ (by decide)
end Dig
section
set_option linter.unusedVariables false
set_option linter.unusedSimpArgs false
namespace Go.Proofs.Ythdeeoallfbjmaa.Th
open Go.RowKit Go.Proofs.YthdeeoallfbjmaaW.PrintWords Go.Proofs.YthdeeoallfbjmaaW.PrintLast Go.Proofs.YthdeeoallfbjmaaW.PrintMore Go.Proofs.Ythdeeoallfbjmaa.PA Dig

theorem at_dg (n i : Nat) : r1_at.f (dg n) i = some ((n / 4294967296 ^ i % 4294967296 : Nat) : Int) := by
  unfold r1_at.f
  by_cases h : (i : Int) < ((dg n).length : Int)
  · rw [if_pos h, if_pos (by omega)]
    unfold rd
    rw [Int.toNat_natCast, getD_dg]
  · rw [if_neg h]
    have h1 : n / 4294967296 ^ i = 0 := by
      refine Nat.div_eq_of_lt ?_
      have h1 := val_lt (ok_dg n)
      rw [val_dg] at h1
      exact Nat.lt_of_lt_of_le h1 (Nat.pow_le_pow_right (by decide) (by omega))
    rw [h1]; rfl
theorem trim_from (l : List Int) (hl : Ok l) (hn : l.length < 4611686018427387904) (i : Nat) : i ≤ l.length → val (l.take i) = val l → Ev (fun k => r1_trim.l0 k l i) (dg (val l)) := by
  induction i with
  | zero =>
    intro _ hv
    refine Ev.step (fun _ => r1_trim.l0.eq_2 ..) ?_
    refine Ev.neg (by omega) (Ev.pos (by omega) (Ev.pos (by omega) (Ev.out ?_)))
    rw [← hv]
    simp [val_nil, dg_zero]
  | succ i ih =>
    intro hi hv
    refine Ev.step (fun _ => r1_trim.l0.eq_2 ..) ?_
    have e : wrap64 (((i + 1 : Nat) : Int) - 1) = i := by rw [w64_id (by omega) (by omega)]; omega
    rw [e]
    refine Ev.pos (by omega) (Ev.pos (by omega) (Ev.pos (by omega) ?_))
    have er : rd l (i : Int) = l.getD i 0 := by unfold rd; rw [Int.toNat_natCast]
    rw [er]
    have et : l.take (i + 1) = l.take i ++ [l.getD i 0] := by
      rw [List.take_succ_eq_append_getElem (by omega), List.getD_eq_getElem?_getD, List.getElem?_eq_getElem (by omega)]; rfl
    by_cases h : l.getD i 0 = 0
    · refine Ev.pos h (ih (by omega) ?_)
      rw [et, val_snoc, h] at hv
      simpa using hv
    · refine Ev.neg h (Ev.pos (by omega) (Ev.pos (by omega) (Ev.out ?_)))
      rw [← hv, Int.toNat_natCast]
      refine (dg_val (hl.take _) fun d hd => ?_).symm
      rw [et, List.getLast?_concat] at hd
      injection hd with hd
      rw [← hd]; exact h
theorem trim_val (l : List Int) (hl : Ok l) (hn : l.length < 4611686018427387904) : Ev (fun k => r1_trim.f k l) (dg (val l)) :=
  trim_from l hl hn l.length (Nat.le_refl _) (by rw [List.take_length])

theorem of_dg (n : Nat) (hn : n < 18446744073709551616) : Ev (fun k => r1_Of.f k n) (dg n) := by
  unfold r1_Of.f
  have e1 : Int.tmod (n : Int) 4294967296 = ((n % 4294967296 : Nat) : Int) := by rw [Int.tmod_eq_emod_of_nonneg (by omega)]; omega
  have e2 : IntKind.u64.wrap (Int.tdiv (n : Int) 4294967296) = ((n / 4294967296 : Nat) : Int) := by
    rw [Int.tdiv_eq_ediv_of_nonneg (by omega), u64_id (by omega) (by omega)]; omega
  rw [e1, e2]
  refine Ev.bind (trim_val _ (Ok.cons (by omega) (Ok.cons (by omega) Ok.nil)) (by simp)) (Ev.out ?_)
  congr 1
  simp only [val_cons, val_nil, Int.toNat_natCast]
  omega


theorem shl_l2 (m q u : Nat) (hq : q < 1000000000) (hu : u ≤ 2147483648) (hu0 : 0 < u) (hm : (dg m).length < 1000000000000) (d : Nat) : ∀ (x : List Int) (c i : Nat), Ok x → x.length = q + i → c < u → i ≤ (dg m).length →
    val x + c * 4294967296 ^ (q + i) = (m % 4294967296 ^ i) * u * 4294967296 ^ q → (dg m).length - i = d →
    Ev (fun k => r1_Shl.l2 k x u c i (dg m)) (dg (m * u * 4294967296 ^ q)) := by
  induction d with
  | zero =>
    intro x c i hx hl hc hi hv hd
    have h1 := mod_len (n := m) (i := i) (by omega)
    rw [h1] at hv
    refine Ev.step (fun _ => r1_Shl.l2.eq_2 ..) ?_
    refine Ev.neg (by omega) (Ev.pos (by omega) (Ev.bind (trim_val _ (hx.snoc (by omega)) (by simp; omega)) (Ev.out ?_)))
    congr 1
    rw [val_snoc, hl, Int.toNat_natCast, Nat.mul_comm _ c]
    exact hv
  | succ d ih =>
    intro x c i hx hl hc hi hv hd
    refine Ev.step (fun _ => r1_Shl.l2.eq_2 ..) ?_
    have er : rd (dg m) (i : Int) = ((m / 4294967296 ^ i % 4294967296 : Nat) : Int) := by unfold rd; rw [Int.toNat_natCast, getD_dg]
    refine Ev.pos (by omega) (Ev.pos (by omega) (Ev.pos (by omega) ?_))
    rw [er]
    have h1 := word_lt m i
    have s1 := mod_succ m i
    generalize m / 4294967296 ^ i % 4294967296 = A at *
    have hau : A * u ≤ 4294967295 * u := Nat.mul_le_mul_right u (by omega)
    rw [← Int.natCast_mul, u64_id (n := ((A * u : Nat) : Int)) (by omega) (by omega), u64_id (by omega) (by omega), Int.tmod_eq_emod_of_nonneg (by omega), Int.tdiv_eq_ediv_of_nonneg (by omega), u64_id (by omega) (by omega), w64_id (by omega) (by omega)]
    rw [show (((A * u : Nat) : Int) + c) % 4294967296 = (((A * u + c) % 4294967296 : Nat) : Int) by omega, show (((A * u : Nat) : Int) + c) / 4294967296 = (((A * u + c) / 4294967296 : Nat) : Int) by omega, show (i : Int) + 1 = ((i + 1 : Nat) : Int) by omega]
    refine ih (x ++ [(((A * u + c) % 4294967296 : Nat) : Int)]) ((A * u + c) / 4294967296) (i + 1) (hx.snoc (by omega)) (by simp [hl]; omega) ?_ (by omega) ?_ (by omega)
    · rw [Nat.div_lt_iff_lt_mul (by decide)]; omega
    rw [val_snoc, hl, s1, Int.toNat_natCast, ← Nat.add_assoc, Nat.pow_succ]
    have h5 := Nat.mod_add_div (A * u + c) 4294967296
    have h6 := congrArg (4294967296 ^ (q + i) * ·) h5
    simp only [Nat.mul_add] at h6
    have h7 : 4294967296 ^ (q + i) * (A * u) = 4294967296 ^ i * A * u * 4294967296 ^ q := by
      rw [Nat.pow_add]; simp only [Nat.mul_comm, Nat.mul_left_comm, Nat.mul_assoc]
    have h8 : (m % 4294967296 ^ i + 4294967296 ^ i * A) * u * 4294967296 ^ q = (m % 4294967296 ^ i) * u * 4294967296 ^ q + 4294967296 ^ i * A * u * 4294967296 ^ q := by
      rw [Nat.add_mul, Nat.add_mul]
    rw [h8, ← h7, ← hv, Nat.mul_comm ((A * u + c) / 4294967296), Nat.mul_assoc, Nat.mul_comm c]
    omega
theorem shl_l1 (m n : Nat) (hn : n < 30000000000) (hm : (dg m).length < 1000000000000) (d : Nat) : ∀ (x : List Int) (j : Nat), Ok x → x.length = n / 32 → val x = 0 → j ≤ n % 32 → n % 32 - j = d →
    Ev (fun k => r1_Shl.l1 k n x (2 ^ j : Nat) j (dg m)) (dg (m * 2 ^ n)) := by
  have e : m * 2 ^ n = m * 2 ^ (n % 32) * 4294967296 ^ (n / 32) := by
    rw [show (4294967296 : Nat) = 2 ^ 32 by decide, ← Nat.pow_mul, Nat.mul_assoc, ← Nat.pow_add]
    congr 2; omega
  induction d with
  | zero =>
    intro x j hx hl hv hj hd
    obtain rfl : j = n % 32 := by omega
    refine Ev.step (fun _ => r1_Shl.l1.eq_2 ..) ?_
    rw [Int.tmod_eq_emod_of_nonneg (by omega)]
    refine Ev.neg (by omega) ?_
    rw [e]
    have hp : 2 ^ (n % 32) ≤ 2147483648 := by
      have : 2 ^ (n % 32) ≤ 2 ^ 31 := Nat.pow_le_pow_right (by decide) (by omega)
      simpa using this
    exact shl_l2 m (n / 32) (2 ^ (n % 32)) (by omega) hp (Nat.pow_pos (by decide)) hm _ x 0 0 hx (by simpa using hl) (Nat.pow_pos (by decide)) (by omega) (by simp [hv, Nat.mod_one]) rfl
  | succ d ih =>
    intro x j hx hl hv hj hd
    refine Ev.step (fun _ => r1_Shl.l1.eq_2 ..) ?_
    rw [Int.tmod_eq_emod_of_nonneg (by omega)]
    refine Ev.pos (by omega) ?_
    have hp : 2 ^ j ≤ 2147483648 := by
      have : 2 ^ j ≤ 2 ^ 31 := Nat.pow_le_pow_right (by decide) (by omega)
      simpa using this
    have h := ih x (j + 1) hx hl hv (by omega) (by omega)
    rw [Nat.pow_succ] at h
    generalize 2 ^ j = P at *
    rw [u64_id (by omega) (by omega), w64_id (by omega) (by omega)]
    rw [show (2 : Int) * (P : Int) = ((P * 2 : Nat) : Int) by omega, show (j : Int) + 1 = ((j + 1 : Nat) : Int) by omega]
    exact h
theorem shl_l0 (m n : Nat) (hn : n < 30000000000) (hm : (dg m).length < 1000000000000) (d : Nat) : ∀ (i : Nat), i ≤ n / 32 → n / 32 - i = d →
    Ev (fun k => r1_Shl.l0 k n (List.replicate i 0) i (dg m)) (dg (m * 2 ^ n)) := by
  induction d with
  | zero =>
    intro i hi hd
    refine Ev.step (fun _ => r1_Shl.l0.eq_2 ..) ?_
    rw [Int.tdiv_eq_ediv_of_nonneg (by omega), w64_id (by omega) (by omega)]
    refine Ev.neg (by omega) ?_
    exact shl_l1 m n hn hm _ _ 0 (ok_zeros _) (by simp; omega) (val_zeros _) (by omega) rfl
  | succ d ih =>
    intro i hi hd
    refine Ev.step (fun _ => r1_Shl.l0.eq_2 ..) ?_
    rw [Int.tdiv_eq_ediv_of_nonneg (by omega), w64_id (n := (n : Int) / 32) (by omega) (by omega), w64_id (by omega) (by omega)]
    refine Ev.pos (by omega) (Ev.pos (by simp; omega) ?_)
    have h := ih (i + 1) (by omega) (by omega)
    rw [← List.replicate_succ', show (i : Int) + 1 = ((i + 1 : Nat) : Int) by omega]
    exact h
theorem shl_dg (m n : Nat) (hn : n < 30000000000) (hm : (dg m).length < 1000000000000) : Ev (fun k => r1_Shl.f k (dg m) n) (dg (m * 2 ^ n)) :=
  shl_l0 m n hn hm _ 0 (by omega) rfl

def cmpN (m n : Nat) : Int := if m < n then -1 else if n < m then 1 else 0
theorem div_lt_of {m n p : Nat} (hp : 0 < p) (h : m / p < n / p) : m < n := by
  rcases Nat.lt_or_ge m n with h1 | h1
  · exact h1
  · have := Nat.div_le_div_right (c := p) h1; omega
theorem cmp_loop (m n : Nat) (i : Nat) : i < 1000000000000 → m / 4294967296 ^ i = n / 4294967296 ^ i → Ev (fun k => r1_Cmp.l0 k ((i : Int) - 1) (dg m) (dg n)) (cmpN m n) := by
  induction i with
  | zero =>
    intro hi h
    simp at h
    subst h
    refine Ev.step (fun _ => r1_Cmp.l0.eq_2 ..) ?_
    refine Ev.neg (by omega) (Ev.out ?_)
    simp [cmpN]
  | succ i ih =>
    intro hi h
    refine Ev.step (fun _ => r1_Cmp.l0.eq_2 ..) ?_
    rw [show ((i + 1 : Nat) : Int) - 1 = i by omega]
    refine Ev.pos (by omega) (Ev.bs (at_dg m i) (Ev.bs (at_dg n i) ?_))
    have s1 := div_step m i
    have s2 := div_step n i
    rw [h] at s1
    have hp : 0 < 4294967296 ^ i := Nat.pow_pos (by decide)
    by_cases h1 : m / 4294967296 ^ i % 4294967296 < n / 4294967296 ^ i % 4294967296
    · refine Ev.pos (Int.ofNat_lt.2 h1) (Ev.out ?_)
      rw [cmpN, if_pos (div_lt_of hp (by omega))]
    · refine Ev.neg (fun h' => h1 (Int.ofNat_lt.1 h')) ?_
      by_cases h2 : n / 4294967296 ^ i % 4294967296 < m / 4294967296 ^ i % 4294967296
      · refine Ev.pos (Int.ofNat_lt.2 h2) (Ev.out ?_)
        have := div_lt_of hp (show n / 4294967296 ^ i < m / 4294967296 ^ i by omega)
        rw [cmpN, if_neg (by omega), if_pos this]
      · refine Ev.neg (fun h' => h2 (Int.ofNat_lt.1 h')) ?_
        rw [w64_id (by omega) (by omega)]
        exact ih (by omega) (by omega)
theorem cmp_dg (m n : Nat) (hm : (dg m).length < 100000000000) (hn : (dg n).length < 100000000000) : Ev (fun k => r1_Cmp.f k (dg m) (dg n)) (cmpN m n) := by
  unfold r1_Cmp.f
  have hmx : mx ((dg m).length : Int) ((dg n).length : Int) = ((max (dg m).length (dg n).length : Nat) : Int) := by unfold mx; split <;> omega
  rw [hmx, w64_id (by omega) (by omega)]
  refine cmp_loop m n _ (by omega) ?_
  rw [Nat.div_eq_of_lt (lt_of_len (by omega)), Nat.div_eq_of_lt (lt_of_len (by omega))]


def bl (n : Nat) : Nat := if n = 0 then 0 else n.log2 + 1
theorem bl_zero : bl 0 = 0 := rfl
theorem bl_half {n : Nat} (h : 0 < n) : bl n = bl (n / 2) + 1 := by
  unfold bl
  rw [if_neg (by omega)]
  by_cases h2 : n < 2
  · obtain rfl : n = 1 := by omega
    rfl
  · rw [if_neg (by omega), Nat.log2_def, if_pos (by omega)]
theorem bl_le {n k : Nat} : bl n ≤ k ↔ n < 2 ^ k := by
  unfold bl
  split
  · subst_vars; simp [Nat.pow_pos]
  · rw [← Nat.log2_lt ‹_›]; omega
theorem lt_bl {n k : Nat} : k < bl n ↔ 2 ^ k ≤ n := by
  have := @bl_le n k; omega
theorem bl_shift (n k : Nat) (h : 0 < n) : bl (n * 2 ^ k) = bl n + k := by
  refine Nat.le_antisymm ?_ ?_
  · rw [bl_le, Nat.pow_add]
    exact Nat.mul_lt_mul_of_pos_right (bl_le.1 (Nat.le_refl _)) (Nat.pow_pos (by decide))
  · have h1 : 2 ^ (bl n - 1) ≤ n := lt_bl.1 (by have := (lt_bl (n := n) (k := 0)).2 (by rw [Nat.pow_zero]; omega); omega)
    have h0 : 0 < bl n := (lt_bl (n := n) (k := 0)).2 (by rw [Nat.pow_zero]; omega)
    have h2 : bl n + k - 1 < bl (n * 2 ^ k) := by
      rw [lt_bl, show bl n + k - 1 = (bl n - 1) + k by omega, Nat.pow_add]
      exact Nat.mul_le_mul_right _ h1
    omega
theorem bl_add_low (a b k : Nat) (ha : 0 < a) (hb : b < 2 ^ k) : bl (a * 2 ^ k + b) = bl a + k := by
  refine Nat.le_antisymm ?_ ?_
  · rw [bl_le, Nat.pow_add]
    have h1 : a + 1 ≤ 2 ^ bl a := bl_le.1 (Nat.le_refl _)
    have h2 := Nat.mul_le_mul_right (2 ^ k) h1
    rw [Nat.add_mul] at h2
    omega
  · rw [← bl_shift a k ha]
    have h0 : 0 < bl (a * 2 ^ k) := (lt_bl (n := a * 2 ^ k) (k := 0)).2 (by rw [Nat.pow_zero]; exact Nat.mul_pos ha (Nat.pow_pos (by decide)))
    have h1 : bl (a * 2 ^ k) - 1 < bl (a * 2 ^ k + b) := by
      rw [lt_bl]
      have : 2 ^ (bl (a * 2 ^ k) - 1) ≤ a * 2 ^ k := lt_bl.1 (by omega)
      omega
    omega
theorem lt_two_bl (n : Nat) : n < 2 ^ bl n := bl_le.1 (Nat.le_refl _)
theorem bl_pos {n : Nat} : 0 < bl n ↔ 0 < n := by
  have := (lt_bl (n := n) (k := 0)); rw [Nat.pow_zero] at this; omega
theorem two_bl_le {n : Nat} (h : 0 < n) : 2 ^ (bl n - 1) ≤ n := lt_bl.1 (by have := bl_pos.2 h; omega)
theorem bl_shl (m k : Nat) : bl (m * 2 ^ k) ≤ bl m + k := by
  rw [bl_le, Nat.pow_add]
  exact Nat.mul_lt_mul_of_pos_right (lt_two_bl m) (Nat.pow_pos (by decide))
theorem pow32 (k : Nat) : (4294967296 : Nat) ^ k = 2 ^ (32 * k) := by
  rw [show (4294967296 : Nat) = 2 ^ 32 by decide, ← Nat.pow_mul]
theorem len_bl (n : Nat) : (dg n).length ≤ bl n / 32 + 1 := by
  refine len_le ?_
  rw [pow32]
  exact bl_le.1 (by omega)
theorem shl_bl (m n : Nat) (hn : n < 30000000000) (hm : bl m < 1000000000) : Ev (fun k => r1_Shl.f k (dg m) n) (dg (m * 2 ^ n)) := shl_dg m n hn (by have := len_bl m; omega)
theorem cmp_bl (m n : Nat) (hm : bl m < 1000000000) (hn : bl n < 1000000000) : Ev (fun k => r1_Cmp.f k (dg m) (dg n)) (cmpN m n) := cmp_dg m n (by have := len_bl m; omega) (by have := len_bl n; omega)
theorem bl64 {n : Nat} (h : n < 18446744073709551616) : bl n ≤ 64 := bl_le.2 h

end Go.Proofs.Ythdeeoallfbjmaa.Th
end
section
set_option linter.unusedVariables false
set_option linter.unusedSimpArgs false
namespace Go.Proofs.Ythdeeoallfbjmaa.Th
open Flo
def pkc (F : Fmt) (S : Nat) (e : Int) (m : Nat) : Nat :=
  if (bl S : Int) - F.f - 1 ≤ 0 ∧ F.low - e ≤ 0 then F.fin (e - (min ((F.f : Int) + 1 - bl S) (e - F.low)).toNat - F.low).toNat (S * 2 ^ (min ((F.f : Int) + 1 - bl S) (e - F.low)).toNat)
  else F.fin (e + max ((bl S : Int) - F.f - 1) (F.low - e) - F.low).toNat (rne (2 * S + m) (2 ^ ((max ((bl S : Int) - F.f - 1) (F.low - e)).toNat + 1)))
def pkm (F : Fmt) (S : Nat) (e : Int) (m : Bool) : Nat :=
  if S = 0 ∧ m = false then 0 else if 1048576 < e then F.inf else if e < -1048576 then 0 else
  if m = true ∧ bl S < 127 then pkc F (2 * S + 1) (e - 1) 0 else pkc F S e (if m then 1 else 0)
def pkx (S : Nat) (e : Int) (m : Bool) : Rat := ((2 * S + (if m then 1 else 0) : Nat) : Rat) * tw (e - 1)
theorem dbl (S : Nat) (e : Int) : ((2 * S + 0 : Nat) : Rat) * tw (e - 1) = (S : Rat) * tw e := by
  rw [tw_pred e]; push_cast; grind
theorem pkc_dn (F : Fmt) {S m : Nat} {e : Int} (hm : m ≤ 1) (hS : 0 < S) (h : ¬ ((bl S : Int) - F.f - 1 ≤ 0 ∧ F.low - e ≤ 0)) :
    ∃ q n j : Nat, (j : Int) + 1 = max ((bl S : Int) - F.f - 1) (F.low - e) ∧ (q : Int) = e + (j + 1 : Nat) - F.low ∧ n = rne (2 * S + m) (2 ^ (j + 2)) ∧ pkc F S e m = F.fin q n ∧
    F.Rnd (F.Up (((2 * S + m : Nat) : Rat) * tw (e - 1))) (F.fin q n) ∧ n ≤ 2 ^ (F.f + 1) ∧ (0 < q → 2 ^ F.f ≤ n) := by
  have h1 := two_bl_le hS
  have h2 := lt_two_bl S
  have h0 := bl_pos.2 hS
  have h3 : 2 ^ bl S ≤ 2 * S := by
    have : 2 ^ bl S = 2 ^ (bl S - 1) * 2 := by rw [← Nat.pow_succ]; congr 1; omega
    omega
  obtain ⟨j, hj⟩ : ∃ j : Nat, (j : Int) + 1 = max ((bl S : Int) - F.f - 1) (F.low - e) := ⟨(max ((bl S : Int) - F.f - 1) (F.low - e) - 1).toNat, by omega⟩
  obtain ⟨q, hq⟩ : ∃ q : Nat, (q : Int) = e + (j + 1 : Nat) - F.low := ⟨(e + (j + 1 : Nat) - F.low).toNat, by omega⟩
  have P := Fmt.Rnd.pack_dn F (S := S) (la := bl S) (j := j) (m := m) (e := e) (q := q) hm h3 h2 (by omega) hq
  refine ⟨q, _, j, hj, hq, rfl, ?_, P.1, P.2.1, P.2.2⟩
  unfold pkc
  rw [if_neg h, ← hj, show ((j : Int) + 1).toNat + 1 = j + 2 by omega, show (e + ((j : Int) + 1) - F.low).toNat = q by omega]
theorem pkc_up (F : Fmt) {S : Nat} {e : Int} (hS : 0 < S) (h : (bl S : Int) - F.f - 1 ≤ 0 ∧ F.low - e ≤ 0) :
    ∃ q u : Nat, (u : Int) = min ((F.f : Int) + 1 - bl S) (e - F.low) ∧ (q : Int) = e - u - F.low ∧ pkc F S e 0 = F.fin q (S * 2 ^ u) ∧
    F.Rnd (F.Up (((2 * S + 0 : Nat) : Rat) * tw (e - 1))) (F.fin q (S * 2 ^ u)) ∧ S * 2 ^ u ≤ 2 ^ (F.f + 1) ∧ (0 < q → 2 ^ F.f ≤ S * 2 ^ u) := by
  have h1 := two_bl_le hS
  have h2 := lt_two_bl S
  have h0 := bl_pos.2 hS
  have h3 : 2 ^ bl S ≤ 2 * S := by
    have : 2 ^ bl S = 2 ^ (bl S - 1) * 2 := by rw [← Nat.pow_succ]; congr 1; omega
    omega
  obtain ⟨u, hu⟩ : ∃ u : Nat, (u : Int) = min ((F.f : Int) + 1 - bl S) (e - F.low) := ⟨(min ((F.f : Int) + 1 - bl S) (e - F.low)).toNat, by omega⟩
  obtain ⟨q, hq⟩ : ∃ q : Nat, (q : Int) = e - u - F.low := ⟨(e - u - F.low).toNat, by omega⟩
  have P := Fmt.Rnd.pack_up F (S := S) (la := bl S) (e := e) (u := u) (q := q) h3 h2 (by omega) (by omega) hu hq
  refine ⟨q, u, hu, hq, ?_, by rw [dbl]; exact P.1, P.2.1, P.2.2⟩
  unfold pkc
  rw [if_pos h, ← hu, show ((u : Nat) : Int).toNat = u by omega, show (e - (u : Int) - F.low).toNat = q by omega]
theorem pkc_rnd (F : Fmt) {S m : Nat} {e : Int} (hm : m ≤ 1) (hS : 0 < S) (hb : m = 1 → F.f + 1 < bl S) : F.Rnd (F.Up (((2 * S + m : Nat) : Rat) * tw (e - 1))) (pkc F S e m) := by
  by_cases h : (bl S : Int) - F.f - 1 ≤ 0 ∧ F.low - e ≤ 0
  · obtain rfl : m = 0 := by
      rcases (show m = 0 ∨ m = 1 by omega) with h1 | h1
      · exact h1
      · have := hb h1; omega
    obtain ⟨q, u, _, _, e1, P, _⟩ := pkc_up F hS h
    rw [e1]; exact P
  · obtain ⟨q, n, j, _, _, _, e1, P, _⟩ := pkc_dn F hm hS h
    rw [e1]; exact P
theorem pkm_rnd (F : Fmt) (hF : F.f < 100) (hl : -5000 < F.low ∧ F.low < 0) (ht : F.top < 5000) (S : Nat) (e : Int) (m : Bool) (hS : S < 340282366920938463463374607431768211456) : F.rnd (pkx S e m) = pkm F S e m := by
  unfold pkm
  by_cases h0 : S = 0 ∧ m = false
  · rw [if_pos h0]
    obtain ⟨rfl, rfl⟩ := h0
    unfold pkx
    simp only [Bool.false_eq_true, if_false, Nat.mul_zero, Nat.add_zero]
    rw [show ((0 : Nat) : Rat) * tw (e - 1) = 0 by simp, Fmt.rnd_zero]
  rw [if_neg h0]
  have hpos : 1 ≤ 2 * S + (if m then 1 else 0) := by
    cases m
    · have : S ≠ 0 := fun h => h0 ⟨h, rfl⟩
      simp; omega
    · simp
  have hle : 2 * S + (if m then 1 else 0) < 2 ^ 129 := by
    rw [show (2 : Nat) ^ 129 = 680564733841876926926749214863536422912 by decide]; cases m <;> simp <;> omega
  by_cases h1 : 1048576 < e
  · rw [if_pos h1]
    refine F.rnd_inf ?_
    rw [F.val_inf]
    have h2 : ((1 : Nat) : Rat) ≤ ((2 * S + (if m then 1 else 0) : Nat) : Rat) := nat_le.2 hpos
    have h3 := mul_le h2 (tw_pos (e - 1))
    have h4 : tw (F.top - 1 + F.low + F.f) ≤ tw (e - 1) := tw_le (by omega)
    unfold pkx
    have h5 : ((1 : Nat) : Rat) * tw (e - 1) = tw (e - 1) := by simp
    rw [h5] at h3
    exact Rat.le_trans h4 h3
  rw [if_neg h1]
  by_cases h2 : e < -1048576
  · rw [if_pos h2]
    refine F.rnd_of (Fmt.Rnd.tiny F ?_)
    have h3 : ((2 * S + (if m then 1 else 0) : Nat) : Rat) < ((2 ^ 129 : Nat) : Rat) := nat_lt.2 hle
    have h4 := mul_lt h3 (tw_pos (e - 1))
    rw [← tw_nat, ← tw_add] at h4
    have h5 : tw ((129 : Nat) + (e - 1)) ≤ tw (F.low - 1) := tw_le (by omega)
    unfold pkx
    grind
  rw [if_neg h2]
  by_cases h3 : m = true ∧ bl S < 127
  · rw [if_pos h3]
    obtain ⟨rfl, h4⟩ := h3
    have := pkc_rnd F (S := 2 * S + 1) (m := 0) (e := e - 1) (by decide) (by omega) (by omega)
    refine F.rnd_of ?_
    unfold pkx
    rw [dbl] at this
    simpa using this
  · rw [if_neg h3]
    refine F.rnd_of ?_
    unfold pkx
    cases m
    · exact pkc_rnd F (by decide) (by have : S ≠ 0 := fun h => h0 ⟨h, rfl⟩; omega) (by simp)
    · have h4 : 127 ≤ bl S := by
        rcases Nat.lt_or_ge (bl S) 127 with h | h
        · exact absurd ⟨rfl, h⟩ h3
        · exact h
      exact pkc_rnd F (by decide) (bl_pos.1 (by omega)) (fun _ => by omega)
theorem pkx_f (S : Nat) (e : Int) : pkx S e false = (S : Rat) * tw e := by
  unfold pkx
  simp only [Bool.false_eq_true, if_false]
  exact dbl S e
theorem rnd_more (F : Fmt) {x : Rat} {S : Nat} {e : Int} (h1 : (S : Rat) * tw e < x) (h2 : x < ((S + 1 : Nat) : Rat) * tw e) (hS : 2 ^ (F.f + 1) ≤ S) : F.rnd x = F.rnd (pkx S e true) := by
  refine F.rnd_of (Fmt.Rnd.between F (S := S) (e := e) ?_ h1 h2 (.inl hS))
  have := F.rnd_spec (pkx S e true)
  unfold pkx at *
  simpa using this
end Go.Proofs.Ythdeeoallfbjmaa.Th
end
section
set_option linter.unusedVariables false
set_option linter.unusedSimpArgs false
namespace Go.Proofs.Ythdeeoallfbjmaa.Th
open Go.RowKit Go.Proofs.YthdeeoallfbjmaaW.PrintWords Go.Proofs.YthdeeoallfbjmaaW.PrintLast Go.Proofs.YthdeeoallfbjmaaW.PrintMore Go.Proofs.Ythdeeoallfbjmaa.PA Bit Flo
def f32 : Fmt := ⟨23, -149, 255, by decide, by decide⟩
def f64 : Fmt := ⟨52, -1074, 2047, by decide, by decide⟩
def fmt (w : Int) : Fmt := if w = 32 then f32 else f64
theorem fmt32 : fmt 32 = f32 := rfl
theorem fmt64 : fmt 64 = f64 := rfl
def opn (w : Int) (a : Nat) : Bool × Int × Int × Int :=
  let F := fmt w
  let m := magN w a
  if m = 0 then (sgB w a, 0, 0, 0) else if m < F.inf then (sgB w a, 1, F.ex m, (F.sg m : Int)) else if m = F.inf then (sgB w a, 2, 0, 0) else (false, 3, 0, 0)

theorem ones32 : shape_format_ones.f 8 23 = some 255 := by decide +kernel
theorem low32 : shape_format_low.f 8 23 = some (-149) := by decide +kernel
theorem inf32 : f32.inf = 2139095040 := by decide
theorem sg32 (m : Nat) : f32.sg m = if m < 8388608 then m else 8388608 + m % 8388608 := by
  unfold Fmt.sg; rw [show (2 : Nat) ^ f32.f = 8388608 by decide]
theorem ex32 (m : Nat) : f32.ex m = if m < 8388608 then (-149 : Int) else ((m / 8388608 : Nat) : Int) - 1 + (-149) := by
  unfold Fmt.ex; rw [show (2 : Nat) ^ f32.f = 8388608 by decide]; rfl
theorem opn32 (a : Nat) : opn 32 a = if a % 2147483648 = 0 then (decide (a / 2147483648 % 2 = 1), 0, 0, 0) else if a % 2147483648 < 2139095040 then (decide (a / 2147483648 % 2 = 1), 1, (if a % 2147483648 < 8388608 then (-149 : Int) else ((a % 2147483648 / 8388608 : Nat) : Int) - 1 + (-149)), ((if a % 2147483648 < 8388608 then a % 2147483648 else 8388608 + a % 2147483648 % 8388608 : Nat) : Int))
    else if a % 2147483648 = 2139095040 then (decide (a / 2147483648 % 2 = 1), 2, 0, 0) else (false, 3, 0, 0) := by
  unfold opn
  simp only [show fmt 32 = f32 from rfl, inf32, sg32, ex32, magN, sgB, show sb 32 = 2147483648 by decide]
theorem split32 (a : Nat) (ha : a < 18446744073709551616) : shape_format_split.f 8 23 a = some (8, 23, decide (a / 2147483648 % 2 = 1), ((a / 8388608 % 256 : Nat) : Int), ((a % 8388608 : Nat) : Int)) := by
  unfold shape_format_split.f
  rw [show wrap64 (8 + 23) = 31 by decide +kernel, if_pos (by decide), if_pos (by decide), ones32, Option.bind_some]
  have e1 : shr .u64 (a : Int) 31 = ((a / 2147483648 : Nat) : Int) := by
    unfold shr; rw [show min (31 : Int).toNat IntKind.u64.bits = 31 by decide, show (2 : Int) ^ 31 = 2147483648 by decide]; omega
  have e2 : shr .u64 (a : Int) 23 = ((a / 8388608 : Nat) : Int) := by
    unfold shr; rw [show min (23 : Int).toNat IntKind.u64.bits = 23 by decide, show (2 : Int) ^ 23 = 8388608 by decide]; omega
  have e3 : IntKind.u64.wrap ((shl .u64 1 23) - 1) = ((8388607 : Nat) : Int) := by decide +kernel
  rw [e1, e2, e3, show (1 : Int) = ((1 : Nat) : Int) from rfl, show (255 : Int) = ((255 : Nat) : Int) from rfl,
    u64_and_nat _ 1 (by omega) (by decide), u64_and_nat _ 255 (by omega) (by decide), u64_and_nat a 8388607 ha (by decide)]
  have h1 := and_low (a / 2147483648) 1
  have h2 := and_low (a / 8388608) 8
  have h3 := and_low a 23
  rw [show (2 : Nat) ^ 1 - 1 = 1 by decide, show (2 : Nat) ^ 1 = 2 by decide] at h1
  rw [show (2 : Nat) ^ 8 - 1 = 255 by decide, show (2 : Nat) ^ 8 = 256 by decide] at h2
  rw [show (2 : Nat) ^ 23 - 1 = 8388607 by decide, show (2 : Nat) ^ 23 = 8388608 by decide] at h3
  rw [h1, h2, h3]
  have hb : ((((a / 2147483648 % 2 : Nat) : Int) == ((1 : Nat) : Int)) : Bool) = decide (a / 2147483648 % 2 = 1) := by
    rw [Bool.eq_iff_iff]; simp; omega
  rw [hb]
theorem open32 (a : Nat) (ha : a < 18446744073709551616) : Ev (fun k => shape_Open.f k 32 a) (opn 32 a) := by
  rw [opn32]
  unfold shape_Open.f
  refine Ev.bs (show shape_of.f 32 = some (8, 23, true) by decide) (Ev.pos rfl (Ev.bs (split32 a ha) (Ev.bs ones32 ?_)))
  simp only
  have hP : a % 2147483648 % 8388608 = a % 8388608 := by omega
  have hQ : a % 2147483648 / 8388608 = a / 8388608 % 256 := by omega
  have hT : a / 8388608 % 256 < 256 := Nat.mod_lt _ (by decide)
  have hE : a % 2147483648 = a / 8388608 % 256 * 8388608 + a % 8388608 := by omega
  rw [hP, hQ, hE]
  generalize a / 8388608 % 256 = e at *
  have hF : a % 8388608 < 8388608 := Nat.mod_lt _ (by decide)
  generalize a % 8388608 = fr at *
  generalize decide (a / 2147483648 % 2 = 1) = s
  by_cases h1 : e = 255
  · subst h1
    refine Ev.pos rfl ?_
    refine Ev.step (fun _ => shape_Open.j0.eq_2 ..) ?_
    by_cases h2 : fr = 0
    · subst h2
      refine Ev.neg (by decide) (Ev.bs ones32 (Ev.pos rfl (Ev.out ?_)))
      rw [if_neg (by omega), if_neg (by omega), if_pos (by omega)]
    · refine Ev.pos (by simp; omega) (Ev.out ?_)
      rw [if_neg (by omega), if_neg (by omega), if_neg (by omega)]
  · refine Ev.neg (by omega) ?_
    refine Ev.step (fun _ => shape_Open.j0.eq_2 ..) ?_
    refine Ev.neg (by decide) (Ev.bs ones32 (Ev.neg (by omega) ?_))
    by_cases h2 : e = 0
    · subst h2
      refine Ev.pos rfl (Ev.step (fun _ => shape_Open.j1.eq_2 ..) ?_)
      by_cases h3 : fr = 0
      · subst h3
        refine Ev.pos (by decide) (Ev.out ?_)
        rw [Nat.zero_mul, Nat.zero_add, if_pos rfl]
      · refine Ev.neg (by simp; omega) (Ev.pos rfl (Ev.bs low32 (Ev.out ?_)))
        rw [if_neg (by omega), if_pos (by omega), if_pos (by omega), if_pos (by omega)]
        simp
    · refine Ev.neg (by omega) (Ev.step (fun _ => shape_Open.j1.eq_2 ..) ?_)
      refine Ev.neg (by decide) (Ev.neg (by omega) (Ev.bs low32 (Ev.pos (by decide) (Ev.out ?_))))
      rw [if_neg (by omega), if_pos (by omega), if_neg (by omega), if_neg (by omega)]
      rw [w64_id (n := ((e : Nat) : Int)) (by omega) (by omega), w64_id (n := (-149 : Int) + _) (by omega) (by omega), w64_id (by omega) (by omega)]
      have e4 : shl .u64 1 23 = ((8388608 : Nat) : Int) := by decide +kernel
      rw [e4, u64_or_nat _ _ (by decide) (by omega)]
      have h4 := or_pow fr 1 23 (by rw [show (2 : Nat) ^ 23 = 8388608 by decide]; exact hF)
      rw [Nat.one_mul, show (2 : Nat) ^ 23 = 8388608 by decide, Nat.or_comm] at h4
      rw [h4, Nat.add_comm fr]
      congr 2
      congr 1
      omega

theorem ones64 : shape_format_ones.f 11 52 = some 2047 := by decide +kernel
theorem low64 : shape_format_low.f 11 52 = some (-1074) := by decide +kernel
theorem inf64 : f64.inf = 9218868437227405312 := by decide
theorem sg64 (m : Nat) : f64.sg m = if m < 4503599627370496 then m else 4503599627370496 + m % 4503599627370496 := by
  unfold Fmt.sg; rw [show (2 : Nat) ^ f64.f = 4503599627370496 by decide]
theorem ex64 (m : Nat) : f64.ex m = if m < 4503599627370496 then (-1074 : Int) else ((m / 4503599627370496 : Nat) : Int) - 1 + (-1074) := by
  unfold Fmt.ex; rw [show (2 : Nat) ^ f64.f = 4503599627370496 by decide]; rfl
theorem opn64 (a : Nat) : opn 64 a = if a % 9223372036854775808 = 0 then (decide (a / 9223372036854775808 % 2 = 1), 0, 0, 0) else if a % 9223372036854775808 < 9218868437227405312 then (decide (a / 9223372036854775808 % 2 = 1), 1, (if a % 9223372036854775808 < 4503599627370496 then (-1074 : Int) else ((a % 9223372036854775808 / 4503599627370496 : Nat) : Int) - 1 + (-1074)), ((if a % 9223372036854775808 < 4503599627370496 then a % 9223372036854775808 else 4503599627370496 + a % 9223372036854775808 % 4503599627370496 : Nat) : Int))
    else if a % 9223372036854775808 = 9218868437227405312 then (decide (a / 9223372036854775808 % 2 = 1), 2, 0, 0) else (false, 3, 0, 0) := by
  unfold opn
  simp only [show fmt 64 = f64 from rfl, inf64, sg64, ex64, magN, sgB, show sb 64 = 9223372036854775808 by decide]
theorem split64 (a : Nat) (ha : a < 18446744073709551616) : shape_format_split.f 11 52 a = some (11, 52, decide (a / 9223372036854775808 % 2 = 1), ((a / 4503599627370496 % 2048 : Nat) : Int), ((a % 4503599627370496 : Nat) : Int)) := by
  unfold shape_format_split.f
  rw [show wrap64 (11 + 52) = 63 by decide +kernel, if_pos (by decide), if_pos (by decide), ones64, Option.bind_some]
  have e1 : shr .u64 (a : Int) 63 = ((a / 9223372036854775808 : Nat) : Int) := by
    unfold shr; rw [show min (63 : Int).toNat IntKind.u64.bits = 63 by decide, show (2 : Int) ^ 63 = 9223372036854775808 by decide]; omega
  have e2 : shr .u64 (a : Int) 52 = ((a / 4503599627370496 : Nat) : Int) := by
    unfold shr; rw [show min (52 : Int).toNat IntKind.u64.bits = 52 by decide, show (2 : Int) ^ 52 = 4503599627370496 by decide]; omega
  have e3 : IntKind.u64.wrap ((shl .u64 1 52) - 1) = ((4503599627370495 : Nat) : Int) := by decide +kernel
  rw [e1, e2, e3, show (1 : Int) = ((1 : Nat) : Int) from rfl, show (2047 : Int) = ((2047 : Nat) : Int) from rfl,
    u64_and_nat _ 1 (by omega) (by decide), u64_and_nat _ 2047 (by omega) (by decide), u64_and_nat a 4503599627370495 ha (by decide)]
  have h1 := and_low (a / 9223372036854775808) 1
  have h2 := and_low (a / 4503599627370496) 11
  have h3 := and_low a 52
  rw [show (2 : Nat) ^ 1 - 1 = 1 by decide, show (2 : Nat) ^ 1 = 2 by decide] at h1
  rw [show (2 : Nat) ^ 11 - 1 = 2047 by decide, show (2 : Nat) ^ 11 = 2048 by decide] at h2
  rw [show (2 : Nat) ^ 52 - 1 = 4503599627370495 by decide, show (2 : Nat) ^ 52 = 4503599627370496 by decide] at h3
  rw [h1, h2, h3]
  have hb : ((((a / 9223372036854775808 % 2 : Nat) : Int) == ((1 : Nat) : Int)) : Bool) = decide (a / 9223372036854775808 % 2 = 1) := by
    rw [Bool.eq_iff_iff]; simp; omega
  rw [hb]
theorem open64 (a : Nat) (ha : a < 18446744073709551616) : Ev (fun k => shape_Open.f k 64 a) (opn 64 a) := by
  rw [opn64]
  unfold shape_Open.f
  refine Ev.bs (show shape_of.f 64 = some (11, 52, true) by decide) (Ev.pos rfl (Ev.bs (split64 a ha) (Ev.bs ones64 ?_)))
  simp only
  have hP : a % 9223372036854775808 % 4503599627370496 = a % 4503599627370496 := by omega
  have hQ : a % 9223372036854775808 / 4503599627370496 = a / 4503599627370496 % 2048 := by omega
  have hT : a / 4503599627370496 % 2048 < 2048 := Nat.mod_lt _ (by decide)
  have hE : a % 9223372036854775808 = a / 4503599627370496 % 2048 * 4503599627370496 + a % 4503599627370496 := by omega
  rw [hP, hQ, hE]
  generalize a / 4503599627370496 % 2048 = e at *
  have hF : a % 4503599627370496 < 4503599627370496 := Nat.mod_lt _ (by decide)
  generalize a % 4503599627370496 = fr at *
  generalize decide (a / 9223372036854775808 % 2 = 1) = s
  by_cases h1 : e = 2047
  · subst h1
    refine Ev.pos rfl ?_
    refine Ev.step (fun _ => shape_Open.j0.eq_2 ..) ?_
    by_cases h2 : fr = 0
    · subst h2
      refine Ev.neg (by decide) (Ev.bs ones64 (Ev.pos rfl (Ev.out ?_)))
      rw [if_neg (by omega), if_neg (by omega), if_pos (by omega)]
    · refine Ev.pos (by simp; omega) (Ev.out ?_)
      rw [if_neg (by omega), if_neg (by omega), if_neg (by omega)]
  · refine Ev.neg (by omega) ?_
    refine Ev.step (fun _ => shape_Open.j0.eq_2 ..) ?_
    refine Ev.neg (by decide) (Ev.bs ones64 (Ev.neg (by omega) ?_))
    by_cases h2 : e = 0
    · subst h2
      refine Ev.pos rfl (Ev.step (fun _ => shape_Open.j1.eq_2 ..) ?_)
      by_cases h3 : fr = 0
      · subst h3
        refine Ev.pos (by decide) (Ev.out ?_)
        rw [Nat.zero_mul, Nat.zero_add, if_pos rfl]
      · refine Ev.neg (by simp; omega) (Ev.pos rfl (Ev.bs low64 (Ev.out ?_)))
        rw [if_neg (by omega), if_pos (by omega), if_pos (by omega), if_pos (by omega)]
        simp
    · refine Ev.neg (by omega) (Ev.step (fun _ => shape_Open.j1.eq_2 ..) ?_)
      refine Ev.neg (by decide) (Ev.neg (by omega) (Ev.bs low64 (Ev.pos (by decide) (Ev.out ?_))))
      rw [if_neg (by omega), if_pos (by omega), if_neg (by omega), if_neg (by omega)]
      rw [w64_id (n := ((e : Nat) : Int)) (by omega) (by omega), w64_id (n := (-1074 : Int) + _) (by omega) (by omega), w64_id (by omega) (by omega)]
      have e4 : shl .u64 1 52 = ((4503599627370496 : Nat) : Int) := by decide +kernel
      rw [e4, u64_or_nat _ _ (by decide) (by omega)]
      have h4 := or_pow fr 1 52 (by rw [show (2 : Nat) ^ 52 = 4503599627370496 by decide]; exact hF)
      rw [Nat.one_mul, show (2 : Nat) ^ 52 = 4503599627370496 by decide, Nat.or_comm] at h4
      rw [h4, Nat.add_comm fr]
      congr 2
      congr 1
      omega

theorem openS (w : Int) (hw : w = 32 ∨ w = 64) (a : Nat) (ha : a < 18446744073709551616) : Ev (fun k => shape_Open.f k w a) (opn w a) := by
  rcases hw with rfl | rfl
  · exact open32 a ha
  · exact open64 a ha
def nanN (w : Int) : Nat := if w = 32 then 2143289344 else 9221120237041090560

theorem join32 (s : Bool) (e fr : Nat) (he : e ≤ 255) (hf : fr < 8388608) : shape_format_join.f 8 23 s e fr = some ((mkN 32 (e * 8388608 + fr) s : Nat) : Int) := by
  unfold shape_format_join.f
  have hs : shape_format_sign.f 8 23 s = some ((((if s then 1 else 0) * 2 ^ 31 : Nat) : Int)) := by cases s <;> decide +kernel
  rw [hs, Option.bind_some, if_pos (by decide)]
  have e1 : shl .u64 (e : Int) 23 = ((e * 8388608 : Nat) : Int) := by
    unfold shl; rw [show min (23 : Int).toNat IntKind.u64.bits = 23 by decide, show (2 : Int) ^ 23 = 8388608 by decide, IntKind.wrap_u64]; omega
  rw [e1]
  have hc : (if s then 1 else 0) ≤ 1 := by cases s <;> decide
  have h2 : mkN 32 (e * 8388608 + fr) s = e * 8388608 + fr + (if s then 1 else 0) * 2147483648 := by
    unfold mkN; rw [show sb 32 = 2147483648 by decide]; cases s <;> simp
  rw [h2]
  generalize (if s then 1 else 0) = c at *
  rw [show (2 : Nat) ^ 31 = 2147483648 by decide, u64_or_nat _ _ (by omega) (by omega)]
  have h3 := or_pow (e * 8388608) c 31 (by rw [show (2 : Nat) ^ 31 = 2147483648 by decide]; omega)
  rw [show (2 : Nat) ^ 31 = 2147483648 by decide, Nat.or_comm] at h3
  rw [h3, u64_or_nat _ _ (by omega) (by omega)]
  have h4 := or_pow fr (e + c * 256) 23 (by rw [show (2 : Nat) ^ 23 = 8388608 by decide]; exact hf)
  rw [show (2 : Nat) ^ 23 = 8388608 by decide, Nat.or_comm, show (e + c * 256) * 8388608 = e * 8388608 + c * 2147483648 by omega] at h4
  rw [h4]
  congr 2
  omega
theorem shNan32 : shape_Nan.f 32 = some ((nanN 32 : Nat) : Int) := by
  unfold shape_Nan.f
  rw [show shape_of.f 32 = some (8, 23, true) by decide, Option.bind_some, if_pos rfl, ones32, Option.bind_some, if_pos (by decide +kernel)]
  have e1 : shl .u64 1 (wrap64 (23 - 1)) = ((4194304 : Nat) : Int) := by decide +kernel
  have e2 := join32 false 255 4194304 (by decide) (by decide)
  simp only [e1]
  rw [show (255 : Int) = ((255 : Nat) : Int) from rfl, e2, Option.bind_some]
  decide
theorem shInf32 (s : Bool) : shape_Inf.f 32 s = some ((mkN 32 f32.inf s : Nat) : Int) := by
  unfold shape_Inf.f
  rw [show shape_of.f 32 = some (8, 23, true) by decide, Option.bind_some, if_pos rfl, ones32, Option.bind_some]
  have e2 := join32 s 255 0 (by decide) (by decide)
  simp only
  rw [show (255 : Int) = ((255 : Nat) : Int) from rfl, show (0 : Int) = ((0 : Nat) : Int) from rfl, e2, Option.bind_some, inf32]
theorem shZero32 (s : Bool) : shape_Zero.f 32 s = some ((mkN 32 0 s : Nat) : Int) := by
  cases s <;> decide +kernel
theorem fin32 (s : Bool) (kd : Int) (m : Nat) (h0 : 0 < m) (hm : m < f32.inf) : Ev (fun k => shape_format_finite.f k 8 23 s kd (f32.ex m) (f32.sg m : Nat)) (((mkN 32 m s : Nat) : Int), true) := by
  rw [inf32] at hm
  rw [sg32, ex32]
  unfold shape_format_finite.f
  have e2 : shl .u64 2 23 = ((16777216 : Nat) : Int) := by decide +kernel
  have e3 : shl .u64 1 23 = ((8388608 : Nat) : Int) := by decide +kernel
  have e4 : IntKind.u64.wrap (((8388608 : Nat) : Int) - 1) = ((8388607 : Nat) : Int) := by decide +kernel
  have hmod : m % 8388608 < 8388608 := Nat.mod_lt _ (by decide)
  refine Ev.bs low32 ?_
  by_cases h1 : m < 8388608
  · rw [if_pos h1, if_pos h1]
    refine Ev.neg (by omega) (Ev.pos (by decide) (Ev.neg (by rw [e2]; omega) ?_))
    refine Ev.step (fun _ => shape_format_finite.j0.eq_2 ..) ?_
    refine Ev.neg (by simp) (Ev.pos (by decide) (Ev.pos (by rw [e3]; omega) ?_))
    have h2 := join32 s 0 m (by decide) h1
    rw [Nat.zero_mul, Nat.zero_add] at h2
    exact Ev.bs h2 (Ev.out (by simp))
  · rw [if_neg h1, if_neg h1]
    refine Ev.neg (by omega) (Ev.pos (by decide) (Ev.neg (by rw [e2]; omega) ?_))
    refine Ev.step (fun _ => shape_format_finite.j0.eq_2 ..) ?_
    refine Ev.neg (by simp; omega) (Ev.pos (by decide) (Ev.neg (by rw [e3]; omega) (Ev.bs ones32 ?_)))
    have hq : m / 8388608 ≤ 254 := by omega
    have hq0 : 1 ≤ m / 8388608 := by omega
    have hmm : m = m / 8388608 * 8388608 + m % 8388608 := by omega
    have h2 := join32 s (m / 8388608) (m % 8388608) (by omega) hmod
    rw [← hmm] at h2
    generalize m / 8388608 = e at *
    generalize m % 8388608 = fr at *
    rw [show ((e : Nat) : Int) - 1 + (-149) - (-149) = ((e - 1 : Nat) : Int) by omega, w64_id (n := ((e - 1 : Nat) : Int)) (by omega) (by omega), w64_id (n := (255 : Int)) (by decide) (by decide), show wrap64 ((255 : Int) - 2) = 253 by decide +kernel]
    refine Ev.neg (by omega) ?_
    rw [u64_id (n := ((e - 1 : Nat) : Int)) (by omega) (by omega), u64_id (n := ((e - 1 : Nat) : Int) + 1) (by omega) (by omega), show ((e - 1 : Nat) : Int) + 1 = (e : Int) by omega, e3, e4, u64_and_nat _ _ (by omega) (by decide)]
    have h5 := and_low (8388608 + fr) 23
    rw [show (2 : Nat) ^ 23 - 1 = 8388607 by decide, show (2 : Nat) ^ 23 = 8388608 by decide] at h5
    rw [h5, show (8388608 + fr) % 8388608 = fr by omega]
    exact Ev.bs h2 (Ev.out rfl)
theorem close32 (s : Bool) (m : Nat) (h0 : 0 < m) (hm : m < f32.inf) : Ev (fun k => shape_Close.f k 32 s 1 (f32.ex m) (f32.sg m : Nat)) (((mkN 32 m s : Nat) : Int), 0) := by
  unfold shape_Close.f
  refine Ev.bs (show shape_of.f 32 = some (8, 23, true) by decide) (Ev.pos rfl (Ev.pos rfl (Ev.bind (fin32 s 1 m h0 hm) (Ev.pos rfl (Ev.out rfl)))))
theorem join64 (s : Bool) (e fr : Nat) (he : e ≤ 2047) (hf : fr < 4503599627370496) : shape_format_join.f 11 52 s e fr = some ((mkN 64 (e * 4503599627370496 + fr) s : Nat) : Int) := by
  unfold shape_format_join.f
  have hs : shape_format_sign.f 11 52 s = some ((((if s then 1 else 0) * 2 ^ 63 : Nat) : Int)) := by cases s <;> decide +kernel
  rw [hs, Option.bind_some, if_pos (by decide)]
  have e1 : shl .u64 (e : Int) 52 = ((e * 4503599627370496 : Nat) : Int) := by
    unfold shl; rw [show min (52 : Int).toNat IntKind.u64.bits = 52 by decide, show (2 : Int) ^ 52 = 4503599627370496 by decide, IntKind.wrap_u64]; omega
  rw [e1]
  have hc : (if s then 1 else 0) ≤ 1 := by cases s <;> decide
  have h2 : mkN 64 (e * 4503599627370496 + fr) s = e * 4503599627370496 + fr + (if s then 1 else 0) * 9223372036854775808 := by
    unfold mkN; rw [show sb 64 = 9223372036854775808 by decide]; cases s <;> simp
  rw [h2]
  generalize (if s then 1 else 0) = c at *
  rw [show (2 : Nat) ^ 63 = 9223372036854775808 by decide, u64_or_nat _ _ (by omega) (by omega)]
  have h3 := or_pow (e * 4503599627370496) c 63 (by rw [show (2 : Nat) ^ 63 = 9223372036854775808 by decide]; omega)
  rw [show (2 : Nat) ^ 63 = 9223372036854775808 by decide, Nat.or_comm] at h3
  rw [h3, u64_or_nat _ _ (by omega) (by omega)]
  have h4 := or_pow fr (e + c * 2048) 52 (by rw [show (2 : Nat) ^ 52 = 4503599627370496 by decide]; exact hf)
  rw [show (2 : Nat) ^ 52 = 4503599627370496 by decide, Nat.or_comm, show (e + c * 2048) * 4503599627370496 = e * 4503599627370496 + c * 9223372036854775808 by omega] at h4
  rw [h4]
  congr 2
  omega
theorem shNan64 : shape_Nan.f 64 = some ((nanN 64 : Nat) : Int) := by
  unfold shape_Nan.f
  rw [show shape_of.f 64 = some (11, 52, true) by decide, Option.bind_some, if_pos rfl, ones64, Option.bind_some, if_pos (by decide +kernel)]
  have e1 : shl .u64 1 (wrap64 (52 - 1)) = ((2251799813685248 : Nat) : Int) := by decide +kernel
  have e2 := join64 false 2047 2251799813685248 (by decide) (by decide)
  simp only [e1]
  rw [show (2047 : Int) = ((2047 : Nat) : Int) from rfl, e2, Option.bind_some]
  decide
theorem shInf64 (s : Bool) : shape_Inf.f 64 s = some ((mkN 64 f64.inf s : Nat) : Int) := by
  unfold shape_Inf.f
  rw [show shape_of.f 64 = some (11, 52, true) by decide, Option.bind_some, if_pos rfl, ones64, Option.bind_some]
  have e2 := join64 s 2047 0 (by decide) (by decide)
  simp only
  rw [show (2047 : Int) = ((2047 : Nat) : Int) from rfl, show (0 : Int) = ((0 : Nat) : Int) from rfl, e2, Option.bind_some, inf64]
theorem shZero64 (s : Bool) : shape_Zero.f 64 s = some ((mkN 64 0 s : Nat) : Int) := by
  cases s <;> decide +kernel
theorem fin64 (s : Bool) (kd : Int) (m : Nat) (h0 : 0 < m) (hm : m < f64.inf) : Ev (fun k => shape_format_finite.f k 11 52 s kd (f64.ex m) (f64.sg m : Nat)) (((mkN 64 m s : Nat) : Int), true) := by
  rw [inf64] at hm
  rw [sg64, ex64]
  unfold shape_format_finite.f
  have e2 : shl .u64 2 52 = ((9007199254740992 : Nat) : Int) := by decide +kernel
  have e3 : shl .u64 1 52 = ((4503599627370496 : Nat) : Int) := by decide +kernel
  have e4 : IntKind.u64.wrap (((4503599627370496 : Nat) : Int) - 1) = ((4503599627370495 : Nat) : Int) := by decide +kernel
  have hmod : m % 4503599627370496 < 4503599627370496 := Nat.mod_lt _ (by decide)
  refine Ev.bs low64 ?_
  by_cases h1 : m < 4503599627370496
  · rw [if_pos h1, if_pos h1]
    refine Ev.neg (by omega) (Ev.pos (by decide) (Ev.neg (by rw [e2]; omega) ?_))
    refine Ev.step (fun _ => shape_format_finite.j0.eq_2 ..) ?_
    refine Ev.neg (by simp) (Ev.pos (by decide) (Ev.pos (by rw [e3]; omega) ?_))
    have h2 := join64 s 0 m (by decide) h1
    rw [Nat.zero_mul, Nat.zero_add] at h2
    exact Ev.bs h2 (Ev.out (by simp))
  · rw [if_neg h1, if_neg h1]
    refine Ev.neg (by omega) (Ev.pos (by decide) (Ev.neg (by rw [e2]; omega) ?_))
    refine Ev.step (fun _ => shape_format_finite.j0.eq_2 ..) ?_
    refine Ev.neg (by simp; omega) (Ev.pos (by decide) (Ev.neg (by rw [e3]; omega) (Ev.bs ones64 ?_)))
    have hq : m / 4503599627370496 ≤ 2046 := by omega
    have hq0 : 1 ≤ m / 4503599627370496 := by omega
    have hmm : m = m / 4503599627370496 * 4503599627370496 + m % 4503599627370496 := by omega
    have h2 := join64 s (m / 4503599627370496) (m % 4503599627370496) (by omega) hmod
    rw [← hmm] at h2
    generalize m / 4503599627370496 = e at *
    generalize m % 4503599627370496 = fr at *
    rw [show ((e : Nat) : Int) - 1 + (-1074) - (-1074) = ((e - 1 : Nat) : Int) by omega, w64_id (n := ((e - 1 : Nat) : Int)) (by omega) (by omega), w64_id (n := (2047 : Int)) (by decide) (by decide), show wrap64 ((2047 : Int) - 2) = 2045 by decide +kernel]
    refine Ev.neg (by omega) ?_
    rw [u64_id (n := ((e - 1 : Nat) : Int)) (by omega) (by omega), u64_id (n := ((e - 1 : Nat) : Int) + 1) (by omega) (by omega), show ((e - 1 : Nat) : Int) + 1 = (e : Int) by omega, e3, e4, u64_and_nat _ _ (by omega) (by decide)]
    have h5 := and_low (4503599627370496 + fr) 52
    rw [show (2 : Nat) ^ 52 - 1 = 4503599627370495 by decide, show (2 : Nat) ^ 52 = 4503599627370496 by decide] at h5
    rw [h5, show (4503599627370496 + fr) % 4503599627370496 = fr by omega]
    exact Ev.bs h2 (Ev.out rfl)
theorem close64 (s : Bool) (m : Nat) (h0 : 0 < m) (hm : m < f64.inf) : Ev (fun k => shape_Close.f k 64 s 1 (f64.ex m) (f64.sg m : Nat)) (((mkN 64 m s : Nat) : Int), 0) := by
  unfold shape_Close.f
  refine Ev.bs (show shape_of.f 64 = some (11, 52, true) by decide) (Ev.pos rfl (Ev.pos rfl (Ev.bind (fin64 s 1 m h0 hm) (Ev.pos rfl (Ev.out rfl)))))
theorem sb_inf (w : Int) (hw : w = 32 ∨ w = 64) : (fmt w).inf < sb w := by rcases hw with rfl | rfl <;> decide
end Go.Proofs.Ythdeeoallfbjmaa.Th
end
namespace Go.Proofs.Ythdeeoallfbjmaa.PA
open Go.RowKit Go.Proofs.YthdeeoallfbjmaaW.PrintWords Go.Proofs.YthdeeoallfbjmaaW.PrintLast Go.Proofs.YthdeeoallfbjmaaW.PrintMore
attribute [local go_sem] max2_int min2_int max_two min_two max_three min_three max_four min_four   -- for this text's walks alone
set_option linter.unusedVariables false
set_option linter.unusedSimpArgs false
set_option maxHeartbeats 8000000
set_option maxRecDepth 100000
def wide_order.f (a0 : Int) (a1 : Int) : Option (Int) := if a0 < a1 then (some (-1)) else (if a0 > a1 then (some 1) else (some 0))
theorem wide_order.calls (a0 : Int) (a1 : Int) (r : Int) (w : World) (h : wide_order.f a0 a1 = some r) :
  Calls Try.prog 97 #[.int .u64 a0, .int .u64 a1] w fun e w' => e = .returned (.int .i64 r) ∧ Drawn0 w w' := by
 have H : (if a0 < a1 then (some (-1)) else (if a0 > a1 then (some 1) else (some 0))) = some r := h
 clear h
 by_cases c3 : a0 < a1
 ·rw [if_pos c3] at H
  have c3b0 : decide (a0 < a1) = true := decide_eq_true c3
  clear c3
  obtain rfl := Option.some.inj H
  go_enter Try.func97, Try.ntmps97
  go_wp2
  go_ret
  exact ⟨sm_, by repeat (first | exact Drawn0.refl _ | apply Drawn0.step)⟩
 ·rw [if_neg c3] at H
  have c3b0 : decide (a0 < a1) = false := decide_eq_false c3
  clear c3
  by_cases c4 : a0 > a1
  ·rw [if_pos c4] at H
   have c4b0 : decide (a1 < a0) = true := decide_eq_true c4
   clear c4
   obtain rfl := Option.some.inj H
   go_enter Try.func97, Try.ntmps97
   go_wp2
   go_ret
   exact ⟨sm_, by repeat (first | exact Drawn0.refl _ | apply Drawn0.step)⟩
  ·rw [if_neg c4] at H
   have c4b0 : decide (a1 < a0) = false := decide_eq_false c4
   clear c4
   obtain rfl := Option.some.inj H
   go_enter Try.func97, Try.ntmps97
   go_wp2
   go_ret
   exact ⟨sm_, by repeat (first | exact Drawn0.refl _ | apply Drawn0.step)⟩
def wide_Cmp.f (a0_0 : Int) (a0_1 : Int) (a1_0 : Int) (a1_1 : Int) : Option (Int) := if a0_0 = a1_0 then ((wide_order.f a0_1 a1_1).bind fun t600 => (some t600)) else ((wide_order.f a0_0 a1_0).bind fun t601 => (some t601))
theorem wide_Cmp.calls (a0_0 : Int) (a0_1 : Int) (a1_0 : Int) (a1_1 : Int) (r : Int) (w : World) (h : wide_Cmp.f a0_0 a0_1 a1_0 a1_1 = some r) :
  Calls Try.prog 87 #[.agg #[.int .u64 a0_0, .int .u64 a0_1], .agg #[.int .u64 a1_0, .int .u64 a1_1]] w fun e w' => e = .returned (.int .i64 r) ∧ Below w.heap.size w w' := by
 have hu75 := Try.underlying75
 have HB := A_ (Below.refl w.heap.size w)
 have H : (if a0_0 = a1_0 then ((wide_order.f a0_1 a1_1).bind fun t600 => (some t600)) else ((wide_order.f a0_0 a1_0).bind fun t601 => (some t601))) = some r := h
 clear h
 by_cases c3 : a0_0 = a1_0
 ·rw [if_pos c3] at H
  have c3b0 : (a0_0 == a1_0) = true := beq_iff_eq.mpr c3
  have c3b1 : (a0_0 != a1_0) = false := bne_eq_false_iff_eq.mpr c3
  clear c3
  replace H := ob_ H
  obtain ⟨t600, A40, H⟩ := H
  replace H : (some t600) = some r := H
  have A4 := A_ A40;clear A40
  obtain rfl := Option.some.inj H
  go_enter Try.func87, Try.ntmps87
  go_wp2_with (first | ((with_reducible refine gate_dst (N := 2) rfl ?_); refine be_ 2 #[.int .u64 a0_0, .int .u64 a0_1] 75 ?_; intro gb598 hg w5 hbox hb; have BK598 := A_ (hbox); have GW598 := A_ (sz_ hg (hb_ HB.out)); have GE598 := A_ (sz_ hg (hb_ HB.out)); replace HB := A_ (below_step (hb_ HB.out) hb); clear hb hbox hg) | ((with_reducible refine gate_dst (N := 3) rfl ?_); refine be_ 3 #[.int .u64 a1_0, .int .u64 a1_1] 75 ?_; intro gb599 hg w6 hbox hb; have BK599 := A_ (hbox); have GW599 := A_ (sz_ hg (hb1_ HB.out GE598.out)); have GE599 := A_ (sz_ hg (hb1_ HB.out GE598.out)); have NB598_599 := A_ (nl_ hg BK598.out); have NB599_598 := A_ (ng_ hg BK598.out); replace BK598 := A_ (bb_ BK598.out hb); replace HB := A_ (below_step (hb1_ HB.out GE598.out) hb); clear hb hbox hg; have hnb7 := NB598_599.out; have hnc7 := NB599_598.out; have hcz8_0 := bv_ BK598.out 0; have hcz8_1 := bv_ BK598.out 1; have hfz8_0 := blk_frozen BK598.out 0; have hfz8_1 := blk_frozen BK598.out 1; have hcz9_0 := bv_ BK599.out 0; have hcz9_1 := bv_ BK599.out 1; have hfz9_0 := blk_frozen BK599.out 0; have hfz9_1 := blk_frozen BK599.out 1) | ((with_reducible refine gate_callee (f := 97) rfl ?_); refine gl_ (some 19) Try.func97 #[.int .u64 a0_1, .int .u64 a1_1] ?_; (with_reducible refine (wide_order.calls a0_1 a1_1 t600 _ A4.out).mono ?_); rintro e w' ⟨rfl, ⟨nd, rfl⟩⟩; refine ⟨_, rfl, ?_⟩))
  go_ret
  exact ⟨er_, hb2_ HB.out GE598.out GE599.out⟩
 ·rw [if_neg c3] at H
  have c3b0 : (a0_0 == a1_0) = false := beq_eq_false_iff_ne.mpr c3
  have c3b1 : (a0_0 != a1_0) = true := bne_iff_ne.mpr c3
  replace H := ob_ H
  obtain ⟨t601, A100, H⟩ := H
  replace H : (some t601) = some r := H
  have A10 := A_ A100;clear A100
  obtain rfl := Option.some.inj H
  go_enter Try.func87, Try.ntmps87
  go_wp2_with (first | ((with_reducible refine gate_dst (N := 2) rfl ?_); refine be_ 2 #[.int .u64 a0_0, .int .u64 a0_1] 75 ?_; intro gb598 hg w11 hbox hb; have BK598 := A_ (hbox); have GW598 := A_ (sz_ hg (hb_ HB.out)); have GE598 := A_ (sz_ hg (hb_ HB.out)); replace HB := A_ (below_step (hb_ HB.out) hb); clear hb hbox hg) | ((with_reducible refine gate_dst (N := 3) rfl ?_); refine be_ 3 #[.int .u64 a1_0, .int .u64 a1_1] 75 ?_; intro gb599 hg w12 hbox hb; have BK599 := A_ (hbox); have GW599 := A_ (sz_ hg (hb1_ HB.out GE598.out)); have GE599 := A_ (sz_ hg (hb1_ HB.out GE598.out)); have NB598_599 := A_ (nl_ hg BK598.out); have NB599_598 := A_ (ng_ hg BK598.out); replace BK598 := A_ (bb_ BK598.out hb); replace HB := A_ (below_step (hb1_ HB.out GE598.out) hb); clear hb hbox hg; have hnb13 := NB598_599.out; have hnc13 := NB599_598.out; have hcz14_0 := bv_ BK598.out 0; have hcz14_1 := bv_ BK598.out 1; have hfz14_0 := blk_frozen BK598.out 0; have hfz14_1 := blk_frozen BK598.out 1; have hcz15_0 := bv_ BK599.out 0; have hcz15_1 := bv_ BK599.out 1; have hfz15_0 := blk_frozen BK599.out 0; have hfz15_1 := blk_frozen BK599.out 1) | ((with_reducible refine gate_callee (f := 97) rfl ?_); refine gl_ (some 14) Try.func97 #[.int .u64 a0_0, .int .u64 a1_0] ?_; (with_reducible refine (wide_order.calls a0_0 a1_0 t601 _ A10.out).mono ?_); rintro e w' ⟨rfl, ⟨nd, rfl⟩⟩; refine ⟨_, rfl, ?_⟩))
  go_ret
  exact ⟨er_, hb2_ HB.out GE598.out GE599.out⟩
end Go.Proofs.Ythdeeoallfbjmaa.PA
section
set_option linter.unusedVariables false
set_option linter.unusedSimpArgs false
namespace Go.Proofs.Ythdeeoallfbjmaa.Th
open Go.RowKit Go.Proofs.YthdeeoallfbjmaaW.PrintWords Go.Proofs.YthdeeoallfbjmaaW.PrintLast Go.Proofs.YthdeeoallfbjmaaW.PrintMore Go.Proofs.Ythdeeoallfbjmaa.PA Bit Dig
def wn (h l : Nat) : Nat := h * 18446744073709551616 + l
theorem wn_hi {h l : Nat} (hl : l < 18446744073709551616) : wn h l / 18446744073709551616 = h := by unfold wn; omega
theorem wn_lo {h l : Nat} (hl : l < 18446744073709551616) : wn h l % 18446744073709551616 = l := by unfold wn; omega
theorem wn_div (V : Nat) : wn (V / 18446744073709551616) (V % 18446744073709551616) = V := by unfold wn; omega
theorem wn_lt {h l : Nat} (hh : h < 18446744073709551616) (hl : l < 18446744073709551616) : wn h l < 340282366920938463463374607431768211456 := by unfold wn; omega
theorem p128 : (340282366920938463463374607431768211456 : Nat) = 2 ^ 128 := by decide
theorem p64 : (18446744073709551616 : Nat) = 2 ^ 64 := by decide
theorem bl_128 {n : Nat} (h : n < 340282366920938463463374607431768211456) : bl n ≤ 128 := bl_le.2 h
theorem bitLen_aux (f : Nat) : ∀ x, x < 2 ^ f → Lib.bitLenAux f x = bl x := by
  induction f with
  | zero => intro x h; obtain rfl : x = 0 := by simpa using h
            rfl
  | succ f ih =>
    intro x h
    unfold Lib.bitLenAux
    by_cases h0 : x = 0
    · rw [if_pos h0, h0, bl_zero]
    · rw [if_neg h0, ih _ (by rw [Nat.pow_succ] at h; omega), bl_half (show 0 < x by omega)]; omega
theorem bitLen_bl {x : Nat} (h : x < 18446744073709551616) : Lib.bitLen x = bl x := bitLen_aux 64 x h
theorem cmpW (a b c d : Nat) (hb : b < 18446744073709551616) (hd : d < 18446744073709551616) : wide_Cmp.f a b c d = some (cmpN (wn a b) (wn c d)) := by
  unfold wide_Cmp.f wide_order.f cmpN wn
  by_cases h : (a : Int) = c
  · have h : a = c := by omega
    subst h
    rw [if_pos rfl]
    by_cases h1 : (b : Int) < d
    · rw [if_pos h1, if_pos (by omega)]; rfl
    · rw [if_neg h1]
      by_cases h2 : (b : Int) > d
      · rw [if_pos h2, if_neg (by omega), if_pos (by omega)]; rfl
      · rw [if_neg h2, if_neg (by omega), if_neg (by omega)]; rfl
  · rw [if_neg h]
    by_cases h1 : (a : Int) < c
    · rw [if_pos h1, if_pos (by omega)]; rfl
    · rw [if_neg h1]
      have h2 : (a : Int) > c := by omega
      rw [if_pos h2, if_neg (by omega), if_pos (by omega)]; rfl
theorem lenW (a b : Nat) (ha : a < 18446744073709551616) (hb : b < 18446744073709551616) : wide_Len.f a b = some ((bl (wn a b) : Nat) : Int) := by
  unfold wide_Len.f bits_Len64.f
  rw [if_pos (show 0 ≤ (a : Int) ∧ (a : Int) ≤ 18446744073709551615 by omega), if_pos (show 0 ≤ (b : Int) ∧ (b : Int) ≤ 18446744073709551615 by omega)]
  by_cases h : (a : Int) > 0
  · rw [if_pos h, Option.bind_some, Int.toNat_natCast, bitLen_bl ha]
    have h1 := bl64 ha
    have h2 := bl_add_low a b 64 (by omega) hb
    rw [w64_id (by omega) (by omega)]
    unfold wn
    rw [p64, h2]; congr 1; omega
  · rw [if_neg h, Option.bind_some, Int.toNat_natCast, bitLen_bl hb]
    have : a = 0 := by omega
    subst this
    unfold wn; rw [Nat.zero_mul, Nat.zero_add]
theorem shlN (c n : Nat) (hn : n < 64) : shl .u64 (c : Int) (n : Int) = ((c * 2 ^ n % 18446744073709551616 : Nat) : Int) := by
  unfold shl
  rw [show min ((n : Int)).toNat IntKind.u64.bits = n by rw [show IntKind.u64.bits = 64 by decide]; omega, IntKind.wrap_u64]
  have hp : (2 : Int) ^ n = ((2 ^ n : Nat) : Int) := by rw [Int.natCast_pow]; rfl
  rw [hp, ← Int.natCast_mul]; omega
theorem shrN' (c n : Nat) (hn : n < 64) : shr .u64 (c : Int) (n : Int) = ((c / 2 ^ n : Nat) : Int) := by
  unfold shr
  rw [show min ((n : Int)).toNat IntKind.u64.bits = n by rw [show IntKind.u64.bits = 64 by decide]; omega]
  have hp : (2 : Int) ^ n = ((2 ^ n : Nat) : Int) := by rw [Int.natCast_pow]; rfl
  rw [hp]; omega
theorem or_add (x y n : Nat) (hn : n ≤ 64) (hx : 2 ^ n ∣ x) (hy : y < 2 ^ n) (h : x < 18446744073709551616) (h2 : y < 18446744073709551616) : Go.bits .or .u64 (x : Int) (y : Int) = ((x + y : Nat) : Int) := by
  rw [u64_or_nat x y h h2]
  congr 1
  obtain ⟨c, rfl⟩ := hx
  rw [Nat.or_comm, Nat.mul_comm, or_pow y c n hy]; omega
theorem left_arith (h l n : Nat) (h0 : 0 < n) (hn : n < 64) (hl : l < 2 ^ 64) :
    wn h l * 2 ^ n % 2 ^ 128 / 2 ^ 64 = h * 2 ^ n % 2 ^ 64 + l / 2 ^ (64 - n) ∧ wn h l * 2 ^ n % 2 ^ 128 % 2 ^ 64 = l * 2 ^ n % 2 ^ 64 ∧ 2 ^ n ∣ h * 2 ^ n % 2 ^ 64 ∧ l / 2 ^ (64 - n) < 2 ^ n := by
  have hd : l / 2 ^ (64 - n) < 2 ^ n := by
    rw [Nat.div_lt_iff_lt_mul (Nat.pow_pos (by decide)), ← Nat.pow_add, show n + (64 - n) = 64 by omega]; exact hl
  have e64 : 2 ^ 64 = 2 ^ n * 2 ^ (64 - n) := by rw [← Nat.pow_add]; congr 1; omega
  have hdv : 2 ^ n ∣ h * 2 ^ n % 2 ^ 64 := by
    rw [e64]; exact (Nat.dvd_mod_iff (Nat.dvd_mul_right _ _)).2 (Nat.dvd_mul_left _ _)
  have hq : l * 2 ^ n = l / 2 ^ (64 - n) * 2 ^ 64 + l * 2 ^ n % 2 ^ 64 := by
    have h1 := Nat.div_add_mod (l * 2 ^ n) (2 ^ 64)
    have h2 : l * 2 ^ n / 2 ^ 64 = l / 2 ^ (64 - n) := by
      rw [e64, Nat.mul_comm l, Nat.mul_div_mul_left _ _ (Nat.pow_pos (by decide))]
    rw [h2, Nat.mul_comm] at h1
    omega
  have hlow := Nat.mod_lt (l * 2 ^ n) (show 0 < 2 ^ 64 by decide)
  have hhi := Nat.mod_lt (h * 2 ^ n) (show 0 < 2 ^ 64 by decide)
  have hh := Nat.div_add_mod (h * 2 ^ n) (2 ^ 64)
  have hv : wn h l * 2 ^ n = 2 ^ 128 * (h * 2 ^ n / 2 ^ 64) + ((h * 2 ^ n % 2 ^ 64 + l / 2 ^ (64 - n)) * 2 ^ 64 + l * 2 ^ n % 2 ^ 64) := by
    unfold wn
    rw [Nat.add_mul, p64, Nat.mul_right_comm, hq]
    generalize h * 2 ^ n = u at *
    generalize l * 2 ^ n % 2 ^ 64 = v at *
    rw [show (2 : Nat) ^ 128 = 340282366920938463463374607431768211456 by decide]
    rw [show (2 : Nat) ^ 64 = 18446744073709551616 by decide] at *
    omega
  have hs : h * 2 ^ n % 2 ^ 64 + l / 2 ^ (64 - n) < 2 ^ 64 := by
    obtain ⟨c, hc⟩ := hdv
    have h3 : c < 2 ^ (64 - n) := by
      rw [hc, e64] at hhi
      exact Nat.lt_of_mul_lt_mul_left hhi
    have h4 : 2 ^ n * (c + 1) ≤ 2 ^ n * 2 ^ (64 - n) := Nat.mul_le_mul_left _ h3
    rw [← e64, Nat.mul_add, Nat.mul_one, ← hc] at h4
    omega
  have hm : wn h l * 2 ^ n % 2 ^ 128 = (h * 2 ^ n % 2 ^ 64 + l / 2 ^ (64 - n)) * 2 ^ 64 + l * 2 ^ n % 2 ^ 64 := by
    rw [hv, Nat.mul_add_mod, Nat.mod_eq_of_lt]
    generalize h * 2 ^ n % 2 ^ 64 + l / 2 ^ (64 - n) = s at *
    generalize l * 2 ^ n % 2 ^ 64 = v at *
    rw [show (2 : Nat) ^ 128 = 340282366920938463463374607431768211456 by decide]
    rw [show (2 : Nat) ^ 64 = 18446744073709551616 by decide] at *
    omega
  refine ⟨?_, ?_, hdv, hd⟩
  · rw [hm, Nat.mul_comm, Nat.mul_add_div (by decide), Nat.div_eq_of_lt hlow, Nat.add_zero]
  · rw [hm, Nat.mul_comm, Nat.mul_add_mod, Nat.mod_mod]
def lfV (a : Nat) (n : Int) : Nat := a * 2 ^ n.toNat % 340282366920938463463374607431768211456
theorem leftW (h l : Nat) (n : Int) (hh : h < 18446744073709551616) (hl : l < 18446744073709551616) (hn : n < 9223372036854775808) :
    wide_Left.f h l n = some (((lfV (wn h l) n / 18446744073709551616 : Nat) : Int), ((lfV (wn h l) n % 18446744073709551616 : Nat) : Int)) := by
  unfold wide_Left.f lfV
  have hw := wn_lt hh hl
  by_cases h0 : n ≤ 0
  · rw [if_pos h0, show n.toNat = 0 by omega, Nat.pow_zero, Nat.mul_one, Nat.mod_eq_of_lt hw, wn_hi hl, wn_lo hl]
  · rw [if_neg h0]
    obtain ⟨m, rfl⟩ := Int.eq_ofNat_of_zero_le (show 0 ≤ n by omega)
    rw [Int.toNat_natCast]
    by_cases h1 : (m : Int) ≥ 128
    · rw [if_pos h1, p128, show m = 128 + (m - 128) by omega, Nat.pow_add, Nat.mul_left_comm, Nat.mul_mod_right]; rfl
    · rw [if_neg h1]
      by_cases h2 : (m : Int) ≥ 64
      · rw [if_pos h2, w64_id (by omega) (by omega), if_pos (by omega), show (m : Int) - 64 = ((m - 64 : Nat) : Int) by omega, shlN _ _ (by omega)]
        have e : wn h l * 2 ^ m % 340282366920938463463374607431768211456 = l * 2 ^ (m - 64) % 18446744073709551616 * 18446744073709551616 := by
          rw [show 2 ^ m = 2 ^ (m - 64) * 18446744073709551616 by rw [p64, ← Nat.pow_add]; congr 1; omega, ← Nat.mul_assoc, show (340282366920938463463374607431768211456 : Nat) = 18446744073709551616 * 18446744073709551616 by decide, Nat.mul_mod_mul_right]
          congr 1
          unfold wn
          rw [Nat.add_mul, Nat.mul_right_comm, Nat.add_comm, Nat.add_mul_mod_self_right]
        rw [e, Nat.mul_div_cancel _ (by decide), Nat.mul_mod_left]; rfl
      · rw [if_neg h2, if_pos (by omega), w64_id (by omega) (by omega), if_pos (by omega), show (64 : Int) - m = ((64 - m : Nat) : Int) by omega, shlN _ _ (by omega), shlN _ _ (by omega), shrN' _ _ (by omega)]
        obtain ⟨k1, k2, k3, k4⟩ := left_arith h l m (by omega) (by omega) hl
        rw [← p64] at k1 k2 k3
        rw [← p128] at k1 k2
        have k5 := Nat.mod_lt (h * 2 ^ m) (show 0 < 18446744073709551616 by decide)
        have k6 := Nat.div_le_self l (2 ^ (64 - m))
        rw [or_add _ _ m (by omega) k3 k4 (by omega) (by omega), k1, k2]
theorem ofW (n : Nat) : wide_Of.f n = some (0, (n : Int)) := rfl
theorem wn_ne (V h l : Nat) (hV : V < 340282366920938463463374607431768211456) (hl : l < 18446744073709551616) :
    (!(((V / 18446744073709551616 : Nat) : Int) == (h : Int)) || !(((V % 18446744073709551616 : Nat) : Int) == (l : Int))) = decide (V ≠ wn h l) := by
  have e : (((V / 18446744073709551616 : Nat) : Int) == (h : Int)) = decide (V / 18446744073709551616 = h) := by
    rw [Bool.eq_iff_iff]; simp; omega
  have e2 : (((V % 18446744073709551616 : Nat) : Int) == (l : Int)) = decide (V % 18446744073709551616 = l) := by
    rw [Bool.eq_iff_iff]; simp; omega
  rw [e, e2]
  have h3 : V = wn h l ↔ V / 18446744073709551616 = h ∧ V % 18446744073709551616 = l := by
    unfold wn; omega
  by_cases h1 : V / 18446744073709551616 = h <;> by_cases h2 : V % 18446744073709551616 = l <;> simp [h1, h2, h3]
theorem or_add' (x y n : Nat) (hn : n ≤ 64) (hx : 2 ^ n ∣ x) (hy : y < 2 ^ n) (h : x < 18446744073709551616) (h2 : y < 18446744073709551616) : Go.bits .or .u64 (y : Int) (x : Int) = ((y + x : Nat) : Int) := by
  rw [u64_or_nat y x h2 h]
  congr 1
  obtain ⟨c, rfl⟩ := hx
  rw [Nat.mul_comm, or_pow y c n hy]
theorem gen_hi (B C h l : Nat) (hC : 0 < C) : (h * (B * C) + l) / C = h * B + l / C := by
  rw [← Nat.mul_assoc, Nat.mul_comm (h * B) C, Nat.mul_add_div hC]
theorem right_arith (h l n : Nat) (h0 : 0 < n) (hn : n < 64) (hh : h < 2 ^ 64) (hl : l < 2 ^ 64) :
    wn h l / 2 ^ n / 2 ^ 64 = h / 2 ^ n ∧ wn h l / 2 ^ n % 2 ^ 64 = l / 2 ^ n + h * 2 ^ (64 - n) % 2 ^ 64 ∧ 2 ^ (64 - n) ∣ h * 2 ^ (64 - n) % 2 ^ 64 ∧ l / 2 ^ n < 2 ^ (64 - n) := by
  have p0 : 0 < 2 ^ n := Nat.pow_pos (by decide)
  have p1 : 0 < 2 ^ (64 - n) := Nat.pow_pos (by decide)
  have e64 : 2 ^ 64 = 2 ^ (64 - n) * 2 ^ n := by rw [← Nat.pow_add]; congr 1; omega
  have hd : l / 2 ^ n < 2 ^ (64 - n) := by rw [Nat.div_lt_iff_lt_mul p0, ← e64]; exact hl
  have hdv : 2 ^ (64 - n) ∣ h * 2 ^ (64 - n) % 2 ^ 64 := by
    rw [e64]; exact (Nat.dvd_mod_iff (Nat.dvd_mul_right _ _)).2 (Nat.dvd_mul_left _ _)
  have hq : wn h l / 2 ^ n = h * 2 ^ (64 - n) + l / 2 ^ n := by
    unfold wn; rw [p64, e64]; exact gen_hi _ _ h l p0
  have hx : h * 2 ^ (64 - n) / 2 ^ 64 = h / 2 ^ n := by
    rw [e64, Nat.mul_comm (2 ^ (64 - n)), Nat.mul_div_mul_right _ _ p1]
  have hm := Nat.div_add_mod (h * 2 ^ (64 - n)) (2 ^ 64)
  have hlt := Nat.mod_lt (h * 2 ^ (64 - n)) (show 0 < 2 ^ 64 by decide)
  have hs : h * 2 ^ (64 - n) % 2 ^ 64 + l / 2 ^ n < 2 ^ 64 := by
    obtain ⟨c, hc⟩ := hdv
    have h3 : c < 2 ^ n := by
      rw [hc, e64] at hlt
      exact Nat.lt_of_mul_lt_mul_left hlt
    have h4 : 2 ^ (64 - n) * (c + 1) ≤ 2 ^ (64 - n) * 2 ^ n := Nat.mul_le_mul_left _ h3
    rw [← e64, Nat.mul_add, Nat.mul_one, ← hc] at h4
    omega
  rw [hx] at hm
  rw [hq]
  generalize h * 2 ^ (64 - n) % 2 ^ 64 = u at *
  generalize l / 2 ^ n = v at *
  rw [← hm, Nat.add_assoc]
  refine ⟨?_, ?_, hdv, hd⟩
  · rw [Nat.mul_add_div (by decide), Nat.div_eq_of_lt hs, Nat.add_zero]
  · rw [Nat.mul_add_mod, Nat.mod_eq_of_lt hs, Nat.add_comm]
theorem lost_iff (a p : Nat) (h : a < 340282366920938463463374607431768211456) : (a / p * p) % 340282366920938463463374607431768211456 ≠ a ↔ a % p ≠ 0 := by
  have h1 := Nat.div_add_mod a p
  rw [Nat.mul_comm] at h1
  have h2 : a / p * p < 340282366920938463463374607431768211456 := by omega
  rw [Nat.mod_eq_of_lt h2]
  omega
def rgV (a : Nat) (n : Int) : Nat := a / 2 ^ n.toNat
theorem rightW (h l : Nat) (n : Int) (hh : h < 18446744073709551616) (hl : l < 18446744073709551616) (hn : n < 9223372036854775808) :
    wide_Right.f h l n = some (((rgV (wn h l) n / 18446744073709551616 : Nat) : Int), ((rgV (wn h l) n % 18446744073709551616 : Nat) : Int), decide (wn h l % 2 ^ n.toNat ≠ 0)) := by
  unfold wide_Right.f rgV
  have hw := wn_lt hh hl
  by_cases h0 : n ≤ 0
  · rw [if_pos h0, show n.toNat = 0 by omega, Nat.pow_zero, Nat.div_one, Nat.mod_one, wn_hi hl, wn_lo hl]; rfl
  · rw [if_neg h0]
    obtain ⟨m, rfl⟩ := Int.eq_ofNat_of_zero_le (show 0 ≤ n by omega)
    rw [Int.toNat_natCast]
    have key : ∀ Q : Nat, Q = wn h l / 2 ^ m → (!(((lfV (wn (Q / 18446744073709551616) (Q % 18446744073709551616)) (m : Int) / 18446744073709551616 : Nat) : Int) == (h : Int)) || !(((lfV (wn (Q / 18446744073709551616) (Q % 18446744073709551616)) (m : Int) % 18446744073709551616 : Nat) : Int) == (l : Int))) = decide (wn h l % 2 ^ m ≠ 0) := by
      intro Q hQ
      rw [wn_div]
      unfold lfV
      rw [Int.toNat_natCast, hQ, wn_ne _ h l (Nat.mod_lt _ (by decide)) hl, decide_eq_decide]
      exact lost_iff _ _ hw
    by_cases h1 : (m : Int) ≥ 128
    · rw [if_pos h1]
      have hb : wn h l < 2 ^ m := Nat.lt_of_lt_of_le hw (by rw [p128]; exact Nat.pow_le_pow_right (by decide) (by omega))
      rw [Nat.div_eq_of_lt hb, Nat.mod_eq_of_lt hb]
      have e := wn_ne 0 h l (by decide) hl
      have e2 : (!((h : Int) == 0) || !((l : Int) == 0)) = decide (wn h l ≠ 0) := by
        rw [Bool.eq_iff_iff]; simp; unfold wn; omega
      rw [e2]; rfl
    · rw [if_neg h1]
      by_cases h2 : (m : Int) ≥ 64
      · rw [if_pos h2, w64_id (by omega) (by omega), show (m : Int) - 64 = ((m - 64 : Nat) : Int) by omega, shrN' _ _ (by omega)]
        have hQ : h / 2 ^ (m - 64) = wn h l / 2 ^ m := by
          rw [show 2 ^ m = 18446744073709551616 * 2 ^ (m - 64) by rw [p64, ← Nat.pow_add]; congr 1; omega, ← Nat.div_div_eq_div_mul, wn_hi hl]
        have hq1 := Nat.div_le_self h (2 ^ (m - 64))
        have k := key _ hQ
        rw [← hQ]
        generalize h / 2 ^ (m - 64) = q at *
        rw [Nat.div_eq_of_lt (show q < 18446744073709551616 by omega), Nat.mod_eq_of_lt (show q < 18446744073709551616 by omega)] at k ⊢
        have lw := leftW 0 q (m : Int) (by decide) (by omega) (by omega)
        rw [show ((0 : Nat) : Int) = 0 from rfl] at lw
        rw [lw, Option.bind_some]
        show some (0, (q : Int), _) = _
        rw [k]; rfl
      · rw [if_neg h2, w64_id (by omega) (by omega), show (64 : Int) - m = ((64 - m : Nat) : Int) by omega, shrN' _ _ (by omega), shrN' _ _ (by omega), shlN _ _ (by omega)]
        obtain ⟨k1, k2, k3, k4⟩ := right_arith h l m (by omega) (by omega) hh hl
        rw [← p64] at k1 k2 k3
        have k5 := Nat.mod_lt (h * 2 ^ (64 - m)) (show 0 < 18446744073709551616 by decide)
        have k6 := Nat.div_le_self l (2 ^ m)
        have k7 := Nat.div_le_self h (2 ^ m)
        rw [or_add' _ _ (64 - m) (by omega) k3 k4 (by omega) (by omega)]
        have k := key _ rfl
        rw [k1, k2] at k
        rw [k1, k2]
        have lw := leftW (h / 2 ^ m) (l / 2 ^ m + h * 2 ^ (64 - m) % 18446744073709551616) (m : Int) (by omega) (by rw [← k2]; exact Nat.mod_lt _ (by decide)) (by omega)
        rw [lw, Option.bind_some, k]
end Go.Proofs.Ythdeeoallfbjmaa.Th
end
