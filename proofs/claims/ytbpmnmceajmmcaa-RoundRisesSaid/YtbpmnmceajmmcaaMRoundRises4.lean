/- What the Go functions that the statement RoundRises reaches compute, and the mathematics on it, in the order in which one leans on the other; for every input. -/
import Derived.Test.YtbpmnmceajmmcaaVRoundRises0
import Derived.Test.YtbpmnmceajmmcaaMRoundRises0
import Derived.Test.YtbpmnmceajmmcaaMRoundRises2
import Derived.Test.YtbpmnmceajmmcaaMRoundRises3
import Derived.Test.YtbpmnmceajmmcaaMRoundRises1
import Derived.Deep.RegionHeld3
import Derived.Shelf.Spec.BitsCarry
import Derived.Deep.DeepCutAuto
namespace Go.Proofs.Ytbpmnmceajmmcaa.PA
open Go.RowKit Go.Proofs.YtbpmnmceajmmcaaW.PrintWords Go.Proofs.YtbpmnmceajmmcaaW.PrintLast Go.Proofs.YtbpmnmceajmmcaaW.PrintMore
attribute [local go_sem] max2_int min2_int max_two min_two max_three min_three max_four min_four   -- for this text's walks alone
set_option linter.unusedVariables false
set_option linter.unusedSimpArgs false
set_option maxHeartbeats 8000000
set_option maxRecDepth 100000
def r1_Cmp.l0 : Nat → Int → List Int → List Int → Option (Int)
 | 0, _, _, _ => none
 | k + 1, x5, x386000, x387000 => if x5 ≥ 0 then ((r1_at.f x386000 x5).bind fun t387 => ((r1_at.f x387000 x5).bind fun t388 => (if t387 < t388 then (some (-1)) else (if t387 > t388 then (some 1) else (r1_Cmp.l0 k (wrap64 (x5 - 1)) x386000 x387000))))) else (some 0)
def r1_Cmp.f (k : Nat) (l0_0 : List Int) (l1_0 : List Int) : Option (Int) := r1_Cmp.l0 k (wrap64 ((mx (l0_0.length : Int) (l1_0.length : Int)) - 1)) l0_0 l1_0
theorem r1_Cmp.mono_l : ∀ k, (∀ y0 y1 y2, LeO (r1_Cmp.l0 k y0 y1 y2) (r1_Cmp.l0 (k + 1) y0 y1 y2))
 | 0 => fun _ _ _ r h => by simp [r1_Cmp.l0] at h
 | k + 1 => by
  have ih0 := r1_Cmp.mono_l k
  ·intro y0 y1 y2
   unfold r1_Cmp.l0
   repeat' first
   | (with_reducible exact ih0 _ _ _)
   | (with_reducible exact LeO.refl _)
   | (with_reducible exact LeO.none _)
   | (with_reducible refine LeO.ite ?_ ?_)
   | (with_reducible refine LeO.bind ?_ (fun _ => ?_))
   | exact ih0 _ _ _
   | exact LeO.none _
   | refine LeO.ite ?_ ?_
   | refine LeO.bind ?_ (fun _ => ?_)
theorem r1_Cmp.mono : ∀ a0 a1 k, LeO (r1_Cmp.f k a0 a1) (r1_Cmp.f (k + 1) a0 a1) := by
 intro a0 a1 k
 have ih0 := r1_Cmp.mono_l k
 unfold r1_Cmp.f
 repeat' first
   | (with_reducible exact ih0 _ _ _)
   | (with_reducible exact LeO.refl _)
   | (with_reducible exact LeO.none _)
   | (with_reducible refine LeO.ite ?_ ?_)
   | (with_reducible refine LeO.bind ?_ (fun _ => ?_))
   | exact ih0 _ _ _
   | exact LeO.none _
   | refine LeO.ite ?_ ?_
   | refine LeO.bind ?_ (fun _ => ?_)
theorem r1_Cmp.calls (k : Nat) (A0_0 : Option Addr) (c0_0 : Nat) (l0_0 : List Int) (A1_0 : Option Addr) (c1_0 : Nat) (l1_0 : List Int) (r : Int) (w : World) (hr0_0 : Kd.C (Kd.int .u64) w A0_0 l0_0.length l0_0) (hc0_0 : l0_0.length ≤ c0_0) (hr1_0 : Kd.C (Kd.int .u64) w A1_0 l1_0.length l1_0) (hc1_0 : l1_0.length ≤ c1_0) (h : r1_Cmp.f k l0_0 l1_0 = some r) :
  Calls Try.prog 113 #[.agg #[.slice A0_0 l0_0.length c0_0], .agg #[.slice A1_0 l1_0.length c1_0]] w fun e w' => e = .returned (.int .i64 r) ∧ Below w.heap.size w w' := by
 have hu63 := Try.underlying63
 have HR0_0 := A_ hr0_0;have HC0_0 := A_ hc0_0;clear hr0_0 hc0_0;have HR1_0 := A_ hr1_0;have HC1_0 := A_ hc1_0;clear hr1_0 hc1_0
 have HB := A_ (Below.refl w.heap.size w)
 have H : (r1_Cmp.l0 k (wrap64 ((mx (l0_0.length : Int) (l1_0.length : Int)) - 1)) l0_0 l1_0) = some r := h
 clear h
 obtain ⟨ji3, hji3⟩ : ∃ j_ : Int, (mx (l0_0.length : Int) (l1_0.length : Int)) = j_ := ⟨_, rfl⟩
 replace H : (r1_Cmp.l0 k (wrap64 ((ji3) - 1)) l0_0 l1_0) = some r := by first | (rw [hji3] at H; exact H) | (simp only [hji3] at H ⊢; exact H)
 (try (have hji3l : 0 ≤ ji3 := by (rw [← hji3]; unfold mx; (repeat' split) <;> omega)))
 (try (have hji3m : 0 ≤ ji3 := by omega))
 have hji3_ : (if (l0_0.length : Int) < (l1_0.length : Int) then (l1_0.length : Int) else (l0_0.length : Int)) = ji3 := hji3
 have hji3n_ : (if l0_0.length < l1_0.length then (l1_0.length : Int) else (l0_0.length : Int)) = ji3 := by have h_ := hji3_; simpa only [Int.ofNat_lt] using h_
 have H' := A_ H
 clear H
 go_enter Try.func113, Try.ntmps113
 go_wp2_with (first | ((with_reducible refine gate_dst (N := 2) rfl ?_); refine be_ 2 #[.slice A0_0 l0_0.length c0_0] 63 ?_; intro gb385 hg w4 hbox hb; have BK385 := A_ (hbox); have GW385 := A_ (sz_ hg (hb_ HB.out)); have GE385 := A_ (sz_ hg (hb_ HB.out)); replace HB := A_ (below_step (hb_ HB.out) hb); clear hb hbox hg) | ((with_reducible refine gate_dst (N := 3) rfl ?_); refine be_ 3 #[.slice A1_0 l1_0.length c1_0] 63 ?_; intro gb386 hg w5 hbox hb; have BK386 := A_ (hbox); have GW386 := A_ (sz_ hg (hb1_ HB.out GE385.out)); have GE386 := A_ (sz_ hg (hb1_ HB.out GE385.out)); have NB385_386 := A_ (nl_ hg BK385.out); have NB386_385 := A_ (ng_ hg BK385.out); replace BK385 := A_ (bb_ BK385.out hb); replace HB := A_ (below_step (hb1_ HB.out GE385.out) hb); clear hb hbox hg; have hnb6 := NB385_386.out; have hnc6 := NB386_385.out; have hcz7_0 := bv_ BK385.out 0; have hfz7_0 := blk_frozen BK385.out 0; have hcz8_0 := bv_ BK386.out 0; have hfz8_0 := blk_frozen BK386.out 0))
 repeat (go_quiet (first | ((with_reducible refine gate_dst (N := 2) rfl ?_); refine be_ 2 #[.slice A0_0 l0_0.length c0_0] 63 ?_; intro gb385 hg w4 hbox hb; have BK385 := A_ (hbox); have GW385 := A_ (sz_ hg (hb_ HB.out)); have GE385 := A_ (sz_ hg (hb_ HB.out)); replace HB := A_ (below_step (hb_ HB.out) hb); clear hb hbox hg) | ((with_reducible refine gate_dst (N := 3) rfl ?_); refine be_ 3 #[.slice A1_0 l1_0.length c1_0] 63 ?_; intro gb386 hg w5 hbox hb; have BK386 := A_ (hbox); have GW386 := A_ (sz_ hg (hb1_ HB.out GE385.out)); have GE386 := A_ (sz_ hg (hb1_ HB.out GE385.out)); have NB385_386 := A_ (nl_ hg BK385.out); have NB386_385 := A_ (ng_ hg BK385.out); replace BK385 := A_ (bb_ BK385.out hb); replace HB := A_ (below_step (hb1_ HB.out GE385.out) hb); clear hb hbox hg; have hnb6 := NB385_386.out; have hnc6 := NB386_385.out; have hcz7_0 := bv_ BK385.out 0; have hfz7_0 := blk_frozen BK385.out 0; have hcz8_0 := bv_ BK386.out 0; have hfz8_0 := blk_frozen BK386.out 0)); try go_wp2_with (first | ((with_reducible refine gate_dst (N := 2) rfl ?_); refine be_ 2 #[.slice A0_0 l0_0.length c0_0] 63 ?_; intro gb385 hg w4 hbox hb; have BK385 := A_ (hbox); have GW385 := A_ (sz_ hg (hb_ HB.out)); have GE385 := A_ (sz_ hg (hb_ HB.out)); replace HB := A_ (below_step (hb_ HB.out) hb); clear hb hbox hg) | ((with_reducible refine gate_dst (N := 3) rfl ?_); refine be_ 3 #[.slice A1_0 l1_0.length c1_0] 63 ?_; intro gb386 hg w5 hbox hb; have BK386 := A_ (hbox); have GW386 := A_ (sz_ hg (hb1_ HB.out GE385.out)); have GE386 := A_ (sz_ hg (hb1_ HB.out GE385.out)); have NB385_386 := A_ (nl_ hg BK385.out); have NB386_385 := A_ (ng_ hg BK385.out); replace BK385 := A_ (bb_ BK385.out hb); replace HB := A_ (below_step (hb1_ HB.out GE385.out) hb); clear hb hbox hg; have hnb6 := NB385_386.out; have hnc6 := NB386_385.out; have hcz7_0 := bv_ BK385.out 0; have hfz7_0 := blk_frozen BK385.out 0; have hcz8_0 := bv_ BK386.out 0; have hfz8_0 := blk_frozen BK386.out 0)))
 go_loopg [5] k (fun kq v5 w' => ∃ (x5_1 : Int), v5 = .int .i64 x5_1 ∧ Aside0 (r1_Cmp.l0 kq x5_1 l0_0 l1_0 = some r) ∧ Aside0 (kq ≤ k) ∧ Aside0 (w'.heap[gb385]? = some (.cells #[(.slice A0_0 l0_0.length c0_0)] 63 (0, 0))) ∧ Aside0 (w'.heap[gb386]? = some (.cells #[(.slice A1_0 l1_0.length c1_0)] 63 (0, 0))) ∧ Aside0 (Below w.heap.size w w'))
 case atStart => exact ⟨(wrap64 ((ji3) - 1)), (by first | rfl | (simp; done) | (simp only [← hji3] <;> (first | rfl | simp)) | (simp [*]; done)), H', ⟨Nat.le_refl _⟩, ⟨bk_ BK385.out⟩, ⟨bk_ BK386.out⟩, ⟨hb2_ HB.out GE385.out GE386.out⟩⟩
 case round =>
  clear H'
  try clear c1
  try clear p2
  try clear c6
  try clear p6
  try clear hcz7_0
  try clear hcz8_0
  try clear hfz7_0
  try clear hfz8_0
  obtain ⟨x5_1, rfl, HA, HK1, BK385, BK386, HB⟩ := hrel
  cases gk with
  | zero => exact absurd HA.out (by simp [r1_Cmp.l0])
  | succ k1 =>
   have H := HA.out
   clear HA
   simp only [r1_Cmp.l0] at H
   by_cases c9 : x5_1 ≥ 0
   ·rw [if_pos c9] at H
    have c9b0 : decide (0 ≤ x5_1) = true := decide_eq_true c9
    clear c9
    replace H := ob_ H
    obtain ⟨t387, A100, H⟩ := H
    replace H : ((r1_at.f l1_0 x5_1).bind fun t388 => (if t387 < t388 then (some (-1)) else (if t387 > t388 then (some 1) else (r1_Cmp.l0 k1 (wrap64 (x5_1 - 1)) l0_0 l1_0)))) = some r := H
    have A10 := A_ A100;clear A100
    replace H := ob_ H
    obtain ⟨t388, A110, H⟩ := H
    replace H : (if t387 < t388 then (some (-1)) else (if t387 > t388 then (some 1) else (r1_Cmp.l0 k1 (wrap64 (x5_1 - 1)) l0_0 l1_0))) = some r := H
    have A11 := A_ A110;clear A110
    by_cases c12 : t387 < t388
    ·rw [if_pos c12] at H
     have c12b0 : decide (t387 < t388) = true := decide_eq_true c12
     clear c12
     obtain rfl := Option.some.inj H
     have hnb13 := NB385_386.out
     have hnc13 := NB386_385.out
     have hcz14_0 := bv_ BK385.out 0
     have hfz14_0 := blk_frozen BK385.out 0
     go_wp2_with (first | (go_at_call 93; (with_reducible refine (r1_at.calls _ _ l0_0 x5_1 t387 _ ?side1 ?side2 A10.out).mono ?_); (case side1 => exact cs_ ((Kd.C_below HR0_0.out HB.out))); (case side2 => exact HC0_0.out); rintro e w' ⟨rfl, ⟨nd, rfl⟩⟩; (try first | exact ⟨rfl, _, World.drewN_drewN _ _ _⟩ | exact ⟨rfl, _, Eq.trans (World.drewN_drewN _ _ _) (congrArg (World.drewN _) (Nat.add_assoc _ _ _))⟩); have hcz15_0 := bv_ BK386.out 0; have hfz15_0 := blk_frozen BK386.out 0) | (go_at_call 93; (with_reducible refine (r1_at.calls _ _ l1_0 x5_1 t388 _ ?side1 ?side2 A11.out).mono ?_); (case side1 => exact cs_ ((Kd.C_below HR1_0.out (hb2_ HB.out GE385.out GE386.out)))); (case side2 => exact HC1_0.out); rintro e w' ⟨rfl, ⟨nd, rfl⟩⟩; (try first | exact ⟨rfl, _, World.drewN_drewN _ _ _⟩ | exact ⟨rfl, _, Eq.trans (World.drewN_drewN _ _ _) (congrArg (World.drewN _) (Nat.add_assoc _ _ _))⟩)))
     repeat (go_quiet (first | (go_at_call 93; (with_reducible refine (r1_at.calls _ _ l0_0 x5_1 t387 _ ?side1 ?side2 A10.out).mono ?_); (case side1 => exact cs_ ((Kd.C_below HR0_0.out HB.out))); (case side2 => exact HC0_0.out); rintro e w' ⟨rfl, ⟨nd, rfl⟩⟩; (try first | exact ⟨rfl, _, World.drewN_drewN _ _ _⟩ | exact ⟨rfl, _, Eq.trans (World.drewN_drewN _ _ _) (congrArg (World.drewN _) (Nat.add_assoc _ _ _))⟩); have hcz15_0 := bv_ BK386.out 0; have hfz15_0 := blk_frozen BK386.out 0) | (go_at_call 93; (with_reducible refine (r1_at.calls _ _ l1_0 x5_1 t388 _ ?side1 ?side2 A11.out).mono ?_); (case side1 => exact cs_ ((Kd.C_below HR1_0.out (hb2_ HB.out GE385.out GE386.out)))); (case side2 => exact HC1_0.out); rintro e w' ⟨rfl, ⟨nd, rfl⟩⟩; (try first | exact ⟨rfl, _, World.drewN_drewN _ _ _⟩ | exact ⟨rfl, _, Eq.trans (World.drewN_drewN _ _ _) (congrArg (World.drewN _) (Nat.add_assoc _ _ _))⟩))); try go_wp2_with (first | (go_at_call 93; (with_reducible refine (r1_at.calls _ _ l0_0 x5_1 t387 _ ?side1 ?side2 A10.out).mono ?_); (case side1 => exact cs_ ((Kd.C_below HR0_0.out HB.out))); (case side2 => exact HC0_0.out); rintro e w' ⟨rfl, ⟨nd, rfl⟩⟩; (try first | exact ⟨rfl, _, World.drewN_drewN _ _ _⟩ | exact ⟨rfl, _, Eq.trans (World.drewN_drewN _ _ _) (congrArg (World.drewN _) (Nat.add_assoc _ _ _))⟩); have hcz15_0 := bv_ BK386.out 0; have hfz15_0 := blk_frozen BK386.out 0) | (go_at_call 93; (with_reducible refine (r1_at.calls _ _ l1_0 x5_1 t388 _ ?side1 ?side2 A11.out).mono ?_); (case side1 => exact cs_ ((Kd.C_below HR1_0.out (hb2_ HB.out GE385.out GE386.out)))); (case side2 => exact HC1_0.out); rintro e w' ⟨rfl, ⟨nd, rfl⟩⟩; (try first | exact ⟨rfl, _, World.drewN_drewN _ _ _⟩ | exact ⟨rfl, _, Eq.trans (World.drewN_drewN _ _ _) (congrArg (World.drewN _) (Nat.add_assoc _ _ _))⟩))))
     go_ret
     exact ⟨by first | rfl | (simp [errW_none, errW_some] <;> rfl) | (simp only [← hji3]; first | rfl | (simp [errW_none, errW_some] <;> rfl)) | (simp [*, errW_none, errW_some] <;> rfl), hb2_ HB.out GE385.out GE386.out⟩
    ·rw [if_neg c12] at H
     have c12b0 : decide (t387 < t388) = false := decide_eq_false c12
     clear c12
     by_cases c16 : t387 > t388
     ·rw [if_pos c16] at H
      have c16b0 : decide (t388 < t387) = true := decide_eq_true c16
      clear c16
      obtain rfl := Option.some.inj H
      have hnb17 := NB385_386.out
      have hnc17 := NB386_385.out
      have hcz18_0 := bv_ BK385.out 0
      have hfz18_0 := blk_frozen BK385.out 0
      go_wp2_with (first | (go_at_call 93; (with_reducible refine (r1_at.calls _ _ l0_0 x5_1 t387 _ ?side1 ?side2 A10.out).mono ?_); (case side1 => exact cs_ ((Kd.C_below HR0_0.out HB.out))); (case side2 => exact HC0_0.out); rintro e w' ⟨rfl, ⟨nd, rfl⟩⟩; (try first | exact ⟨rfl, _, World.drewN_drewN _ _ _⟩ | exact ⟨rfl, _, Eq.trans (World.drewN_drewN _ _ _) (congrArg (World.drewN _) (Nat.add_assoc _ _ _))⟩); have hcz19_0 := bv_ BK386.out 0; have hfz19_0 := blk_frozen BK386.out 0) | (go_at_call 93; (with_reducible refine (r1_at.calls _ _ l1_0 x5_1 t388 _ ?side1 ?side2 A11.out).mono ?_); (case side1 => exact cs_ ((Kd.C_below HR1_0.out (hb2_ HB.out GE385.out GE386.out)))); (case side2 => exact HC1_0.out); rintro e w' ⟨rfl, ⟨nd, rfl⟩⟩; (try first | exact ⟨rfl, _, World.drewN_drewN _ _ _⟩ | exact ⟨rfl, _, Eq.trans (World.drewN_drewN _ _ _) (congrArg (World.drewN _) (Nat.add_assoc _ _ _))⟩)))
      repeat (go_quiet (first | (go_at_call 93; (with_reducible refine (r1_at.calls _ _ l0_0 x5_1 t387 _ ?side1 ?side2 A10.out).mono ?_); (case side1 => exact cs_ ((Kd.C_below HR0_0.out HB.out))); (case side2 => exact HC0_0.out); rintro e w' ⟨rfl, ⟨nd, rfl⟩⟩; (try first | exact ⟨rfl, _, World.drewN_drewN _ _ _⟩ | exact ⟨rfl, _, Eq.trans (World.drewN_drewN _ _ _) (congrArg (World.drewN _) (Nat.add_assoc _ _ _))⟩); have hcz19_0 := bv_ BK386.out 0; have hfz19_0 := blk_frozen BK386.out 0) | (go_at_call 93; (with_reducible refine (r1_at.calls _ _ l1_0 x5_1 t388 _ ?side1 ?side2 A11.out).mono ?_); (case side1 => exact cs_ ((Kd.C_below HR1_0.out (hb2_ HB.out GE385.out GE386.out)))); (case side2 => exact HC1_0.out); rintro e w' ⟨rfl, ⟨nd, rfl⟩⟩; (try first | exact ⟨rfl, _, World.drewN_drewN _ _ _⟩ | exact ⟨rfl, _, Eq.trans (World.drewN_drewN _ _ _) (congrArg (World.drewN _) (Nat.add_assoc _ _ _))⟩))); try go_wp2_with (first | (go_at_call 93; (with_reducible refine (r1_at.calls _ _ l0_0 x5_1 t387 _ ?side1 ?side2 A10.out).mono ?_); (case side1 => exact cs_ ((Kd.C_below HR0_0.out HB.out))); (case side2 => exact HC0_0.out); rintro e w' ⟨rfl, ⟨nd, rfl⟩⟩; (try first | exact ⟨rfl, _, World.drewN_drewN _ _ _⟩ | exact ⟨rfl, _, Eq.trans (World.drewN_drewN _ _ _) (congrArg (World.drewN _) (Nat.add_assoc _ _ _))⟩); have hcz19_0 := bv_ BK386.out 0; have hfz19_0 := blk_frozen BK386.out 0) | (go_at_call 93; (with_reducible refine (r1_at.calls _ _ l1_0 x5_1 t388 _ ?side1 ?side2 A11.out).mono ?_); (case side1 => exact cs_ ((Kd.C_below HR1_0.out (hb2_ HB.out GE385.out GE386.out)))); (case side2 => exact HC1_0.out); rintro e w' ⟨rfl, ⟨nd, rfl⟩⟩; (try first | exact ⟨rfl, _, World.drewN_drewN _ _ _⟩ | exact ⟨rfl, _, Eq.trans (World.drewN_drewN _ _ _) (congrArg (World.drewN _) (Nat.add_assoc _ _ _))⟩))))
      go_ret
      exact ⟨by first | rfl | (simp [errW_none, errW_some] <;> rfl) | (simp only [← hji3]; first | rfl | (simp [errW_none, errW_some] <;> rfl)) | (simp [*, errW_none, errW_some] <;> rfl), hb2_ HB.out GE385.out GE386.out⟩
     ·rw [if_neg c16] at H
      have c16b0 : decide (t388 < t387) = false := decide_eq_false c16
      clear c16
      have H' := A_ H
      clear H
      have hnb20 := NB385_386.out
      have hnc20 := NB386_385.out
      have hcz21_0 := bv_ BK385.out 0
      have hfz21_0 := blk_frozen BK385.out 0
      go_wp2_with (first | (go_at_call 93; (with_reducible refine (r1_at.calls _ _ l0_0 x5_1 t387 _ ?side1 ?side2 A10.out).mono ?_); (case side1 => exact cs_ ((Kd.C_below HR0_0.out HB.out))); (case side2 => exact HC0_0.out); rintro e w' ⟨rfl, ⟨nd, rfl⟩⟩; (try first | exact ⟨rfl, _, World.drewN_drewN _ _ _⟩ | exact ⟨rfl, _, Eq.trans (World.drewN_drewN _ _ _) (congrArg (World.drewN _) (Nat.add_assoc _ _ _))⟩); have hcz22_0 := bv_ BK386.out 0; have hfz22_0 := blk_frozen BK386.out 0) | (go_at_call 93; (with_reducible refine (r1_at.calls _ _ l1_0 x5_1 t388 _ ?side1 ?side2 A11.out).mono ?_); (case side1 => exact cs_ ((Kd.C_below HR1_0.out (hb2_ HB.out GE385.out GE386.out)))); (case side2 => exact HC1_0.out); rintro e w' ⟨rfl, ⟨nd, rfl⟩⟩; (try first | exact ⟨rfl, _, World.drewN_drewN _ _ _⟩ | exact ⟨rfl, _, Eq.trans (World.drewN_drewN _ _ _) (congrArg (World.drewN _) (Nat.add_assoc _ _ _))⟩)))
      repeat (go_quiet (first | (go_at_call 93; (with_reducible refine (r1_at.calls _ _ l0_0 x5_1 t387 _ ?side1 ?side2 A10.out).mono ?_); (case side1 => exact cs_ ((Kd.C_below HR0_0.out HB.out))); (case side2 => exact HC0_0.out); rintro e w' ⟨rfl, ⟨nd, rfl⟩⟩; (try first | exact ⟨rfl, _, World.drewN_drewN _ _ _⟩ | exact ⟨rfl, _, Eq.trans (World.drewN_drewN _ _ _) (congrArg (World.drewN _) (Nat.add_assoc _ _ _))⟩); have hcz22_0 := bv_ BK386.out 0; have hfz22_0 := blk_frozen BK386.out 0) | (go_at_call 93; (with_reducible refine (r1_at.calls _ _ l1_0 x5_1 t388 _ ?side1 ?side2 A11.out).mono ?_); (case side1 => exact cs_ ((Kd.C_below HR1_0.out (hb2_ HB.out GE385.out GE386.out)))); (case side2 => exact HC1_0.out); rintro e w' ⟨rfl, ⟨nd, rfl⟩⟩; (try first | exact ⟨rfl, _, World.drewN_drewN _ _ _⟩ | exact ⟨rfl, _, Eq.trans (World.drewN_drewN _ _ _) (congrArg (World.drewN _) (Nat.add_assoc _ _ _))⟩))); try go_wp2_with (first | (go_at_call 93; (with_reducible refine (r1_at.calls _ _ l0_0 x5_1 t387 _ ?side1 ?side2 A10.out).mono ?_); (case side1 => exact cs_ ((Kd.C_below HR0_0.out HB.out))); (case side2 => exact HC0_0.out); rintro e w' ⟨rfl, ⟨nd, rfl⟩⟩; (try first | exact ⟨rfl, _, World.drewN_drewN _ _ _⟩ | exact ⟨rfl, _, Eq.trans (World.drewN_drewN _ _ _) (congrArg (World.drewN _) (Nat.add_assoc _ _ _))⟩); have hcz22_0 := bv_ BK386.out 0; have hfz22_0 := blk_frozen BK386.out 0) | (go_at_call 93; (with_reducible refine (r1_at.calls _ _ l1_0 x5_1 t388 _ ?side1 ?side2 A11.out).mono ?_); (case side1 => exact cs_ ((Kd.C_below HR1_0.out (hb2_ HB.out GE385.out GE386.out)))); (case side2 => exact HC1_0.out); rintro e w' ⟨rfl, ⟨nd, rfl⟩⟩; (try first | exact ⟨rfl, _, World.drewN_drewN _ _ _⟩ | exact ⟨rfl, _, Eq.trans (World.drewN_drewN _ _ _) (congrArg (World.drewN _) (Nat.add_assoc _ _ _))⟩))))
      go_roundg k1
      case measure => have := HK1.out; omega
      case rel => exact ⟨(wrap64 (x5_1 - 1)), sm_, H', ⟨by have := HK1.out; omega⟩, ⟨bk_ BK385.out⟩, ⟨bk_ BK386.out⟩, ⟨hb2_ HB.out GE385.out GE386.out⟩⟩
   ·rw [if_neg c9] at H
    have c9b0 : decide (0 ≤ x5_1) = false := decide_eq_false c9
    clear c9
    obtain rfl := Option.some.inj H
    go_wp2
    repeat (go_quiet (fail); try go_wp2)
    go_ret
    exact ⟨by first | rfl | (simp [errW_none, errW_some] <;> rfl) | (simp only [← hji3]; first | rfl | (simp [errW_none, errW_some] <;> rfl)) | (simp [*, errW_none, errW_some] <;> rfl), hb2_ HB.out GE385.out GE386.out⟩
def r1_Len.l0 : Nat → Int → Int → Option (Int)
 | 0, _, _ => none
 | k + 1, x3, x4 => if x4 > 0 then (r1_Len.l0 k (wrap64 (x3 + 1)) (IntKind.u64.wrap (Int.tdiv x4 2))) else (some x3)
def r1_Len.f (k : Nat) (l0_0 : List Int) : Option (Int) := if (l0_0.length : Int) = 0 then (some 0) else (if 0 ≤ (wrap64 ((l0_0.length : Int) - 1)) then (if (wrap64 ((l0_0.length : Int) - 1)) < (l0_0.length : Int) then (r1_Len.l0 k (wrap64 (32 * (wrap64 ((l0_0.length : Int) - 1)))) (rd l0_0 (wrap64 ((l0_0.length : Int) - 1)))) else (none)) else (none))
theorem r1_Len.mono_l : ∀ k, (∀ y0 y1, LeO (r1_Len.l0 k y0 y1) (r1_Len.l0 (k + 1) y0 y1))
 | 0 => fun _ _ r h => by simp [r1_Len.l0] at h
 | k + 1 => by
  have ih0 := r1_Len.mono_l k
  ·intro y0 y1
   unfold r1_Len.l0
   repeat' first
   | (with_reducible exact ih0 _ _)
   | (with_reducible exact LeO.refl _)
   | (with_reducible exact LeO.none _)
   | (with_reducible refine LeO.ite ?_ ?_)
   | (with_reducible refine LeO.bind ?_ (fun _ => ?_))
   | exact ih0 _ _
   | exact LeO.none _
   | refine LeO.ite ?_ ?_
   | refine LeO.bind ?_ (fun _ => ?_)
theorem r1_Len.mono : ∀ a0 k, LeO (r1_Len.f k a0) (r1_Len.f (k + 1) a0) := by
 intro a0 k
 have ih0 := r1_Len.mono_l k
 unfold r1_Len.f
 repeat' first
   | (with_reducible exact ih0 _ _)
   | (with_reducible exact LeO.refl _)
   | (with_reducible exact LeO.none _)
   | (with_reducible refine LeO.ite ?_ ?_)
   | (with_reducible refine LeO.bind ?_ (fun _ => ?_))
   | exact ih0 _ _
   | exact LeO.none _
   | refine LeO.ite ?_ ?_
   | refine LeO.bind ?_ (fun _ => ?_)
theorem r1_Len.calls (k : Nat) (A0_0 : Option Addr) (c0_0 : Nat) (l0_0 : List Int) (r : Int) (w : World) (hr0_0 : Kd.C (Kd.int .u64) w A0_0 l0_0.length l0_0) (hc0_0 : l0_0.length ≤ c0_0) (h : r1_Len.f k l0_0 = some r) :
  Calls Try.prog 96 #[.agg #[.slice A0_0 l0_0.length c0_0]] w fun e w' => e = .returned (.int .i64 r) ∧ Below w.heap.size w w' := by
 have hu63 := Try.underlying63
 have HR0_0 := A_ hr0_0;have HC0_0 := A_ hc0_0;clear hr0_0 hc0_0
 have HB := A_ (Below.refl w.heap.size w)
 have H : (if (l0_0.length : Int) = 0 then (some 0) else (if 0 ≤ (wrap64 ((l0_0.length : Int) - 1)) then (if (wrap64 ((l0_0.length : Int) - 1)) < (l0_0.length : Int) then (r1_Len.l0 k (wrap64 (32 * (wrap64 ((l0_0.length : Int) - 1)))) (rd l0_0 (wrap64 ((l0_0.length : Int) - 1)))) else (none)) else (none))) = some r := h
 clear h
 by_cases c2 : (l0_0.length : Int) = 0
 ·rw [if_pos c2] at H
  have c2b0 : ((l0_0.length : Int) == 0) = true := beq_iff_eq.mpr c2
  have c2b1 : ((l0_0.length : Int) != 0) = false := bne_eq_false_iff_eq.mpr c2
  clear c2
  obtain rfl := Option.some.inj H
  go_enter Try.func96, Try.ntmps96
  go_wp2_with (first | ((with_reducible refine gate_dst (N := 1) rfl ?_); refine be_ 1 #[.slice A0_0 l0_0.length c0_0] 63 ?_; intro gb365 hg w3 hbox hb; have BK365 := A_ (hbox); have GW365 := A_ (sz_ hg (hb_ HB.out)); have GE365 := A_ (sz_ hg (hb_ HB.out)); replace HB := A_ (below_step (hb_ HB.out) hb); clear hb hbox hg; have hcz4_0 := bv_ BK365.out 0; have hfz4_0 := blk_frozen BK365.out 0))
  go_ret
  exact ⟨er_, hb1_ HB.out GE365.out⟩
 ·rw [if_neg c2] at H
  have c2b0 : ((l0_0.length : Int) == 0) = false := beq_eq_false_iff_ne.mpr c2
  have c2b1 : ((l0_0.length : Int) != 0) = true := bne_iff_ne.mpr c2
  have c2b2 : ¬ (l0_0 = []) := fun h_ => c2 (by rw [h_]; rfl)
  obtain ⟨ji5, hji5⟩ : ∃ j_ : Int, (wrap64 ((l0_0.length : Int) - 1)) = j_ := ⟨_, rfl⟩
  replace H : (if 0 ≤ (ji5) then (if (ji5) < (l0_0.length : Int) then (r1_Len.l0 k (wrap64 (32 * (ji5))) (rd l0_0 (ji5))) else (none)) else (none)) = some r := by first | (rw [hji5] at H; exact H) | (simp only [hji5] at H ⊢; exact H)
  have hji5w : (IntKind.i64.wrap ((l0_0.length : Int) - 1)) = ji5 := (i64_w _).trans hji5
  by_cases c6 : 0 ≤ (ji5)
  ·rw [if_pos c6] at H
   have c6b0 : decide (0 ≤ (ji5)) = true := decide_eq_true c6
   clear c6
   by_cases c7 : (ji5) < (l0_0.length : Int)
   ·rw [if_pos c7] at H
    have c7b0 : decide ((ji5) < (l0_0.length : Int)) = true := decide_eq_true c7
    clear c7
    have H' := A_ H
    clear H
    go_enter Try.func96, Try.ntmps96
    go_wp2_with (first | ((with_reducible refine gate_dst (N := 1) rfl ?_); refine be_ 1 #[.slice A0_0 l0_0.length c0_0] 63 ?_; intro gb365 hg w8 hbox hb; have BK365 := A_ (hbox); have GW365 := A_ (sz_ hg (hb_ HB.out)); have GE365 := A_ (sz_ hg (hb_ HB.out)); replace HB := A_ (below_step (hb_ HB.out) hb); clear hb hbox hg; have hcz9_0 := bv_ BK365.out 0; have hfz9_0 := blk_frozen BK365.out 0; have p366 : 0 ≤ ((ji5) : Int) := of_decide_eq_true (by first | (with_reducible assumption) | assumption); have q366 : (ji5) < (l0_0.length : Int) := of_decide_eq_true (by first | (with_reducible assumption) | assumption); obtain ⟨ad366, e366, hx366_0⟩ := Kd.at_int HR0_0.out (ji5) p366 q366; cases e366; replace hx366_0 := (HB.out.cell (World.block_lt_of_cell? w _ hx366_0)).trans hx366_0; replace p366 := eq_true p366; replace q366 := eq_true q366))
    go_loopg [3, 4] k (fun kq v3 v4 w' => ∃ (x3_1 : Int) (x4_1 : Int), v3 = .int .i64 x3_1 ∧ v4 = .int .u64 x4_1 ∧ Aside0 (r1_Len.l0 kq x3_1 x4_1 = some r) ∧ Aside0 (kq ≤ k) ∧ Aside0 (w'.heap[gb365]? = some (.cells #[(.slice (some ad366) l0_0.length c0_0)] 63 (0, 0))) ∧ Aside0 (Below w.heap.size w w'))
    case atStart => exact ⟨(wrap64 (32 * (ji5))), (rd l0_0 (ji5)), (by first | rfl | (simp; done) | (simp only [← hji5] <;> (first | rfl | simp)) | (simp [*]; done)), (by first | rfl | (simp; done) | (simp only [← hji5] <;> (first | rfl | simp)) | (simp [*]; done)), H', ⟨Nat.le_refl _⟩, ⟨bk_ BK365.out⟩, ⟨hb1_ HB.out GE365.out⟩⟩
    case round =>
     clear H'
     try clear c2
     try clear c2b0
     try clear c2b1
     try clear c2b2
     try clear p2
     try clear p3
     try clear q3
     try clear hx3
     try clear c6
     try clear c6b0
     try clear p6
     try clear c7
     try clear c7b0
     try clear c9
     try clear hcz4_0
     try clear hcz9_0
     try clear hfz4_0
     try clear hfz9_0
     try clear hx366_0
     try clear p366
     try clear q366
     obtain ⟨x3_1, x4_1, rfl, rfl, HA, HK1, BK365, HB⟩ := hrel
     cases gk with
     | zero => exact absurd HA.out (by simp [r1_Len.l0])
     | succ k1 =>
      have H := HA.out
      clear HA
      simp only [r1_Len.l0] at H
      by_cases c10 : x4_1 > 0
      ·rw [if_pos c10] at H
       have c10b0 : decide (0 < x4_1) = true := decide_eq_true c10
       clear c10
       have H' := A_ H
       clear H
       go_wp2
       go_roundg k1
       case measure => have := HK1.out; omega
       case rel => exact ⟨(wrap64 (x3_1 + 1)), (IntKind.u64.wrap (Int.tdiv x4_1 2)), sm_, sm_, H', ⟨by have := HK1.out; omega⟩, ⟨bk_ BK365.out⟩, ⟨hb1_ HB.out GE365.out⟩⟩
      ·rw [if_neg c10] at H
       have c10b0 : decide (0 < x4_1) = false := decide_eq_false c10
       clear c10
       obtain rfl := Option.some.inj H
       go_wp2
       go_ret
       exact ⟨by first | rfl | (simp [errW_none, errW_some] <;> rfl) | (simp only [← hji5]; first | rfl | (simp [errW_none, errW_some] <;> rfl)) | (simp [*, errW_none, errW_some] <;> rfl), hb1_ HB.out GE365.out⟩
   ·rw [if_neg c7] at H
    exact absurd H (by simp)
  ·rw [if_neg c6] at H
   exact absurd H (by simp)
end Go.Proofs.Ytbpmnmceajmmcaa.PA
namespace Dig
def valB (B : Nat) : List Int → Nat
  | [] => 0
  | d :: l => d.toNat + B * valB B l
def OkB (B : Nat) (l : List Int) : Prop := ∀ d ∈ l, 0 ≤ d ∧ d < B
section
variable {B : Nat}
theorem OkB.nil : OkB B [] := fun _ h => by cases h
theorem OkB.cons {d : Int} {l : List Int} (h : 0 ≤ d ∧ d < B) (k : OkB B l) : OkB B (d :: l) := fun x hx => by
  rcases List.mem_cons.1 hx with rfl | hx
  · exact h
  · exact k x hx
theorem OkB.head {d : Int} {l : List Int} (k : OkB B (d :: l)) : 0 ≤ d ∧ d < B := k d List.mem_cons_self
theorem OkB.take {l : List Int} (k : OkB B l) (i : Nat) : OkB B (l.take i) := fun x hx => k x (List.mem_of_mem_take hx)
end
theorem W2 : 2 ≤ 4294967296 := by decide
def val (l : List Int) : Nat := valB 4294967296 l
def Ok (l : List Int) : Prop := ∀ d ∈ l, 0 ≤ d ∧ d < 4294967296
theorem Ok.up {l : List Int} (h : Ok l) : OkB 4294967296 l := h
theorem Ok.nil : Ok [] := fun _ h => by cases h
theorem Ok.cons {d : Int} {l : List Int} (h : 0 ≤ d ∧ d < 4294967296) (k : Ok l) : Ok (d :: l) := OkB.cons (B := 4294967296) h k
theorem Ok.take {l : List Int} (k : Ok l) (i : Nat) : Ok (l.take i) := OkB.take (B := 4294967296) k i
end Dig
section
set_option linter.unusedVariables false
set_option linter.unusedSimpArgs false
namespace Go.Proofs.Ytbpmnmceajmmcaa.Th
open Go.RowKit Go.Proofs.YtbpmnmceajmmcaaW.PrintWords Go.Proofs.YtbpmnmceajmmcaaW.PrintLast Go.Proofs.YtbpmnmceajmmcaaW.PrintMore Go.Proofs.Ytbpmnmceajmmcaa.PA Dig

def bl (n : Nat) : Nat := if n = 0 then 0 else n.log2 + 1
theorem bl_zero : bl 0 = 0 := rfl
theorem bl_half {n : Nat} (h : 0 < n) : bl n = bl (n / 2) + 1 := by
  unfold bl
  rw [if_neg (by omega)]
  by_cases h2 : n < 2
  · obtain rfl : n = 1 := by omega
    rfl
  · rw [if_neg (by omega), Nat.log2_def, if_pos (by omega)]
theorem bl_le {n k : Nat} : bl n ≤ k ↔ n < 2 ^ k := by
  unfold bl
  split
  · subst_vars; simp [Nat.pow_pos]
  · rw [← Nat.log2_lt ‹_›]; omega
theorem lt_bl {n k : Nat} : k < bl n ↔ 2 ^ k ≤ n := by
  have := @bl_le n k; omega
theorem bl_shift (n k : Nat) (h : 0 < n) : bl (n * 2 ^ k) = bl n + k := by
  refine Nat.le_antisymm ?_ ?_
  · rw [bl_le, Nat.pow_add]
    exact Nat.mul_lt_mul_of_pos_right (bl_le.1 (Nat.le_refl _)) (Nat.pow_pos (by decide))
  · have h1 : 2 ^ (bl n - 1) ≤ n := lt_bl.1 (by have := (lt_bl (n := n) (k := 0)).2 (by rw [Nat.pow_zero]; omega); omega)
    have h0 : 0 < bl n := (lt_bl (n := n) (k := 0)).2 (by rw [Nat.pow_zero]; omega)
    have h2 : bl n + k - 1 < bl (n * 2 ^ k) := by
      rw [lt_bl, show bl n + k - 1 = (bl n - 1) + k by omega, Nat.pow_add]
      exact Nat.mul_le_mul_right _ h1
    omega
theorem bl_add_low (a b k : Nat) (ha : 0 < a) (hb : b < 2 ^ k) : bl (a * 2 ^ k + b) = bl a + k := by
  refine Nat.le_antisymm ?_ ?_
  · rw [bl_le, Nat.pow_add]
    have h1 : a + 1 ≤ 2 ^ bl a := bl_le.1 (Nat.le_refl _)
    have h2 := Nat.mul_le_mul_right (2 ^ k) h1
    rw [Nat.add_mul] at h2
    omega
  · rw [← bl_shift a k ha]
    have h0 : 0 < bl (a * 2 ^ k) := (lt_bl (n := a * 2 ^ k) (k := 0)).2 (by rw [Nat.pow_zero]; exact Nat.mul_pos ha (Nat.pow_pos (by decide)))
    have h1 : bl (a * 2 ^ k) - 1 < bl (a * 2 ^ k + b) := by
      rw [lt_bl]
      have : 2 ^ (bl (a * 2 ^ k) - 1) ≤ a * 2 ^ k := lt_bl.1 (by omega)
      omega
    omega
theorem lt_two_bl (n : Nat) : n < 2 ^ bl n := bl_le.1 (Nat.le_refl _)
theorem bl_pos {n : Nat} : 0 < bl n ↔ 0 < n := by
  have := (lt_bl (n := n) (k := 0)); rw [Nat.pow_zero] at this; omega
theorem two_bl_le {n : Nat} (h : 0 < n) : 2 ^ (bl n - 1) ≤ n := lt_bl.1 (by have := bl_pos.2 h; omega)
theorem bl64 {n : Nat} (h : n < 18446744073709551616) : bl n ≤ 64 := bl_le.2 h

end Go.Proofs.Ytbpmnmceajmmcaa.Th
end
section
set_option linter.unusedVariables false
set_option linter.unusedSimpArgs false
namespace Go.Proofs.Ytbpmnmceajmmcaa.Th
open Flo
def pkc (F : Fmt) (S : Nat) (e : Int) (m : Nat) : Nat :=
  if (bl S : Int) - F.f - 1 ≤ 0 ∧ F.low - e ≤ 0 then F.fin (e - (min ((F.f : Int) + 1 - bl S) (e - F.low)).toNat - F.low).toNat (S * 2 ^ (min ((F.f : Int) + 1 - bl S) (e - F.low)).toNat)
  else F.fin (e + max ((bl S : Int) - F.f - 1) (F.low - e) - F.low).toNat (rne (2 * S + m) (2 ^ ((max ((bl S : Int) - F.f - 1) (F.low - e)).toNat + 1)))
def pkm (F : Fmt) (S : Nat) (e : Int) (m : Bool) : Nat :=
  if S = 0 ∧ m = false then 0 else if 1048576 < e then F.inf else if e < -1048576 then 0 else
  if m = true ∧ bl S < 127 then pkc F (2 * S + 1) (e - 1) 0 else pkc F S e (if m then 1 else 0)
def pkx (S : Nat) (e : Int) (m : Bool) : Rat := ((2 * S + (if m then 1 else 0) : Nat) : Rat) * tw (e - 1)
theorem dbl (S : Nat) (e : Int) : ((2 * S + 0 : Nat) : Rat) * tw (e - 1) = (S : Rat) * tw e := by
  rw [tw_pred e]; push_cast; grind
theorem pkc_dn (F : Fmt) {S m : Nat} {e : Int} (hm : m ≤ 1) (hS : 0 < S) (h : ¬ ((bl S : Int) - F.f - 1 ≤ 0 ∧ F.low - e ≤ 0)) :
    ∃ q n j : Nat, (j : Int) + 1 = max ((bl S : Int) - F.f - 1) (F.low - e) ∧ (q : Int) = e + (j + 1 : Nat) - F.low ∧ n = rne (2 * S + m) (2 ^ (j + 2)) ∧ pkc F S e m = F.fin q n ∧
    F.Rnd (F.Up (((2 * S + m : Nat) : Rat) * tw (e - 1))) (F.fin q n) ∧ n ≤ 2 ^ (F.f + 1) ∧ (0 < q → 2 ^ F.f ≤ n) := by
  have h1 := two_bl_le hS
  have h2 := lt_two_bl S
  have h0 := bl_pos.2 hS
  have h3 : 2 ^ bl S ≤ 2 * S := by
    have : 2 ^ bl S = 2 ^ (bl S - 1) * 2 := by rw [← Nat.pow_succ]; congr 1; omega
    omega
  obtain ⟨j, hj⟩ : ∃ j : Nat, (j : Int) + 1 = max ((bl S : Int) - F.f - 1) (F.low - e) := ⟨(max ((bl S : Int) - F.f - 1) (F.low - e) - 1).toNat, by omega⟩
  obtain ⟨q, hq⟩ : ∃ q : Nat, (q : Int) = e + (j + 1 : Nat) - F.low := ⟨(e + (j + 1 : Nat) - F.low).toNat, by omega⟩
  have P := Fmt.Rnd.pack_dn F (S := S) (la := bl S) (j := j) (m := m) (e := e) (q := q) hm h3 h2 (by omega) hq
  refine ⟨q, _, j, hj, hq, rfl, ?_, P.1, P.2.1, P.2.2⟩
  unfold pkc
  rw [if_neg h, ← hj, show ((j : Int) + 1).toNat + 1 = j + 2 by omega, show (e + ((j : Int) + 1) - F.low).toNat = q by omega]
theorem pkc_up (F : Fmt) {S : Nat} {e : Int} (hS : 0 < S) (h : (bl S : Int) - F.f - 1 ≤ 0 ∧ F.low - e ≤ 0) :
    ∃ q u : Nat, (u : Int) = min ((F.f : Int) + 1 - bl S) (e - F.low) ∧ (q : Int) = e - u - F.low ∧ pkc F S e 0 = F.fin q (S * 2 ^ u) ∧
    F.Rnd (F.Up (((2 * S + 0 : Nat) : Rat) * tw (e - 1))) (F.fin q (S * 2 ^ u)) ∧ S * 2 ^ u ≤ 2 ^ (F.f + 1) ∧ (0 < q → 2 ^ F.f ≤ S * 2 ^ u) := by
  have h1 := two_bl_le hS
  have h2 := lt_two_bl S
  have h0 := bl_pos.2 hS
  have h3 : 2 ^ bl S ≤ 2 * S := by
    have : 2 ^ bl S = 2 ^ (bl S - 1) * 2 := by rw [← Nat.pow_succ]; congr 1; omega
    omega
  obtain ⟨u, hu⟩ : ∃ u : Nat, (u : Int) = min ((F.f : Int) + 1 - bl S) (e - F.low) := ⟨(min ((F.f : Int) + 1 - bl S) (e - F.low)).toNat, by omega⟩
  obtain ⟨q, hq⟩ : ∃ q : Nat, (q : Int) = e - u - F.low := ⟨(e - u - F.low).toNat, by omega⟩
  have P := Fmt.Rnd.pack_up F (S := S) (la := bl S) (e := e) (u := u) (q := q) h3 h2 (by omega) (by omega) hu hq
  refine ⟨q, u, hu, hq, ?_, by rw [dbl]; exact P.1, P.2.1, P.2.2⟩
  unfold pkc
  rw [if_pos h, ← hu, show ((u : Nat) : Int).toNat = u by omega, show (e - (u : Int) - F.low).toNat = q by omega]
theorem pkc_rnd (F : Fmt) {S m : Nat} {e : Int} (hm : m ≤ 1) (hS : 0 < S) (hb : m = 1 → F.f + 1 < bl S) : F.Rnd (F.Up (((2 * S + m : Nat) : Rat) * tw (e - 1))) (pkc F S e m) := by
  by_cases h : (bl S : Int) - F.f - 1 ≤ 0 ∧ F.low - e ≤ 0
  · obtain rfl : m = 0 := by
      rcases (show m = 0 ∨ m = 1 by omega) with h1 | h1
      · exact h1
      · have := hb h1; omega
    obtain ⟨q, u, _, _, e1, P, _⟩ := pkc_up F hS h
    rw [e1]; exact P
  · obtain ⟨q, n, j, _, _, _, e1, P, _⟩ := pkc_dn F hm hS h
    rw [e1]; exact P
theorem pkm_rnd (F : Fmt) (hF : F.f < 100) (hl : -5000 < F.low ∧ F.low < 0) (ht : F.top < 5000) (S : Nat) (e : Int) (m : Bool) (hS : S < 340282366920938463463374607431768211456) : F.rnd (pkx S e m) = pkm F S e m := by
  unfold pkm
  by_cases h0 : S = 0 ∧ m = false
  · rw [if_pos h0]
    obtain ⟨rfl, rfl⟩ := h0
    unfold pkx
    simp only [Bool.false_eq_true, if_false, Nat.mul_zero, Nat.add_zero]
    rw [show ((0 : Nat) : Rat) * tw (e - 1) = 0 by simp, Fmt.rnd_zero]
  rw [if_neg h0]
  have hpos : 1 ≤ 2 * S + (if m then 1 else 0) := by
    cases m
    · have : S ≠ 0 := fun h => h0 ⟨h, rfl⟩
      simp; omega
    · simp
  have hle : 2 * S + (if m then 1 else 0) < 2 ^ 129 := by
    rw [show (2 : Nat) ^ 129 = 680564733841876926926749214863536422912 by decide]; cases m <;> simp <;> omega
  by_cases h1 : 1048576 < e
  · rw [if_pos h1]
    refine F.rnd_inf ?_
    rw [F.val_inf]
    have h2 : ((1 : Nat) : Rat) ≤ ((2 * S + (if m then 1 else 0) : Nat) : Rat) := nat_le.2 hpos
    have h3 := mul_le h2 (tw_pos (e - 1))
    have h4 : tw (F.top - 1 + F.low + F.f) ≤ tw (e - 1) := tw_le (by omega)
    unfold pkx
    have h5 : ((1 : Nat) : Rat) * tw (e - 1) = tw (e - 1) := by simp
    rw [h5] at h3
    exact Rat.le_trans h4 h3
  rw [if_neg h1]
  by_cases h2 : e < -1048576
  · rw [if_pos h2]
    refine F.rnd_of (Fmt.Rnd.tiny F ?_)
    have h3 : ((2 * S + (if m then 1 else 0) : Nat) : Rat) < ((2 ^ 129 : Nat) : Rat) := nat_lt.2 hle
    have h4 := mul_lt h3 (tw_pos (e - 1))
    rw [← tw_nat, ← tw_add] at h4
    have h5 : tw ((129 : Nat) + (e - 1)) ≤ tw (F.low - 1) := tw_le (by omega)
    unfold pkx
    grind
  rw [if_neg h2]
  by_cases h3 : m = true ∧ bl S < 127
  · rw [if_pos h3]
    obtain ⟨rfl, h4⟩ := h3
    have := pkc_rnd F (S := 2 * S + 1) (m := 0) (e := e - 1) (by decide) (by omega) (by omega)
    refine F.rnd_of ?_
    unfold pkx
    rw [dbl] at this
    simpa using this
  · rw [if_neg h3]
    refine F.rnd_of ?_
    unfold pkx
    cases m
    · exact pkc_rnd F (by decide) (by have : S ≠ 0 := fun h => h0 ⟨h, rfl⟩; omega) (by simp)
    · have h4 : 127 ≤ bl S := by
        rcases Nat.lt_or_ge (bl S) 127 with h | h
        · exact absurd ⟨rfl, h⟩ h3
        · exact h
      exact pkc_rnd F (by decide) (bl_pos.1 (by omega)) (fun _ => by omega)
end Go.Proofs.Ytbpmnmceajmmcaa.Th
end
section
set_option linter.unusedVariables false
set_option linter.unusedSimpArgs false
namespace Go.Proofs.Ytbpmnmceajmmcaa.Th
open Go.RowKit Go.Proofs.YtbpmnmceajmmcaaW.PrintWords Go.Proofs.YtbpmnmceajmmcaaW.PrintLast Go.Proofs.YtbpmnmceajmmcaaW.PrintMore Go.Proofs.Ytbpmnmceajmmcaa.PA Bit Flo
def f32 : Fmt := ⟨23, -149, 255, by decide, by decide⟩
def f64 : Fmt := ⟨52, -1074, 2047, by decide, by decide⟩
def fmt (w : Int) : Fmt := if w = 32 then f32 else f64
def opn (w : Int) (a : Nat) : Bool × Int × Int × Int :=
  let F := fmt w
  let m := magN w a
  if m = 0 then (sgB w a, 0, 0, 0) else if m < F.inf then (sgB w a, 1, F.ex m, (F.sg m : Int)) else if m = F.inf then (sgB w a, 2, 0, 0) else (false, 3, 0, 0)

theorem ones32 : shape_format_ones.f 8 23 = some 255 := by decide +kernel
theorem low32 : shape_format_low.f 8 23 = some (-149) := by decide +kernel
theorem inf32 : f32.inf = 2139095040 := by decide
theorem sg32 (m : Nat) : f32.sg m = if m < 8388608 then m else 8388608 + m % 8388608 := by
  unfold Fmt.sg; rw [show (2 : Nat) ^ f32.f = 8388608 by decide]
theorem ex32 (m : Nat) : f32.ex m = if m < 8388608 then (-149 : Int) else ((m / 8388608 : Nat) : Int) - 1 + (-149) := by
  unfold Fmt.ex; rw [show (2 : Nat) ^ f32.f = 8388608 by decide]; rfl
theorem ones64 : shape_format_ones.f 11 52 = some 2047 := by decide +kernel
theorem low64 : shape_format_low.f 11 52 = some (-1074) := by decide +kernel
theorem inf64 : f64.inf = 9218868437227405312 := by decide
theorem sg64 (m : Nat) : f64.sg m = if m < 4503599627370496 then m else 4503599627370496 + m % 4503599627370496 := by
  unfold Fmt.sg; rw [show (2 : Nat) ^ f64.f = 4503599627370496 by decide]
theorem ex64 (m : Nat) : f64.ex m = if m < 4503599627370496 then (-1074 : Int) else ((m / 4503599627370496 : Nat) : Int) - 1 + (-1074) := by
  unfold Fmt.ex; rw [show (2 : Nat) ^ f64.f = 4503599627370496 by decide]; rfl
theorem join32 (s : Bool) (e fr : Nat) (he : e ≤ 255) (hf : fr < 8388608) : shape_format_join.f 8 23 s e fr = some ((mkN 32 (e * 8388608 + fr) s : Nat) : Int) := by
  unfold shape_format_join.f
  have hs : shape_format_sign.f 8 23 s = some ((((if s then 1 else 0) * 2 ^ 31 : Nat) : Int)) := by cases s <;> decide +kernel
  rw [hs, Option.bind_some, if_pos (by decide)]
  have e1 : shl .u64 (e : Int) 23 = ((e * 8388608 : Nat) : Int) := by
    unfold shl; rw [show min (23 : Int).toNat IntKind.u64.bits = 23 by decide, show (2 : Int) ^ 23 = 8388608 by decide, IntKind.wrap_u64]; omega
  rw [e1]
  have hc : (if s then 1 else 0) ≤ 1 := by cases s <;> decide
  have h2 : mkN 32 (e * 8388608 + fr) s = e * 8388608 + fr + (if s then 1 else 0) * 2147483648 := by
    unfold mkN; rw [show sb 32 = 2147483648 by decide]; cases s <;> simp
  rw [h2]
  generalize (if s then 1 else 0) = c at *
  rw [show (2 : Nat) ^ 31 = 2147483648 by decide, u64_or_nat _ _ (by omega) (by omega)]
  have h3 := or_pow (e * 8388608) c 31 (by rw [show (2 : Nat) ^ 31 = 2147483648 by decide]; omega)
  rw [show (2 : Nat) ^ 31 = 2147483648 by decide, Nat.or_comm] at h3
  rw [h3, u64_or_nat _ _ (by omega) (by omega)]
  have h4 := or_pow fr (e + c * 256) 23 (by rw [show (2 : Nat) ^ 23 = 8388608 by decide]; exact hf)
  rw [show (2 : Nat) ^ 23 = 8388608 by decide, Nat.or_comm, show (e + c * 256) * 8388608 = e * 8388608 + c * 2147483648 by omega] at h4
  rw [h4]
  congr 2
  omega
theorem shInf32 (s : Bool) : shape_Inf.f 32 s = some ((mkN 32 f32.inf s : Nat) : Int) := by
  unfold shape_Inf.f
  rw [show shape_of.f 32 = some (8, 23, true) by decide, Option.bind_some, if_pos rfl, ones32, Option.bind_some]
  have e2 := join32 s 255 0 (by decide) (by decide)
  simp only
  rw [show (255 : Int) = ((255 : Nat) : Int) from rfl, show (0 : Int) = ((0 : Nat) : Int) from rfl, e2, Option.bind_some, inf32]
theorem shZero32 (s : Bool) : shape_Zero.f 32 s = some ((mkN 32 0 s : Nat) : Int) := by
  cases s <;> decide +kernel
theorem fin32 (s : Bool) (kd : Int) (m : Nat) (h0 : 0 < m) (hm : m < f32.inf) : Ev (fun k => shape_format_finite.f k 8 23 s kd (f32.ex m) (f32.sg m : Nat)) (((mkN 32 m s : Nat) : Int), true) := by
  rw [inf32] at hm
  rw [sg32, ex32]
  unfold shape_format_finite.f
  have e2 : shl .u64 2 23 = ((16777216 : Nat) : Int) := by decide +kernel
  have e3 : shl .u64 1 23 = ((8388608 : Nat) : Int) := by decide +kernel
  have e4 : IntKind.u64.wrap (((8388608 : Nat) : Int) - 1) = ((8388607 : Nat) : Int) := by decide +kernel
  have hmod : m % 8388608 < 8388608 := Nat.mod_lt _ (by decide)
  refine Ev.bs low32 ?_
  by_cases h1 : m < 8388608
  · rw [if_pos h1, if_pos h1]
    refine Ev.neg (by omega) (Ev.pos (by decide) (Ev.neg (by rw [e2]; omega) ?_))
    refine Ev.step (fun _ => shape_format_finite.j0.eq_2 ..) ?_
    refine Ev.neg (by simp) (Ev.pos (by decide) (Ev.pos (by rw [e3]; omega) ?_))
    have h2 := join32 s 0 m (by decide) h1
    rw [Nat.zero_mul, Nat.zero_add] at h2
    exact Ev.bs h2 (Ev.out (by simp))
  · rw [if_neg h1, if_neg h1]
    refine Ev.neg (by omega) (Ev.pos (by decide) (Ev.neg (by rw [e2]; omega) ?_))
    refine Ev.step (fun _ => shape_format_finite.j0.eq_2 ..) ?_
    refine Ev.neg (by simp; omega) (Ev.pos (by decide) (Ev.neg (by rw [e3]; omega) (Ev.bs ones32 ?_)))
    have hq : m / 8388608 ≤ 254 := by omega
    have hq0 : 1 ≤ m / 8388608 := by omega
    have hmm : m = m / 8388608 * 8388608 + m % 8388608 := by omega
    have h2 := join32 s (m / 8388608) (m % 8388608) (by omega) hmod
    rw [← hmm] at h2
    generalize m / 8388608 = e at *
    generalize m % 8388608 = fr at *
    rw [show ((e : Nat) : Int) - 1 + (-149) - (-149) = ((e - 1 : Nat) : Int) by omega, w64_id (n := ((e - 1 : Nat) : Int)) (by omega) (by omega), w64_id (n := (255 : Int)) (by decide) (by decide), show wrap64 ((255 : Int) - 2) = 253 by decide +kernel]
    refine Ev.neg (by omega) ?_
    rw [u64_id (n := ((e - 1 : Nat) : Int)) (by omega) (by omega), u64_id (n := ((e - 1 : Nat) : Int) + 1) (by omega) (by omega), show ((e - 1 : Nat) : Int) + 1 = (e : Int) by omega, e3, e4, u64_and_nat _ _ (by omega) (by decide)]
    have h5 := and_low (8388608 + fr) 23
    rw [show (2 : Nat) ^ 23 - 1 = 8388607 by decide, show (2 : Nat) ^ 23 = 8388608 by decide] at h5
    rw [h5, show (8388608 + fr) % 8388608 = fr by omega]
    exact Ev.bs h2 (Ev.out rfl)
theorem close32 (s : Bool) (m : Nat) (h0 : 0 < m) (hm : m < f32.inf) : Ev (fun k => shape_Close.f k 32 s 1 (f32.ex m) (f32.sg m : Nat)) (((mkN 32 m s : Nat) : Int), 0) := by
  unfold shape_Close.f
  refine Ev.bs (show shape_of.f 32 = some (8, 23, true) by decide) (Ev.pos rfl (Ev.pos rfl (Ev.bind (fin32 s 1 m h0 hm) (Ev.pos rfl (Ev.out rfl)))))
theorem join64 (s : Bool) (e fr : Nat) (he : e ≤ 2047) (hf : fr < 4503599627370496) : shape_format_join.f 11 52 s e fr = some ((mkN 64 (e * 4503599627370496 + fr) s : Nat) : Int) := by
  unfold shape_format_join.f
  have hs : shape_format_sign.f 11 52 s = some ((((if s then 1 else 0) * 2 ^ 63 : Nat) : Int)) := by cases s <;> decide +kernel
  rw [hs, Option.bind_some, if_pos (by decide)]
  have e1 : shl .u64 (e : Int) 52 = ((e * 4503599627370496 : Nat) : Int) := by
    unfold shl; rw [show min (52 : Int).toNat IntKind.u64.bits = 52 by decide, show (2 : Int) ^ 52 = 4503599627370496 by decide, IntKind.wrap_u64]; omega
  rw [e1]
  have hc : (if s then 1 else 0) ≤ 1 := by cases s <;> decide
  have h2 : mkN 64 (e * 4503599627370496 + fr) s = e * 4503599627370496 + fr + (if s then 1 else 0) * 9223372036854775808 := by
    unfold mkN; rw [show sb 64 = 9223372036854775808 by decide]; cases s <;> simp
  rw [h2]
  generalize (if s then 1 else 0) = c at *
  rw [show (2 : Nat) ^ 63 = 9223372036854775808 by decide, u64_or_nat _ _ (by omega) (by omega)]
  have h3 := or_pow (e * 4503599627370496) c 63 (by rw [show (2 : Nat) ^ 63 = 9223372036854775808 by decide]; omega)
  rw [show (2 : Nat) ^ 63 = 9223372036854775808 by decide, Nat.or_comm] at h3
  rw [h3, u64_or_nat _ _ (by omega) (by omega)]
  have h4 := or_pow fr (e + c * 2048) 52 (by rw [show (2 : Nat) ^ 52 = 4503599627370496 by decide]; exact hf)
  rw [show (2 : Nat) ^ 52 = 4503599627370496 by decide, Nat.or_comm, show (e + c * 2048) * 4503599627370496 = e * 4503599627370496 + c * 9223372036854775808 by omega] at h4
  rw [h4]
  congr 2
  omega
theorem shInf64 (s : Bool) : shape_Inf.f 64 s = some ((mkN 64 f64.inf s : Nat) : Int) := by
  unfold shape_Inf.f
  rw [show shape_of.f 64 = some (11, 52, true) by decide, Option.bind_some, if_pos rfl, ones64, Option.bind_some]
  have e2 := join64 s 2047 0 (by decide) (by decide)
  simp only
  rw [show (2047 : Int) = ((2047 : Nat) : Int) from rfl, show (0 : Int) = ((0 : Nat) : Int) from rfl, e2, Option.bind_some, inf64]
theorem shZero64 (s : Bool) : shape_Zero.f 64 s = some ((mkN 64 0 s : Nat) : Int) := by
  cases s <;> decide +kernel
theorem fin64 (s : Bool) (kd : Int) (m : Nat) (h0 : 0 < m) (hm : m < f64.inf) : Ev (fun k => shape_format_finite.f k 11 52 s kd (f64.ex m) (f64.sg m : Nat)) (((mkN 64 m s : Nat) : Int), true) := by
  rw [inf64] at hm
  rw [sg64, ex64]
  unfold shape_format_finite.f
  have e2 : shl .u64 2 52 = ((9007199254740992 : Nat) : Int) := by decide +kernel
  have e3 : shl .u64 1 52 = ((4503599627370496 : Nat) : Int) := by decide +kernel
  have e4 : IntKind.u64.wrap (((4503599627370496 : Nat) : Int) - 1) = ((4503599627370495 : Nat) : Int) := by decide +kernel
  have hmod : m % 4503599627370496 < 4503599627370496 := Nat.mod_lt _ (by decide)
  refine Ev.bs low64 ?_
  by_cases h1 : m < 4503599627370496
  · rw [if_pos h1, if_pos h1]
    refine Ev.neg (by omega) (Ev.pos (by decide) (Ev.neg (by rw [e2]; omega) ?_))
    refine Ev.step (fun _ => shape_format_finite.j0.eq_2 ..) ?_
    refine Ev.neg (by simp) (Ev.pos (by decide) (Ev.pos (by rw [e3]; omega) ?_))
    have h2 := join64 s 0 m (by decide) h1
    rw [Nat.zero_mul, Nat.zero_add] at h2
    exact Ev.bs h2 (Ev.out (by simp))
  · rw [if_neg h1, if_neg h1]
    refine Ev.neg (by omega) (Ev.pos (by decide) (Ev.neg (by rw [e2]; omega) ?_))
    refine Ev.step (fun _ => shape_format_finite.j0.eq_2 ..) ?_
    refine Ev.neg (by simp; omega) (Ev.pos (by decide) (Ev.neg (by rw [e3]; omega) (Ev.bs ones64 ?_)))
    have hq : m / 4503599627370496 ≤ 2046 := by omega
    have hq0 : 1 ≤ m / 4503599627370496 := by omega
    have hmm : m = m / 4503599627370496 * 4503599627370496 + m % 4503599627370496 := by omega
    have h2 := join64 s (m / 4503599627370496) (m % 4503599627370496) (by omega) hmod
    rw [← hmm] at h2
    generalize m / 4503599627370496 = e at *
    generalize m % 4503599627370496 = fr at *
    rw [show ((e : Nat) : Int) - 1 + (-1074) - (-1074) = ((e - 1 : Nat) : Int) by omega, w64_id (n := ((e - 1 : Nat) : Int)) (by omega) (by omega), w64_id (n := (2047 : Int)) (by decide) (by decide), show wrap64 ((2047 : Int) - 2) = 2045 by decide +kernel]
    refine Ev.neg (by omega) ?_
    rw [u64_id (n := ((e - 1 : Nat) : Int)) (by omega) (by omega), u64_id (n := ((e - 1 : Nat) : Int) + 1) (by omega) (by omega), show ((e - 1 : Nat) : Int) + 1 = (e : Int) by omega, e3, e4, u64_and_nat _ _ (by omega) (by decide)]
    have h5 := and_low (4503599627370496 + fr) 52
    rw [show (2 : Nat) ^ 52 - 1 = 4503599627370495 by decide, show (2 : Nat) ^ 52 = 4503599627370496 by decide] at h5
    rw [h5, show (4503599627370496 + fr) % 4503599627370496 = fr by omega]
    exact Ev.bs h2 (Ev.out rfl)
theorem close64 (s : Bool) (m : Nat) (h0 : 0 < m) (hm : m < f64.inf) : Ev (fun k => shape_Close.f k 64 s 1 (f64.ex m) (f64.sg m : Nat)) (((mkN 64 m s : Nat) : Int), 0) := by
  unfold shape_Close.f
  refine Ev.bs (show shape_of.f 64 = some (11, 52, true) by decide) (Ev.pos rfl (Ev.pos rfl (Ev.bind (fin64 s 1 m h0 hm) (Ev.pos rfl (Ev.out rfl)))))
end Go.Proofs.Ytbpmnmceajmmcaa.Th
end
namespace Go.Proofs.Ytbpmnmceajmmcaa.PA
open Go.RowKit Go.Proofs.YtbpmnmceajmmcaaW.PrintWords Go.Proofs.YtbpmnmceajmmcaaW.PrintLast Go.Proofs.YtbpmnmceajmmcaaW.PrintMore
attribute [local go_sem] max2_int min2_int max_two min_two max_three min_three max_four min_four   -- for this text's walks alone
set_option linter.unusedVariables false
set_option linter.unusedSimpArgs false
set_option maxHeartbeats 8000000
set_option maxRecDepth 100000
-- IMPORT Derived.Test.YtbpmnmceajmmcaaShelf
def bits_Mul64.f (a0 : Int) (a1 : Int) : Option (Int × Int) := if (0 ≤ a0 ∧ a0 < 18446744073709551616) ∧ (0 ≤ a1 ∧ a1 < 18446744073709551616) then some (((a0.toNat * a1.toNat / 18446744073709551616 : Nat) : Int), ((a0.toNat * a1.toNat % 18446744073709551616 : Nat) : Int)) else none
theorem bits_Mul64.calls (a0 : Int) (a1 : Int) (r1 : Int) (r2 : Int) (w : World) (h : bits_Mul64.f a0 a1 = some (r1, r2)) :
  Calls Try.prog 107 #[.int .u64 a0, .int .u64 a1] w fun e w' => e = .returned (.tuple #[.int .u64 r1, .int .u64 r2]) ∧ Drawn0 w w' := by
 unfold bits_Mul64.f at h
 split at h
 ·rename_i hr
  obtain ⟨⟨h0, h1⟩, h2, h3⟩ := hr
  obtain ⟨rfl, rfl⟩ := Prod.mk.inj (Option.some.inj h)
  obtain ⟨x, rfl⟩ := Int.eq_ofNat_of_zero_le h0
  obtain ⟨y, rfl⟩ := Int.eq_ofNat_of_zero_le h2
  refine (Try.bits_Mul64 x y (by omega) (by omega) w).mono ?_
  rintro e w' ⟨rfl, rfl⟩
  exact ⟨rfl, Drawn0.refl _⟩
 ·cases h
end Go.Proofs.Ytbpmnmceajmmcaa.PA
section
set_option linter.unusedVariables false
set_option linter.unusedSimpArgs false
namespace Go.Proofs.Ytbpmnmceajmmcaa.Th
open Go.RowKit Go.Proofs.YtbpmnmceajmmcaaW.PrintWords Go.Proofs.YtbpmnmceajmmcaaW.PrintLast Go.Proofs.YtbpmnmceajmmcaaW.PrintMore Go.Proofs.Ytbpmnmceajmmcaa.PA Bit Dig
def wn (h l : Nat) : Nat := h * 18446744073709551616 + l
theorem wn_hi {h l : Nat} (hl : l < 18446744073709551616) : wn h l / 18446744073709551616 = h := by unfold wn; omega
theorem wn_lo {h l : Nat} (hl : l < 18446744073709551616) : wn h l % 18446744073709551616 = l := by unfold wn; omega
theorem wn_div (V : Nat) : wn (V / 18446744073709551616) (V % 18446744073709551616) = V := by unfold wn; omega
theorem wn_lt {h l : Nat} (hh : h < 18446744073709551616) (hl : l < 18446744073709551616) : wn h l < 340282366920938463463374607431768211456 := by unfold wn; omega
theorem p128 : (340282366920938463463374607431768211456 : Nat) = 2 ^ 128 := by decide
theorem p64 : (18446744073709551616 : Nat) = 2 ^ 64 := by decide
theorem bl_128 {n : Nat} (h : n < 340282366920938463463374607431768211456) : bl n ≤ 128 := bl_le.2 h
theorem bitLen_aux (f : Nat) : ∀ x, x < 2 ^ f → Lib.bitLenAux f x = bl x := by
  induction f with
  | zero => intro x h; obtain rfl : x = 0 := by simpa using h
            rfl
  | succ f ih =>
    intro x h
    unfold Lib.bitLenAux
    by_cases h0 : x = 0
    · rw [if_pos h0, h0, bl_zero]
    · rw [if_neg h0, ih _ (by rw [Nat.pow_succ] at h; omega), bl_half (show 0 < x by omega)]; omega
theorem bitLen_bl {x : Nat} (h : x < 18446744073709551616) : Lib.bitLen x = bl x := bitLen_aux 64 x h
theorem lenW (a b : Nat) (ha : a < 18446744073709551616) (hb : b < 18446744073709551616) : wide_Len.f a b = some ((bl (wn a b) : Nat) : Int) := by
  unfold wide_Len.f bits_Len64.f
  rw [if_pos (show 0 ≤ (a : Int) ∧ (a : Int) ≤ 18446744073709551615 by omega), if_pos (show 0 ≤ (b : Int) ∧ (b : Int) ≤ 18446744073709551615 by omega)]
  by_cases h : (a : Int) > 0
  · rw [if_pos h, Option.bind_some, Int.toNat_natCast, bitLen_bl ha]
    have h1 := bl64 ha
    have h2 := bl_add_low a b 64 (by omega) hb
    rw [w64_id (by omega) (by omega)]
    unfold wn
    rw [p64, h2]; congr 1; omega
  · rw [if_neg h, Option.bind_some, Int.toNat_natCast, bitLen_bl hb]
    have : a = 0 := by omega
    subst this
    unfold wn; rw [Nat.zero_mul, Nat.zero_add]
theorem shlN (c n : Nat) (hn : n < 64) : shl .u64 (c : Int) (n : Int) = ((c * 2 ^ n % 18446744073709551616 : Nat) : Int) := by
  unfold shl
  rw [show min ((n : Int)).toNat IntKind.u64.bits = n by rw [show IntKind.u64.bits = 64 by decide]; omega, IntKind.wrap_u64]
  have hp : (2 : Int) ^ n = ((2 ^ n : Nat) : Int) := by rw [Int.natCast_pow]; rfl
  rw [hp, ← Int.natCast_mul]; omega
theorem shrN' (c n : Nat) (hn : n < 64) : shr .u64 (c : Int) (n : Int) = ((c / 2 ^ n : Nat) : Int) := by
  unfold shr
  rw [show min ((n : Int)).toNat IntKind.u64.bits = n by rw [show IntKind.u64.bits = 64 by decide]; omega]
  have hp : (2 : Int) ^ n = ((2 ^ n : Nat) : Int) := by rw [Int.natCast_pow]; rfl
  rw [hp]; omega
theorem or_add (x y n : Nat) (hn : n ≤ 64) (hx : 2 ^ n ∣ x) (hy : y < 2 ^ n) (h : x < 18446744073709551616) (h2 : y < 18446744073709551616) : Go.bits .or .u64 (x : Int) (y : Int) = ((x + y : Nat) : Int) := by
  rw [u64_or_nat x y h h2]
  congr 1
  obtain ⟨c, rfl⟩ := hx
  rw [Nat.or_comm, Nat.mul_comm, or_pow y c n hy]; omega
theorem left_arith (h l n : Nat) (h0 : 0 < n) (hn : n < 64) (hl : l < 2 ^ 64) :
    wn h l * 2 ^ n % 2 ^ 128 / 2 ^ 64 = h * 2 ^ n % 2 ^ 64 + l / 2 ^ (64 - n) ∧ wn h l * 2 ^ n % 2 ^ 128 % 2 ^ 64 = l * 2 ^ n % 2 ^ 64 ∧ 2 ^ n ∣ h * 2 ^ n % 2 ^ 64 ∧ l / 2 ^ (64 - n) < 2 ^ n := by
  have hd : l / 2 ^ (64 - n) < 2 ^ n := by
    rw [Nat.div_lt_iff_lt_mul (Nat.pow_pos (by decide)), ← Nat.pow_add, show n + (64 - n) = 64 by omega]; exact hl
  have e64 : 2 ^ 64 = 2 ^ n * 2 ^ (64 - n) := by rw [← Nat.pow_add]; congr 1; omega
  have hdv : 2 ^ n ∣ h * 2 ^ n % 2 ^ 64 := by
    rw [e64]; exact (Nat.dvd_mod_iff (Nat.dvd_mul_right _ _)).2 (Nat.dvd_mul_left _ _)
  have hq : l * 2 ^ n = l / 2 ^ (64 - n) * 2 ^ 64 + l * 2 ^ n % 2 ^ 64 := by
    have h1 := Nat.div_add_mod (l * 2 ^ n) (2 ^ 64)
    have h2 : l * 2 ^ n / 2 ^ 64 = l / 2 ^ (64 - n) := by
      rw [e64, Nat.mul_comm l, Nat.mul_div_mul_left _ _ (Nat.pow_pos (by decide))]
    rw [h2, Nat.mul_comm] at h1
    omega
  have hlow := Nat.mod_lt (l * 2 ^ n) (show 0 < 2 ^ 64 by decide)
  have hhi := Nat.mod_lt (h * 2 ^ n) (show 0 < 2 ^ 64 by decide)
  have hh := Nat.div_add_mod (h * 2 ^ n) (2 ^ 64)
  have hv : wn h l * 2 ^ n = 2 ^ 128 * (h * 2 ^ n / 2 ^ 64) + ((h * 2 ^ n % 2 ^ 64 + l / 2 ^ (64 - n)) * 2 ^ 64 + l * 2 ^ n % 2 ^ 64) := by
    unfold wn
    rw [Nat.add_mul, p64, Nat.mul_right_comm, hq]
    generalize h * 2 ^ n = u at *
    generalize l * 2 ^ n % 2 ^ 64 = v at *
    rw [show (2 : Nat) ^ 128 = 340282366920938463463374607431768211456 by decide]
    rw [show (2 : Nat) ^ 64 = 18446744073709551616 by decide] at *
    omega
  have hs : h * 2 ^ n % 2 ^ 64 + l / 2 ^ (64 - n) < 2 ^ 64 := by
    obtain ⟨c, hc⟩ := hdv
    have h3 : c < 2 ^ (64 - n) := by
      rw [hc, e64] at hhi
      exact Nat.lt_of_mul_lt_mul_left hhi
    have h4 : 2 ^ n * (c + 1) ≤ 2 ^ n * 2 ^ (64 - n) := Nat.mul_le_mul_left _ h3
    rw [← e64, Nat.mul_add, Nat.mul_one, ← hc] at h4
    omega
  have hm : wn h l * 2 ^ n % 2 ^ 128 = (h * 2 ^ n % 2 ^ 64 + l / 2 ^ (64 - n)) * 2 ^ 64 + l * 2 ^ n % 2 ^ 64 := by
    rw [hv, Nat.mul_add_mod, Nat.mod_eq_of_lt]
    generalize h * 2 ^ n % 2 ^ 64 + l / 2 ^ (64 - n) = s at *
    generalize l * 2 ^ n % 2 ^ 64 = v at *
    rw [show (2 : Nat) ^ 128 = 340282366920938463463374607431768211456 by decide]
    rw [show (2 : Nat) ^ 64 = 18446744073709551616 by decide] at *
    omega
  refine ⟨?_, ?_, hdv, hd⟩
  · rw [hm, Nat.mul_comm, Nat.mul_add_div (by decide), Nat.div_eq_of_lt hlow, Nat.add_zero]
  · rw [hm, Nat.mul_comm, Nat.mul_add_mod, Nat.mod_mod]
def lfV (a : Nat) (n : Int) : Nat := a * 2 ^ n.toNat % 340282366920938463463374607431768211456
theorem leftW (h l : Nat) (n : Int) (hh : h < 18446744073709551616) (hl : l < 18446744073709551616) (hn : n < 9223372036854775808) :
    wide_Left.f h l n = some (((lfV (wn h l) n / 18446744073709551616 : Nat) : Int), ((lfV (wn h l) n % 18446744073709551616 : Nat) : Int)) := by
  unfold wide_Left.f lfV
  have hw := wn_lt hh hl
  by_cases h0 : n ≤ 0
  · rw [if_pos h0, show n.toNat = 0 by omega, Nat.pow_zero, Nat.mul_one, Nat.mod_eq_of_lt hw, wn_hi hl, wn_lo hl]
  · rw [if_neg h0]
    obtain ⟨m, rfl⟩ := Int.eq_ofNat_of_zero_le (show 0 ≤ n by omega)
    rw [Int.toNat_natCast]
    by_cases h1 : (m : Int) ≥ 128
    · rw [if_pos h1, p128, show m = 128 + (m - 128) by omega, Nat.pow_add, Nat.mul_left_comm, Nat.mul_mod_right]; rfl
    · rw [if_neg h1]
      by_cases h2 : (m : Int) ≥ 64
      · rw [if_pos h2, w64_id (by omega) (by omega), if_pos (by omega), show (m : Int) - 64 = ((m - 64 : Nat) : Int) by omega, shlN _ _ (by omega)]
        have e : wn h l * 2 ^ m % 340282366920938463463374607431768211456 = l * 2 ^ (m - 64) % 18446744073709551616 * 18446744073709551616 := by
          rw [show 2 ^ m = 2 ^ (m - 64) * 18446744073709551616 by rw [p64, ← Nat.pow_add]; congr 1; omega, ← Nat.mul_assoc, show (340282366920938463463374607431768211456 : Nat) = 18446744073709551616 * 18446744073709551616 by decide, Nat.mul_mod_mul_right]
          congr 1
          unfold wn
          rw [Nat.add_mul, Nat.mul_right_comm, Nat.add_comm, Nat.add_mul_mod_self_right]
        rw [e, Nat.mul_div_cancel _ (by decide), Nat.mul_mod_left]; rfl
      · rw [if_neg h2, if_pos (by omega), w64_id (by omega) (by omega), if_pos (by omega), show (64 : Int) - m = ((64 - m : Nat) : Int) by omega, shlN _ _ (by omega), shlN _ _ (by omega), shrN' _ _ (by omega)]
        obtain ⟨k1, k2, k3, k4⟩ := left_arith h l m (by omega) (by omega) hl
        rw [← p64] at k1 k2 k3
        rw [← p128] at k1 k2
        have k5 := Nat.mod_lt (h * 2 ^ m) (show 0 < 18446744073709551616 by decide)
        have k6 := Nat.div_le_self l (2 ^ (64 - m))
        rw [or_add _ _ m (by omega) k3 k4 (by omega) (by omega), k1, k2]
theorem wn_ne (V h l : Nat) (hV : V < 340282366920938463463374607431768211456) (hl : l < 18446744073709551616) :
    (!(((V / 18446744073709551616 : Nat) : Int) == (h : Int)) || !(((V % 18446744073709551616 : Nat) : Int) == (l : Int))) = decide (V ≠ wn h l) := by
  have e : (((V / 18446744073709551616 : Nat) : Int) == (h : Int)) = decide (V / 18446744073709551616 = h) := by
    rw [Bool.eq_iff_iff]; simp; omega
  have e2 : (((V % 18446744073709551616 : Nat) : Int) == (l : Int)) = decide (V % 18446744073709551616 = l) := by
    rw [Bool.eq_iff_iff]; simp; omega
  rw [e, e2]
  have h3 : V = wn h l ↔ V / 18446744073709551616 = h ∧ V % 18446744073709551616 = l := by
    unfold wn; omega
  by_cases h1 : V / 18446744073709551616 = h <;> by_cases h2 : V % 18446744073709551616 = l <;> simp [h1, h2, h3]
theorem or_add' (x y n : Nat) (hn : n ≤ 64) (hx : 2 ^ n ∣ x) (hy : y < 2 ^ n) (h : x < 18446744073709551616) (h2 : y < 18446744073709551616) : Go.bits .or .u64 (y : Int) (x : Int) = ((y + x : Nat) : Int) := by
  rw [u64_or_nat y x h2 h]
  congr 1
  obtain ⟨c, rfl⟩ := hx
  rw [Nat.mul_comm, or_pow y c n hy]
theorem gen_hi (B C h l : Nat) (hC : 0 < C) : (h * (B * C) + l) / C = h * B + l / C := by
  rw [← Nat.mul_assoc, Nat.mul_comm (h * B) C, Nat.mul_add_div hC]
theorem right_arith (h l n : Nat) (h0 : 0 < n) (hn : n < 64) (hh : h < 2 ^ 64) (hl : l < 2 ^ 64) :
    wn h l / 2 ^ n / 2 ^ 64 = h / 2 ^ n ∧ wn h l / 2 ^ n % 2 ^ 64 = l / 2 ^ n + h * 2 ^ (64 - n) % 2 ^ 64 ∧ 2 ^ (64 - n) ∣ h * 2 ^ (64 - n) % 2 ^ 64 ∧ l / 2 ^ n < 2 ^ (64 - n) := by
  have p0 : 0 < 2 ^ n := Nat.pow_pos (by decide)
  have p1 : 0 < 2 ^ (64 - n) := Nat.pow_pos (by decide)
  have e64 : 2 ^ 64 = 2 ^ (64 - n) * 2 ^ n := by rw [← Nat.pow_add]; congr 1; omega
  have hd : l / 2 ^ n < 2 ^ (64 - n) := by rw [Nat.div_lt_iff_lt_mul p0, ← e64]; exact hl
  have hdv : 2 ^ (64 - n) ∣ h * 2 ^ (64 - n) % 2 ^ 64 := by
    rw [e64]; exact (Nat.dvd_mod_iff (Nat.dvd_mul_right _ _)).2 (Nat.dvd_mul_left _ _)
  have hq : wn h l / 2 ^ n = h * 2 ^ (64 - n) + l / 2 ^ n := by
    unfold wn; rw [p64, e64]; exact gen_hi _ _ h l p0
  have hx : h * 2 ^ (64 - n) / 2 ^ 64 = h / 2 ^ n := by
    rw [e64, Nat.mul_comm (2 ^ (64 - n)), Nat.mul_div_mul_right _ _ p1]
  have hm := Nat.div_add_mod (h * 2 ^ (64 - n)) (2 ^ 64)
  have hlt := Nat.mod_lt (h * 2 ^ (64 - n)) (show 0 < 2 ^ 64 by decide)
  have hs : h * 2 ^ (64 - n) % 2 ^ 64 + l / 2 ^ n < 2 ^ 64 := by
    obtain ⟨c, hc⟩ := hdv
    have h3 : c < 2 ^ n := by
      rw [hc, e64] at hlt
      exact Nat.lt_of_mul_lt_mul_left hlt
    have h4 : 2 ^ (64 - n) * (c + 1) ≤ 2 ^ (64 - n) * 2 ^ n := Nat.mul_le_mul_left _ h3
    rw [← e64, Nat.mul_add, Nat.mul_one, ← hc] at h4
    omega
  rw [hx] at hm
  rw [hq]
  generalize h * 2 ^ (64 - n) % 2 ^ 64 = u at *
  generalize l / 2 ^ n = v at *
  rw [← hm, Nat.add_assoc]
  refine ⟨?_, ?_, hdv, hd⟩
  · rw [Nat.mul_add_div (by decide), Nat.div_eq_of_lt hs, Nat.add_zero]
  · rw [Nat.mul_add_mod, Nat.mod_eq_of_lt hs, Nat.add_comm]
theorem lost_iff (a p : Nat) (h : a < 340282366920938463463374607431768211456) : (a / p * p) % 340282366920938463463374607431768211456 ≠ a ↔ a % p ≠ 0 := by
  have h1 := Nat.div_add_mod a p
  rw [Nat.mul_comm] at h1
  have h2 : a / p * p < 340282366920938463463374607431768211456 := by omega
  rw [Nat.mod_eq_of_lt h2]
  omega
def rgV (a : Nat) (n : Int) : Nat := a / 2 ^ n.toNat
theorem rightW (h l : Nat) (n : Int) (hh : h < 18446744073709551616) (hl : l < 18446744073709551616) (hn : n < 9223372036854775808) :
    wide_Right.f h l n = some (((rgV (wn h l) n / 18446744073709551616 : Nat) : Int), ((rgV (wn h l) n % 18446744073709551616 : Nat) : Int), decide (wn h l % 2 ^ n.toNat ≠ 0)) := by
  unfold wide_Right.f rgV
  have hw := wn_lt hh hl
  by_cases h0 : n ≤ 0
  · rw [if_pos h0, show n.toNat = 0 by omega, Nat.pow_zero, Nat.div_one, Nat.mod_one, wn_hi hl, wn_lo hl]; rfl
  · rw [if_neg h0]
    obtain ⟨m, rfl⟩ := Int.eq_ofNat_of_zero_le (show 0 ≤ n by omega)
    rw [Int.toNat_natCast]
    have key : ∀ Q : Nat, Q = wn h l / 2 ^ m → (!(((lfV (wn (Q / 18446744073709551616) (Q % 18446744073709551616)) (m : Int) / 18446744073709551616 : Nat) : Int) == (h : Int)) || !(((lfV (wn (Q / 18446744073709551616) (Q % 18446744073709551616)) (m : Int) % 18446744073709551616 : Nat) : Int) == (l : Int))) = decide (wn h l % 2 ^ m ≠ 0) := by
      intro Q hQ
      rw [wn_div]
      unfold lfV
      rw [Int.toNat_natCast, hQ, wn_ne _ h l (Nat.mod_lt _ (by decide)) hl, decide_eq_decide]
      exact lost_iff _ _ hw
    by_cases h1 : (m : Int) ≥ 128
    · rw [if_pos h1]
      have hb : wn h l < 2 ^ m := Nat.lt_of_lt_of_le hw (by rw [p128]; exact Nat.pow_le_pow_right (by decide) (by omega))
      rw [Nat.div_eq_of_lt hb, Nat.mod_eq_of_lt hb]
      have e := wn_ne 0 h l (by decide) hl
      have e2 : (!((h : Int) == 0) || !((l : Int) == 0)) = decide (wn h l ≠ 0) := by
        rw [Bool.eq_iff_iff]; simp; unfold wn; omega
      rw [e2]; rfl
    · rw [if_neg h1]
      by_cases h2 : (m : Int) ≥ 64
      · rw [if_pos h2, w64_id (by omega) (by omega), show (m : Int) - 64 = ((m - 64 : Nat) : Int) by omega, shrN' _ _ (by omega)]
        have hQ : h / 2 ^ (m - 64) = wn h l / 2 ^ m := by
          rw [show 2 ^ m = 18446744073709551616 * 2 ^ (m - 64) by rw [p64, ← Nat.pow_add]; congr 1; omega, ← Nat.div_div_eq_div_mul, wn_hi hl]
        have hq1 := Nat.div_le_self h (2 ^ (m - 64))
        have k := key _ hQ
        rw [← hQ]
        generalize h / 2 ^ (m - 64) = q at *
        rw [Nat.div_eq_of_lt (show q < 18446744073709551616 by omega), Nat.mod_eq_of_lt (show q < 18446744073709551616 by omega)] at k ⊢
        have lw := leftW 0 q (m : Int) (by decide) (by omega) (by omega)
        rw [show ((0 : Nat) : Int) = 0 from rfl] at lw
        rw [lw, Option.bind_some]
        show some (0, (q : Int), _) = _
        rw [k]; rfl
      · rw [if_neg h2, w64_id (by omega) (by omega), show (64 : Int) - m = ((64 - m : Nat) : Int) by omega, shrN' _ _ (by omega), shrN' _ _ (by omega), shlN _ _ (by omega)]
        obtain ⟨k1, k2, k3, k4⟩ := right_arith h l m (by omega) (by omega) hh hl
        rw [← p64] at k1 k2 k3
        have k5 := Nat.mod_lt (h * 2 ^ (64 - m)) (show 0 < 18446744073709551616 by decide)
        have k6 := Nat.div_le_self l (2 ^ m)
        have k7 := Nat.div_le_self h (2 ^ m)
        rw [or_add' _ _ (64 - m) (by omega) k3 k4 (by omega) (by omega)]
        have k := key _ rfl
        rw [k1, k2] at k
        rw [k1, k2]
        have lw := leftW (h / 2 ^ m) (l / 2 ^ m + h * 2 ^ (64 - m) % 18446744073709551616) (m : Int) (by omega) (by rw [← k2]; exact Nat.mod_lt _ (by decide)) (by omega)
        rw [lw, Option.bind_some, k]
theorem addW (a b c d : Nat) (ha : a < 18446744073709551616) (hb : b < 18446744073709551616) (hc : c < 18446744073709551616) (hd : d < 18446744073709551616) :
    wide_Add.f a b c d = some ((((wn a b + wn c d) % 340282366920938463463374607431768211456 / 18446744073709551616 : Nat) : Int), (((wn a b + wn c d) % 340282366920938463463374607431768211456 % 18446744073709551616 : Nat) : Int)) := by
  unfold wide_Add.f wn
  rw [if_pos (by omega)]
  have e1 : ((a : Int) + (c : Int) + ((b : Int) + (d : Int)) / 18446744073709551616) % 18446744073709551616 = (((a * 18446744073709551616 + b + (c * 18446744073709551616 + d)) % 340282366920938463463374607431768211456 / 18446744073709551616 : Nat) : Int) := by omega
  have e2 : ((b : Int) + (d : Int)) % 18446744073709551616 = (((a * 18446744073709551616 + b + (c * 18446744073709551616 + d)) % 340282366920938463463374607431768211456 % 18446744073709551616 : Nat) : Int) := by omega
  rw [e1, e2]
end Go.Proofs.Ytbpmnmceajmmcaa.Th
end
section
set_option linter.unusedVariables false
set_option linter.unusedSimpArgs false
namespace Go.Proofs.Ytbpmnmceajmmcaa.Th
open Go.RowKit Go.Proofs.YtbpmnmceajmmcaaW.PrintWords Go.Proofs.YtbpmnmceajmmcaaW.PrintLast Go.Proofs.YtbpmnmceajmmcaaW.PrintMore Go.Proofs.Ytbpmnmceajmmcaa.PA Bit Flo
theorem fmt_bd' (w : Int) : (fmt w).f ≤ 52 ∧ (-5000 < (fmt w).low ∧ (fmt w).low < 0) ∧ (fmt w).top < 5000 ∧ 2 ≤ (fmt w).top := by
  unfold fmt; split <;> decide
def wH (V : Nat) : Int := ((V / 18446744073709551616 : Nat) : Int)
def wL (V : Nat) : Int := ((V % 18446744073709551616 : Nat) : Int)
theorem wHL (h l : Nat) (hl : l < 18446744073709551616) : wH (wn h l) = h ∧ wL (wn h l) = l := by unfold wH wL; rw [wn_hi hl, wn_lo hl]; exact ⟨rfl, rfl⟩
theorem hi64 {V : Nat} (h : V < 340282366920938463463374607431768211456) : V / 18446744073709551616 < 18446744073709551616 := by omega
theorem lo64 (V : Nat) : V % 18446744073709551616 < 18446744073709551616 := Nat.mod_lt _ (by decide)
theorem wLen {V : Nat} (h : V < 340282366920938463463374607431768211456) : wide_Len.f (wH V) (wL V) = some ((bl V : Nat) : Int) := by
  have := lenW (V / 18446744073709551616) (V % 18446744073709551616) (hi64 h) (lo64 V)
  rwa [wn_div] at this
theorem wLeft {V : Nat} (h : V < 340282366920938463463374607431768211456) (n : Nat) (hn : n < 1000) (hV : V * 2 ^ n < 340282366920938463463374607431768211456) : wide_Left.f (wH V) (wL V) n = some (wH (V * 2 ^ n), wL (V * 2 ^ n)) := by
  have := leftW (V / 18446744073709551616) (V % 18446744073709551616) n (hi64 h) (lo64 V) (by omega)
  rwa [wn_div, lfV, Int.toNat_natCast, Nat.mod_eq_of_lt hV] at this
theorem wRight {V : Nat} (h : V < 340282366920938463463374607431768211456) (n : Nat) (hn : n < 1099511627776) : wide_Right.f (wH V) (wL V) n = some (wH (V / 2 ^ n), wL (V / 2 ^ n), decide (V % 2 ^ n ≠ 0)) := by
  have := rightW (V / 18446744073709551616) (V % 18446744073709551616) n (hi64 h) (lo64 V) (by omega)
  rwa [wn_div, rgV, Int.toNat_natCast] at this
theorem wAdd1 {V : Nat} (h : V + 1 < 340282366920938463463374607431768211456) : wide_Add.f (wH V) (wL V) 0 1 = some (wH (V + 1), wL (V + 1)) := by
  have := addW (V / 18446744073709551616) (V % 18446744073709551616) 0 1 (hi64 (by omega)) (lo64 V) (by decide) (by decide)
  rw [wn_div, show wn 0 1 = 1 by decide, Nat.mod_eq_of_lt h] at this
  exact this
theorem wAnd1 (V : Nat) : (Go.bits .and .u64 (wL V) 1 == 1) = decide (V % 2 = 1) := by
  unfold wL
  rw [show (1 : Int) = ((1 : Nat) : Int) from rfl, u64_and_nat _ 1 (lo64 V) (by decide)]
  have h1 := and_low (V % 18446744073709551616) 1
  rw [show (2 : Nat) ^ 1 - 1 = 1 by decide, show (2 : Nat) ^ 1 = 2 by decide] at h1
  rw [h1, Bool.eq_iff_iff]; simp; omega
theorem wSmall {V : Nat} (h : V < 18446744073709551616) : wH V = 0 ∧ wL V = V := by unfold wH wL; omega
theorem shZ (w : Int) (hw : w = 32 ∨ w = 64) (s : Bool) : shape_Zero.f w s = some ((mkN w 0 s : Nat) : Int) := by rcases hw with rfl | rfl; exact shZero32 s; exact shZero64 s
theorem shI (w : Int) (hw : w = 32 ∨ w = 64) (s : Bool) : shape_Inf.f w s = some ((mkN w (fmt w).inf s : Nat) : Int) := by rcases hw with rfl | rfl; exact shInf32 s; exact shInf64 s
theorem clo (w : Int) (hw : w = 32 ∨ w = 64) (s : Bool) (m : Nat) (h0 : 0 < m) (hm : m < (fmt w).inf) : ∃ k z, shape_Close.f k w s 1 ((fmt w).ex m) ((fmt w).sg m : Nat) = some (((mkN w m s : Nat) : Int), z) := by
  rcases hw with rfl | rfl
  · obtain ⟨k, hk⟩ := (close32 s m h0 hm).rounds; exact ⟨k, 0, hk⟩
  · obtain ⟨k, hk⟩ := (close64 s m h0 hm).rounds; exact ⟨k, 0, hk⟩
end Go.Proofs.Ytbpmnmceajmmcaa.Th
end
/- round.Pack answers the nearest float, for every number in the range of exponents that it looks at. -/
namespace Go.Proofs.Ytbpmnmceajmmcaa.PA
open Go.RowKit Go.Proofs.YtbpmnmceajmmcaaW.PrintWords Go.Proofs.YtbpmnmceajmmcaaW.PrintLast Go.Proofs.YtbpmnmceajmmcaaW.PrintMore
attribute [local go_sem] max2_int min2_int max_two min_two max_three min_three max_four min_four   -- for this text's walks alone
set_option linter.unusedVariables false
set_option linter.unusedSimpArgs false
open Go.Proofs.Ytbpmnmceajmmcaa.Th Flo
theorem rp_fin (W : Int) (hw : W = 32 ∨ W = 64) (ng : Bool) (t2 t1 hi : Int) (h2 : t2 = ((2 ^ ((fmt W).f + 1) : Nat) : Int)) (h1 : t1 = ((2 ^ (fmt W).f : Nat) : Int)) (hh : hi = (fmt W).low + (fmt W).top - 2) (q R : Nat) (e3 : Int) (he : e3 = q + (fmt W).low)
    (hR : R ≤ 2 ^ ((fmt W).f + 1)) (hl : 0 < q → 2 ^ (fmt W).f ≤ R) :
    (hi < e3 ∧ shape_Inf.f W ng = some ((mkN W ((fmt W).fin q R) ng : Nat) : Int)) ∨ (e3 ≤ hi ∧ ∃ l4 e4, (((R : Int) = t2 ∧ t1 = l4 ∧ e3 + 1 = e4) ∨ ((R : Int) ≠ t2 ∧ (R : Int) = l4 ∧ e3 = e4)) ∧
      ((l4 = 0 ∧ shape_Zero.f W ng = some ((mkN W ((fmt W).fin q R) ng : Nat) : Int)) ∨ (l4 ≠ 0 ∧ hi < e4 ∧ shape_Inf.f W ng = some ((mkN W ((fmt W).fin q R) ng : Nat) : Int)) ∨ (l4 ≠ 0 ∧ e4 ≤ hi ∧ ∃ k z, shape_Close.f k W ng 1 e4 l4 = some (((mkN W ((fmt W).fin q R) ng : Nat) : Int), z)))) := by
  have hz := shZ W hw ng
  have hi_ := shI W hw ng
  have hc := clo W hw ng
  generalize fmt W = F at *
  have hp := F.pow_pos
  have ht := F.ht
  have e1 : 2 ^ (F.f + 1) = 2 ^ F.f * 2 := Nat.pow_succ ..
  by_cases c1 : F.top < q + 2
  · left
    refine ⟨by omega, ?_⟩
    have : F.fin q R = F.inf := by
      unfold Fmt.fin
      split
      · first | rfl | rw [if_pos (by omega)]
      · first | rfl | rw [if_pos c1]
    rw [this]; exact hi_
  · right
    refine ⟨by omega, ?_⟩
    by_cases c2 : R = 2 ^ (F.f + 1)
    · refine ⟨t1, e3 + 1, .inl ⟨by rw [c2, h2], rfl, rfl⟩, ?_⟩
      by_cases c3 : F.top < q + 3
      · refine .inr (.inl ⟨by rw [h1]; omega, by omega, ?_⟩)
        have : F.fin q R = F.inf := by unfold Fmt.fin; rw [if_pos c2, if_pos c3]
        rw [this]; exact hi_
      · refine .inr (.inr ⟨by rw [h1]; omega, by omega, ?_⟩)
        have e5 : F.fin q R = (q + 1) * 2 ^ F.f + 2 ^ F.f := by unfold Fmt.fin; rw [if_pos c2, if_neg c3, Nat.add_mul, Nat.add_mul]; omega
        have hm : F.fin q R < F.inf := by
          rw [e5]
          unfold Fmt.inf
          have := Nat.mul_le_mul_right (2 ^ F.f) (show q + 3 ≤ F.top by omega)
          rw [Nat.add_mul] at this ⊢
          omega
        obtain ⟨h3, h4⟩ := F.sg_mk (q + 1) (2 ^ F.f) (by omega) (fun _ => Nat.le_refl _)
        have := hc (F.fin q R) (by rw [e5]; omega) hm
        rw [e5, h3, h4, ← e5, show (((q + 1 : Nat) : Int) + F.low) = e3 + 1 by omega, ← h1] at this
        exact this
    · refine ⟨(R : Int), e3, .inr ⟨by rw [h2]; intro k; exact c2 (by exact_mod_cast k), rfl, rfl⟩, ?_⟩
      by_cases c3 : R = 0
      · left
        have hq : q = 0 := by rcases Nat.eq_zero_or_pos q with h | h; exact h; have := hl h; omega
        have : F.fin q R = 0 := by unfold Fmt.fin; rw [if_neg c2, if_neg c1, if_pos (by omega)]; exact c3
        exact ⟨by omega, by rw [this]; exact hz⟩
      · refine .inr (.inr ⟨by omega, by omega, ?_⟩)
        have e5 : F.fin q R = q * 2 ^ F.f + R := by
          unfold Fmt.fin
          rw [if_neg c2, if_neg c1]
          split
          · rcases Nat.eq_zero_or_pos q with h | h
            · rw [h]; omega
            · have := hl h; omega
          · rw [Nat.add_mul]; omega
        have hm : F.fin q R < F.inf := by
          rw [e5]
          unfold Fmt.inf
          have := Nat.mul_le_mul_right (2 ^ F.f) (show q + 2 ≤ F.top by omega)
          rw [Nat.add_mul] at this
          omega
        obtain ⟨h3, h4⟩ := F.sg_mk q R (by omega) hl
        have := hc (F.fin q R) (by rw [e5]; omega) hm
        rw [e5, h3, h4, ← e5, ← he] at this
        exact this
theorem rp_main (W f t2 t1 lo hi : Int) (hW : (W = 32 ∧ f = 23 ∧ t2 = 16777216 ∧ t1 = 8388608) ∨ (W = 64 ∧ f = 52 ∧ t2 = 9007199254740992 ∧ t1 = 4503599627370496)) (hlo : lo = (fmt W).low) (hhi : hi = (fmt W).low + (fmt W).top - 2)
    (AIM : ∀ ng h l e m, round_aim.f W ng h l e m = some (h, l, e, m, W, f, lo, hi, ng, true)) (S : Nat) (hS : S < 340282366920938463463374607431768211456) (e : Int) (m ng : Bool) (Z : S ≠ 0 ∨ m = true) (E1 : e ≤ 1048576) (E2 : -1048576 ≤ e) (w : World) :
    Calls Try.prog 36 #[.int .i64 W, .bool ng, .agg #[.int .u64 (wH S), .int .u64 (wL S)], .int .i64 e, .bool m] w fun en w' => en = .returned (.int .u64 ((mkN W (pkm (fmt W) S e m) ng : Nat) : Int)) ∧ Below w.heap.size w w' := by
  have hw : W = 32 ∨ W = 64 := by rcases hW with ⟨h, _⟩ | ⟨h, _⟩; exact .inl h; exact .inr h
  have hf : f = ((fmt W).f : Int) ∧ t2 = ((2 ^ ((fmt W).f + 1) : Nat) : Int) ∧ t1 = ((2 ^ (fmt W).f : Nat) : Int) := by
    rcases hW with ⟨rfl, rfl, rfl, rfl⟩ | ⟨rfl, rfl, rfl, rfl⟩ <;> decide
  have hbd := fmt_bd' W
  obtain ⟨hf, h2, h1⟩ := hf
  -- the number whose last bits go
  obtain ⟨S1, e1, m1, hS1, hpos, hm1, hk, hT⟩ : ∃ (S1 : Nat) (e1 : Int) (m1 : Bool), S1 < 340282366920938463463374607431768211456 ∧ 0 < S1 ∧ (m1 = true → 127 ≤ bl S1) ∧ pkm (fmt W) S e m = pkc (fmt W) S1 e1 (if m1 then 1 else 0) ∧
      ((m = true ∧ (∃ n0, wide_Len.f (wH S) (wL S) = some n0 ∧ n0 < 127) ∧ (∃ x0 x1, wide_Left.f (wH S) (wL S) 1 = some (x0, x1) ∧ wide_Add.f x0 x1 0 1 = some (wH S1, wL S1)) ∧ e - 1 = e1 ∧ m1 = false) ∨ ((m = false ∨ ∃ n0, wide_Len.f (wH S) (wL S) = some n0 ∧ 127 ≤ n0) ∧ wH S1 = wH S ∧ wL S1 = wL S ∧ e1 = e ∧ m1 = m)) := by
    have hk : pkm (fmt W) S e m = if m = true ∧ bl S < 127 then pkc (fmt W) (2 * S + 1) (e - 1) 0 else pkc (fmt W) S e (if m then 1 else 0) := by
      unfold pkm
      rw [if_neg (by rintro ⟨h1, h2⟩; rcases Z with h | h; exact h h1; rw [h2] at h; cases h), if_neg (by omega), if_neg (by omega)]
    by_cases c : m = true ∧ bl S < 127
    · rw [if_pos c] at hk
      have hlt := bl_le.1 (Nat.le_of_lt_succ (show bl S < 126 + 1 from c.2))
      rw [show (2 : Nat) ^ 126 = 85070591730234615865843651857942052864 by decide] at hlt
      have hl := wLeft hS 1 (by decide) (by omega)
      refine ⟨2 * S + 1, e - 1, false, by omega, by omega, fun h => (by cases h), (by rw [hk]; rfl), .inl ⟨c.1, ⟨_, wLen hS, by omega⟩, ⟨_, _, hl, ?_⟩, rfl, rfl⟩⟩
      rw [wAdd1 (by omega)]
      rw [show S * 2 ^ 1 + 1 = 2 * S + 1 by omega]
    · rw [if_neg c] at hk
      refine ⟨S, e, m, hS, ?_, fun h => ?_, hk, .inr ⟨?_, rfl, rfl, rfl, rfl⟩⟩
      · rcases Z with h | h
        · omega
        · have : 127 ≤ bl S := by
            rcases Nat.lt_or_ge (bl S) 127 with h3 | h3
            · exact absurd ⟨h, h3⟩ c
            · exact h3
          exact bl_pos.1 (by omega)
      · rcases Nat.lt_or_ge (bl S) 127 with h3 | h3
        · exact absurd ⟨h, h3⟩ c
        · exact h3
      · cases hm : m
        · exact .inl rfl
        · right
          refine ⟨_, wLen hS, ?_⟩
          rcases Nat.lt_or_ge (bl S) 127 with h3 | h3
          · exact absurd ⟨hm, h3⟩ c
          · omega
  have b128 := bl_128 hS1
  have he1 : -1048578 < e1 ∧ e1 < 1048578 := by rcases hT with ⟨_, _, _, h, _⟩ | ⟨_, _, _, h, _⟩ <;> omega
  rw [hk]
  have mx_ : ∀ a b : Int, mx a b = max a b := fun a b => by unfold mx; split <;> omega
  have mn_ : ∀ a b : Int, mn a b = min a b := fun a b => by unfold mn; split <;> omega
  have p54 : 2 ^ ((fmt W).f + 1) ≤ 9007199254740992 := by
    rw [show (9007199254740992 : Nat) = 2 ^ 53 by decide]; exact Nat.pow_le_pow_right (by decide) (by omega)
  by_cases c : (bl S1 : Int) - (fmt W).f - 1 ≤ 0 ∧ (fmt W).low - e1 ≤ 0
  · obtain rfl : m1 = false := by
      cases m1
      · rfl
      · have := hm1 rfl; omega
    obtain ⟨q, u, hu, hq, e5, _, hR, hl⟩ := pkc_up (fmt W) hpos c
    have e6 : pkc (fmt W) S1 e1 (if false = true then 1 else 0) = (fmt W).fin q (S1 * 2 ^ u) := e5
    rw [e6]
    have FX := rp_fin W hw ng t2 t1 hi h2 h1 hhi q (S1 * 2 ^ u) (e1 - u) (by omega) hR hl
    have hs := wSmall (V := S1 * 2 ^ u) (by omega)
    refine rp_pack W f t2 t1 lo hi hW (by omega) (wH S) (wL S) e (wH S1) (wL S1) e1 (bl S1) (max ((bl S1 : Int) - f - 1) (lo - e1)) (wH S1) (wL S1) e1 (bl S1) u (wH (S1 * 2 ^ u)) (wL (S1 * 2 ^ u)) (e1 - u) _ m false ng w (AIM _ _ _ _ _) ?_ E1 E2 hT (wLen hS1) (by omega) (mx_ _ _) (.inl ⟨by omega, rfl, rfl, rfl, rfl⟩) (wLen hS1) (by omega) ?_ ?_ ?_
    · rcases Z with h | h
      · left
        rw [Bool.and_eq_false_iff]
        by_cases h3 : S / 18446744073709551616 = 0
        · right; unfold wL; rw [beq_eq_false_iff_ne]; omega
        · left; unfold wH; rw [beq_eq_false_iff_ne]; omega
      · exact .inr h
    · rw [mn_, hf, hlo]; exact hu.symm
    · rcases Nat.eq_zero_or_pos u with h | h
      · right; subst h; exact ⟨by omega, by rw [Nat.pow_zero, Nat.mul_one], by rw [Nat.pow_zero, Nat.mul_one], by omega⟩
      · left; exact ⟨by omega, wLeft hS1 u (by omega) (by omega), rfl⟩
    · rw [hs.1, hs.2]
      rcases FX with h | ⟨h, h'⟩
      · exact .inl h
      · exact .inr ⟨h, rfl, h'⟩
  · obtain ⟨q, n, j, hj, hq, hn, e5, _, hR, hl⟩ := pkc_dn (fmt W) (S := S1) (m := if m1 then 1 else 0) (e := e1) (by cases m1 <;> decide) hpos c
    rw [e5]
    have FX := rp_fin W hw ng t2 t1 hi h2 h1 hhi q n (e1 + ((j + 1 : Nat) : Int)) (by omega) hR hl
    have hs := wSmall (V := n) (by omega)
    have hn128 : n < 340282366920938463463374607431768211456 := by omega
    have hj40 : j < 1099511627775 := by omega
    have r1 := wRight hS1 j (by omega)
    have hk1 : S1 / 2 ^ j < 340282366920938463463374607431768211456 := Nat.lt_of_le_of_lt (Nat.div_le_self _ _) hS1
    have r2 := wRight hk1 1 (by decide)
    have rb := rne_bits S1 j (if m1 then 1 else 0) (by cases m1 <;> decide)
    rw [← hn] at rb
    have hn2 := bl_128 hn128
    have hlen : (fmt W).f + 1 ≤ bl n ∨ q = 0 := by
      rcases Nat.eq_zero_or_pos q with h | h
      · exact .inr h
      · left
        have := hl h
        exact lt_bl.2 this
    refine rp_pack W f t2 t1 lo hi hW (by omega) (wH S) (wL S) e (wH S1) (wL S1) e1 (bl S1) ((j + 1 : Nat) : Int) (wH n) (wL n) (e1 + ((j + 1 : Nat) : Int)) (bl n) (min (f + 1 - bl n) (e1 + ((j + 1 : Nat) : Int) - lo)) (wH n) (wL n) (e1 + ((j + 1 : Nat) : Int)) _ m m1 ng w (AIM _ _ _ _ _) ?_ E1 E2 hT (wLen hS1) (by omega) ?_ (.inr ⟨by omega, rfl, wH (S1 / 2 ^ j), wL (S1 / 2 ^ j), wH (S1 / 2 ^ j / 2), wL (S1 / 2 ^ j / 2), decide (S1 % 2 ^ j ≠ 0), _, decide (S1 / 2 ^ j % 2 = 1 ∧ (S1 % 2 ^ j ≠ 0 ∨ (if m1 then 1 else 0) = 1 ∨ S1 / 2 ^ j / 2 % 2 = 1)), ?_, r2, ?_, ?_, ?_⟩) (wLen hn128) (by omega) (mn_ _ _) (.inr ⟨by omega, rfl, rfl, rfl⟩) ?_
    · rcases Z with h | h
      · left
        rw [Bool.and_eq_false_iff]
        by_cases h3 : S / 18446744073709551616 = 0
        · right; unfold wL; rw [beq_eq_false_iff_ne]; omega
        · left; unfold wH; rw [beq_eq_false_iff_ne]; omega
      · exact .inr h
    · rw [mx_, hf, hlo]; rw [← hj]; rfl
    · rw [show (((j + 1 : Nat) : Int) - 1) = (j : Int) by omega]; exact r1
    · rw [wAnd1, wAnd1, Bool.eq_iff_iff]
      cases m1 <;> simp
    · intro h
      rw [decide_eq_true_eq] at h
      rw [if_pos h] at rb
      rw [rb]
      exact wAdd1 (by omega)
    · intro h
      rw [decide_eq_false_iff_not] at h
      rw [if_neg h] at rb
      rw [rb]; exact ⟨rfl, rfl⟩
    · rw [hs.1, hs.2]
      rcases FX with h | ⟨h, h'⟩
      · exact .inl h
      · exact .inr ⟨h, rfl, h'⟩
end Go.Proofs.Ytbpmnmceajmmcaa.PA
/- round.Pack's short ways: no width; nought; an exponent that is too great or too small. -/
namespace Go.Proofs.Ytbpmnmceajmmcaa.PA
open Go.RowKit Go.Proofs.YtbpmnmceajmmcaaW.PrintWords Go.Proofs.YtbpmnmceajmmcaaW.PrintLast Go.Proofs.YtbpmnmceajmmcaaW.PrintMore
attribute [local go_sem] max2_int min2_int max_two min_two max_three min_three max_four min_four   -- for this text's walks alone
set_option linter.unusedVariables false
set_option linter.unusedSimpArgs false
attribute [local go_sem high] eqA42
open Go.Proofs.Ytbpmnmceajmmcaa.Th Flo
set_option maxHeartbeats 8000000 in
set_option maxRecDepth 100000 in
theorem rp_none (W : Int) (h l e : Int) (m ng : Bool) (w : World) (AIM : round_aim.f W ng h l e m = some (0, 0, 0, false, 0, 0, 0, 0, false, false)) :
    Calls Try.prog 36 #[.int .i64 W, .bool ng, .agg #[.int .u64 h, .int .u64 l], .int .i64 e, .bool m] w fun en w' => en = .returned (.int .u64 0) ∧ Below w.heap.size w w' := by
  have hu41 := Try.underlying42
  have hu95 := Try.underlying81
  have hu97 := Try.underlying83
  have A_ := Aside0.mk AIM
  clear AIM
  go_enter Try.func36, Try.ntmps36
  go_wp2_with (first | (go_at_call 73; (with_reducible refine (round_aim.calls W ng h l e m 0 0 0 false 0 0 0 0 false false _ A_.out).mono ?_); rintro en w1 ⟨rfl, hb⟩))
  go_ret
  exact ⟨rfl, below_alloc (below_step (below_alloc (Below.refl _ w) _) hb) _⟩
set_option maxHeartbeats 8000000 in
set_option maxRecDepth 100000 in
theorem rp_short (W f lo hi : Int) (h l e r : Int) (m ng : Bool) (w : World) (AIM : round_aim.f W ng h l e m = some (h, l, e, m, W, f, lo, hi, ng, true))
    (C : (h = 0 ∧ l = 0 ∧ m = false ∧ shape_Zero.f W ng = some r) ∨ (((h == 0) && (l == 0) && !m) = false ∧ ((1048576 < e ∧ shape_Inf.f W ng = some r) ∨ (e < -1048576 ∧ shape_Zero.f W ng = some r)))) :
    Calls Try.prog 36 #[.int .i64 W, .bool ng, .agg #[.int .u64 h, .int .u64 l], .int .i64 e, .bool m] w fun en w' => en = .returned (.int .u64 r) ∧ Below w.heap.size w w' := by
  have hu41 := Try.underlying42
  have hu95 := Try.underlying81
  have hu97 := Try.underlying83
  have A_ := Aside0.mk AIM
  clear AIM
  obtain ⟨bh, hh⟩ : ∃ y, (h == 0) = y := ⟨_, rfl⟩
  obtain ⟨bl_, hl⟩ : ∃ y, (l == 0) = y := ⟨_, rfl⟩
  rw [hh, hl] at C
  rcases C with ⟨rfl, rfl, rfl, B_⟩ | ⟨Z, C⟩
  · have B := Aside0.mk B_
    clear B_ hh hl
    go_enter Try.func36, Try.ntmps36
    go_wp2_with (first
      | (go_at_call 73; (with_reducible refine (round_aim.calls W ng 0 0 e false 0 0 e false W f lo hi ng true _ A_.out).mono ?_); rintro en w1 ⟨rfl, hb⟩; have sa := ((Nr.bcell hb).1 w.heap.size 0 (by simp)).trans (show _ = some (Value.int .u64 0) by simp [go_sem]); have sb := ((Nr.bcell hb).1 w.heap.size 1 (by simp)).trans (show _ = some (Value.int .u64 0) by simp [go_sem]); have hz := Nat.lt_of_lt_of_le (show w.heap.size < (w.alloc (.cells #[.int .u64 0, .int .u64 0] 42 (0, 0))).heap.size by simp) hb.size; have H1 := Aside0.mk (below_step (below_alloc (Below.refl _ w) _) hb); clear hb)
      | (go_at_call 30; (with_reducible refine (shape_Zero.calls W ng r _ B.out).mono ?_); rintro en w2 ⟨rfl, hb⟩))
    go_ret
    exact ⟨rfl, below_step (below_alloc H1.out _) hb⟩
  · have key : Aside0 ((decide (1048576 < e) = true ∧ shape_Inf.f W ng = some r) ∨ (decide (1048576 < e) = false ∧ decide (e < -1048576) = true ∧ shape_Zero.f W ng = some r)) := ⟨by
      rcases C with ⟨h1, h2⟩ | ⟨h1, h2⟩
      · exact .inl ⟨decide_eq_true h1, h2⟩
      · exact .inr ⟨decide_eq_false (by omega), decide_eq_true h1, h2⟩⟩
    clear C
    cases bh <;> cases bl_ <;> cases m <;> first
      | (exfalso; simp at Z; done)
      | (clear Z
         rcases key.out with ⟨d, B_⟩ | ⟨d, d2, B_⟩
         all_goals
          have B := Aside0.mk B_
          clear B_ key
          go_enter Try.func36, Try.ntmps36
          go_wp2_with (first
            | (go_at_call 73; (with_reducible refine (round_aim.calls W ng h l e _ h l e _ W f lo hi ng true _ A_.out).mono ?_); rintro en w1 ⟨rfl, hb⟩; have sa := ((Nr.bcell hb).1 w.heap.size 0 (by simp)).trans (show _ = some (Value.int .u64 h) by simp [go_sem]); have sb := ((Nr.bcell hb).1 w.heap.size 1 (by simp)).trans (show _ = some (Value.int .u64 l) by simp [go_sem]); have hz := Nat.lt_of_lt_of_le (show w.heap.size < (w.alloc (.cells #[.int .u64 h, .int .u64 l] 42 (0, 0))).heap.size by simp) hb.size; have H1 := Aside0.mk (below_step (below_alloc (Below.refl _ w) _) hb); clear hb)
            | (go_at_call 30; (with_reducible refine (shape_Zero.calls W ng r _ B.out).mono ?_); rintro en w2 ⟨rfl, hb⟩)
            | (go_at_call 42; (with_reducible refine (shape_Inf.calls W ng r _ B.out).mono ?_); rintro en w2 ⟨rfl, hb⟩))
          go_ret
          exact ⟨rfl, below_step (below_alloc H1.out _) hb⟩)
end Go.Proofs.Ytbpmnmceajmmcaa.PA
namespace Go.Proofs.Ytbpmnmceajmmcaa.PA
open Go.RowKit Go.Proofs.YtbpmnmceajmmcaaW.PrintWords Go.Proofs.YtbpmnmceajmmcaaW.PrintLast Go.Proofs.YtbpmnmceajmmcaaW.PrintMore
attribute [local go_sem] max2_int min2_int max_two min_two max_three min_three max_four min_four   -- for this text's walks alone
set_option linter.unusedVariables false
set_option linter.unusedSimpArgs false
set_option maxHeartbeats 8000000
set_option maxRecDepth 100000
-- IMPORT Derived.Test.YtbpmnmceajmmcaaHRpF
def round_Pack.f (a0 : Int) (a1 : Bool) (a2_0 : Int) (a2_1 : Int) (a3 : Int) (a4 : Bool) : Option (Int) :=
 if (0 ≤ a2_0 ∧ a2_0 < 18446744073709551616) ∧ (0 ≤ a2_1 ∧ a2_1 < 18446744073709551616) then
  some (if a0 = 32 ∨ a0 = 64 then ((Th.mkN a0 (Th.pkm (Th.fmt a0) (Th.wn a2_0.toNat a2_1.toNat) a3 a4) a1 : Nat) : Int) else 0) else none
theorem round_Pack.calls (a0 : Int) (a1 : Bool) (a2_0 : Int) (a2_1 : Int) (a3 : Int) (a4 : Bool) (r : Int) (w : World) (h : round_Pack.f a0 a1 a2_0 a2_1 a3 a4 = some r) :
  Calls Try.prog 36 #[.int .i64 a0, .bool a1, .agg #[.int .u64 a2_0, .int .u64 a2_1], .int .i64 a3, .bool a4] w fun e w' => e = .returned (.int .u64 r) ∧ Below w.heap.size w w' := by
 unfold round_Pack.f at h
 split at h
 rotate_left
 ·cases h
 rename_i hr
 obtain ⟨⟨p1, p2⟩, p3, p4⟩ := hr
 obtain rfl := Option.some.inj h
 obtain ⟨H, rfl⟩ := Int.eq_ofNat_of_zero_le p1
 obtain ⟨L, rfl⟩ := Int.eq_ofNat_of_zero_le p3
 rw [Int.toNat_natCast, Int.toNat_natCast]
 have hL : L < 18446744073709551616 := by omega
 have hS := Th.wn_lt (show H < 18446744073709551616 by omega) hL
 obtain ⟨e1, e2⟩ := Th.wHL H L hL
 have hz : Th.wn H L = 0 ↔ H = 0 ∧ L = 0 := by unfold Th.wn; omega
 by_cases hw : a0 = 32 ∨ a0 = 64
 ·rw [if_pos hw]
  have key : ∀ (f lo hi t2 t1 : Int), ((a0 = 32 ∧ f = 23 ∧ t2 = 16777216 ∧ t1 = 8388608) ∨ (a0 = 64 ∧ f = 52 ∧ t2 = 9007199254740992 ∧ t1 = 4503599627370496)) → lo = (Th.fmt a0).low → hi = (Th.fmt a0).low + (Th.fmt a0).top - 2 →
    (∀ ng h l e m, round_aim.f a0 ng h l e m = some (h, l, e, m, a0, f, lo, hi, ng, true)) → Calls Try.prog 36 #[.int .i64 a0, .bool a1, .agg #[.int .u64 (H : Int), .int .u64 (L : Int)], .int .i64 a3, .bool a4] w fun e w' => e = .returned (.int .u64 ((Th.mkN a0 (Th.pkm (Th.fmt a0) (Th.wn H L) a3 a4) a1 : Nat) : Int)) ∧ Below w.heap.size w w' := by
   intro f lo hi t2 t1 hW h1 h2 AIM
   by_cases c1 : Th.wn H L = 0 ∧ a4 = false
   ·refine rp_short a0 f lo hi H L a3 _ a4 a1 w (AIM _ _ _ _ _) (.inl ⟨by have := hz.1 c1.1; omega, by have := hz.1 c1.1; omega, c1.2, ?_⟩)
    unfold Th.pkm
    rw [if_pos c1]
    exact Th.shZ a0 hw a1
   ·have hb : (((H : Int) == 0) && ((L : Int) == 0) && !a4) = false := by
     cases a4
     ·have : ¬ (H = 0 ∧ L = 0) := fun h => c1 ⟨hz.2 h, rfl⟩
      rw [Bool.not_false, Bool.and_true, Bool.and_eq_false_iff, beq_eq_false_iff_ne, beq_eq_false_iff_ne]
      omega
     ·simp
    by_cases c2 : 1048576 < a3
    ·refine rp_short a0 f lo hi H L a3 _ a4 a1 w (AIM _ _ _ _ _) (.inr ⟨hb, .inl ⟨c2, ?_⟩⟩)
     unfold Th.pkm
     rw [if_neg c1, if_pos c2]
     exact Th.shI a0 hw a1
    ·by_cases c3 : a3 < -1048576
     ·refine rp_short a0 f lo hi H L a3 _ a4 a1 w (AIM _ _ _ _ _) (.inr ⟨hb, .inr ⟨c3, ?_⟩⟩)
      unfold Th.pkm
      rw [if_neg c1, if_neg c2, if_pos c3]
      exact Th.shZ a0 hw a1
     ·have := rp_main a0 f t2 t1 lo hi hW h1 h2 AIM (Th.wn H L) hS a3 a4 a1 (by
       cases a4
       ·exact .inl fun h => c1 ⟨h, rfl⟩
       ·exact .inr rfl) (by omega) (by omega) w
      rw [e1, e2] at this
      exact this
  rcases hw with rfl | rfl
  ·exact key 23 (-149) 104 16777216 8388608 (.inl ⟨rfl, rfl, rfl, rfl⟩) (by decide) (by decide) (fun ng h l e m => by
    unfold round_aim.f; rw [show shape_Fields.f 32 = some (8, 23) by decide, Option.bind_some, if_neg (by decide), if_pos (by decide +kernel), if_pos (by decide)]
    rw [show wrap64 ((wrap64 (2 - (shl .i64 1 (wrap64 ((8 : Int) - 1))))) - 23) = -149 by decide +kernel, show wrap64 ((wrap64 ((-149 : Int) + (shl .i64 1 8))) - 3) = 104 by decide +kernel])
  ·exact key 52 (-1074) 971 9007199254740992 4503599627370496 (.inr ⟨rfl, rfl, rfl, rfl⟩) (by decide) (by decide) (fun ng h l e m => by
    unfold round_aim.f; rw [show shape_Fields.f 64 = some (11, 52) by decide, Option.bind_some, if_neg (by decide), if_pos (by decide +kernel), if_pos (by decide)]
    rw [show wrap64 ((wrap64 (2 - (shl .i64 1 (wrap64 ((11 : Int) - 1))))) - 52) = -1074 by decide +kernel, show wrap64 ((wrap64 ((-1074 : Int) + (shl .i64 1 11))) - 3) = 971 by decide +kernel])
 ·rw [if_neg hw]
  refine rp_none a0 H L a3 a4 a1 w ?_
  unfold round_aim.f shape_Fields.f shape_of.f
  rw [if_neg (by omega), if_neg (by omega)]
  rfl
def round_Whole.f (a0 : Int) (a1 : Bool) (a2 : Int) : Option (Int) := if a1 = true then ((wide_Of.f a2).bind fun bt221 => ((round_Pack.f a0 (decide (a2 > 0)) bt221.1 bt221.2 0 false).bind fun t223 => (some t223))) else ((wide_Of.f a2).bind fun bt224 => ((round_Pack.f a0 false bt224.1 bt224.2 0 false).bind fun t226 => (some t226)))
theorem round_Whole.calls (a0 : Int) (a1 : Bool) (a2 : Int) (r : Int) (w : World) (h : round_Whole.f a0 a1 a2 = some r) :
  Calls Try.prog 65 #[.int .i64 a0, .bool a1, .int .u64 a2] w fun e w' => e = .returned (.int .u64 r) ∧ Below w.heap.size w w' := by
 have HB := A_ (Below.refl w.heap.size w)
 have H : (if a1 = true then ((wide_Of.f a2).bind fun bt221 => ((round_Pack.f a0 (decide (a2 > 0)) bt221.1 bt221.2 0 false).bind fun t223 => (some t223))) else ((wide_Of.f a2).bind fun bt224 => ((round_Pack.f a0 false bt224.1 bt224.2 0 false).bind fun t226 => (some t226)))) = some r := h
 clear h
 by_cases c4 : a1 = true
 ·subst c4
  have H1 : ((wide_Of.f a2).bind fun bt221 => ((round_Pack.f a0 (decide (a2 > 0)) bt221.1 bt221.2 0 false).bind fun t223 => (some t223))) = some r := by rw [if_pos rfl] at H; exact H
  clear H;have H := H1;clear H1
  replace H := ob_ H
  obtain ⟨⟨t221, t222⟩, A50, H⟩ := H
  replace H : ((round_Pack.f a0 (decide (a2 > 0)) t221 t222 0 false).bind fun t223 => (some t223)) = some r := H
  have A5 := A_ A50;clear A50
  replace H := ob_ H
  obtain ⟨t223, A60, H⟩ := H
  replace H : (some t223) = some r := H
  have A6 := A_ A60;clear A60
  obtain rfl := Option.some.inj H
  go_enter Try.func65, Try.ntmps65
  go_wp2_with (first | ((with_reducible refine gate_callee (f := 39) rfl ?_); refine gl_ (some 14) Try.func39 #[.int .u64 a2] ?_; (with_reducible refine (wide_Of.calls a2 t221 t222 _ A5.out).mono ?_); rintro e w7 ⟨rfl, hb⟩; refine ⟨_, rfl, ?_⟩; replace HB := A_ (below_step (hb_ HB.out) hb); (try clear hb); (try clear hb2); (try clear hk); (try clear hi)) | ((with_reducible refine gate_callee (f := 36) rfl ?_); refine gl_ (some 15) Try.func36 #[.int .i64 a0, .bool (decide (a2 > 0)), .agg #[.int .u64 t221, .int .u64 t222], .int .i64 0, .bool false] ?_; (with_reducible refine (round_Pack.calls a0 (decide (a2 > 0)) t221 t222 0 false t223 _ A6.out).mono ?_); rintro e w8 ⟨rfl, hb⟩; refine ⟨_, rfl, ?_⟩; replace HB := A_ (below_step (hb_ HB.out) hb); (try clear hb); (try clear hb2); (try clear hk); (try clear hi)))
  go_ret
  exact ⟨er_, hb_ HB.out⟩
 ·replace c4 := Bool.eq_false_iff.mpr c4
  subst c4
  have H1 : ((wide_Of.f a2).bind fun bt224 => ((round_Pack.f a0 false bt224.1 bt224.2 0 false).bind fun t226 => (some t226))) = some r := by rw [if_neg (show ¬ (false = true) by decide)] at H; exact H
  clear H;have H := H1;clear H1
  replace H := ob_ H
  obtain ⟨⟨t224, t225⟩, A90, H⟩ := H
  replace H : ((round_Pack.f a0 false t224 t225 0 false).bind fun t226 => (some t226)) = some r := H
  have A9 := A_ A90;clear A90
  replace H := ob_ H
  obtain ⟨t226, A100, H⟩ := H
  replace H : (some t226) = some r := H
  have A10 := A_ A100;clear A100
  obtain rfl := Option.some.inj H
  go_enter Try.func65, Try.ntmps65
  go_wp2_with (first | ((with_reducible refine gate_callee (f := 39) rfl ?_); refine gl_ (some 14) Try.func39 #[.int .u64 a2] ?_; (with_reducible refine (wide_Of.calls a2 t224 t225 _ A9.out).mono ?_); rintro e w11 ⟨rfl, hb⟩; refine ⟨_, rfl, ?_⟩; replace HB := A_ (below_step (hb_ HB.out) hb); (try clear hb); (try clear hb2); (try clear hk); (try clear hi)) | ((with_reducible refine gate_callee (f := 36) rfl ?_); refine gl_ (some 15) Try.func36 #[.int .i64 a0, .bool false, .agg #[.int .u64 t224, .int .u64 t225], .int .i64 0, .bool false] ?_; (with_reducible refine (round_Pack.calls a0 false t224 t225 0 false t226 _ A10.out).mono ?_); rintro e w12 ⟨rfl, hb⟩; refine ⟨_, rfl, ?_⟩; replace HB := A_ (below_step (hb_ HB.out) hb); (try clear hb); (try clear hb2); (try clear hk); (try clear hi)))
  go_ret
  exact ⟨er_, hb_ HB.out⟩
def L03_awake.f : Option (Bool) := some true
theorem L03_awake.v1 : round_Whole.f 32 false 16777217 = some 1266679808 := by decide +kernel
theorem L03_awake.v2 : round_Pack.f 64 false 0 1 (-1075) false = some 0 := by decide +kernel
theorem L03_awake.v3 : round_Pack.f 64 false 0 1 (-1075) true = some 1 := by decide +kernel
theorem L03_awake.calls (r : Bool) (w : World) (h : L03_awake.f = some r) :
  Calls Try.prog 35 #[] w fun e w' => e = .returned (.bool r) ∧ Below w.heap.size w w' := by
 obtain rfl := Option.some.inj h
 have HB := A_ (Below.refl w.heap.size w)
 go_enter Try.func35, Try.ntmps35
 go_wp2_with (first
  | (go_at_call 65; (with_reducible refine (round_Whole.calls 32 false 16777217 1266679808 _ L03_awake.v1).mono ?_); rintro e w1 ⟨rfl, hb⟩; replace HB := A_ (below_step HB.out hb); clear hb)
  | (go_at_call 39; (with_reducible refine (wide_Of.calls 1 0 1 _ rfl).mono ?_); rintro e w2 ⟨rfl, hb⟩; replace HB := A_ (below_step HB.out hb); clear hb)
  | (go_at_call 36; (with_reducible refine (round_Pack.calls 64 false 0 1 (-1075) false 0 _ L03_awake.v2).mono ?_); rintro e w3 ⟨rfl, hb⟩; replace HB := A_ (below_step HB.out hb); clear hb)
  | (go_at_call 36; (with_reducible refine (round_Pack.calls 64 false 0 1 (-1075) true 1 _ L03_awake.v3).mono ?_); rintro e w4 ⟨rfl, hb⟩; replace HB := A_ (below_step HB.out hb); clear hb))
 go_ret
 exact ⟨rfl, HB.out⟩
end Go.Proofs.Ytbpmnmceajmmcaa.PA
