/- What the Go functions that the statement ProductScales reaches compute, and the mathematics on it, in the order in which one leans on the other; for every input. -/
import Derived.Test.YtbpmnmceajmmcaaVProductScales0
import Derived.Test.YtbpmnmceajmmcaaMProductScales0
import Derived.Test.YtbpmnmceajmmcaaMProductScales4
import Derived.Test.YtbpmnmceajmmcaaMProductScales9
import Derived.Test.YtbpmnmceajmmcaaMProductScales11
import Derived.Test.YtbpmnmceajmmcaaMProductScales12
import Derived.Test.YtbpmnmceajmmcaaMProductScales8
import Derived.Test.YtbpmnmceajmmcaaMProductScales3
import Derived.Test.YtbpmnmceajmmcaaMProductScales7
import Derived.Test.YtbpmnmceajmmcaaMProductScales2
import Derived.Test.YtbpmnmceajmmcaaMProductScales1
import Derived.Test.YtbpmnmceajmmcaaMProductScales6
import Derived.Test.YtbpmnmceajmmcaaMProductScales10
import Derived.Test.YtbpmnmceajmmcaaMProductScales5
namespace Go.Proofs.Ytbpmnmceajmmcaa.PA
open Go.RowKit Go.Proofs.YtbpmnmceajmmcaaW.PrintWords Go.Proofs.YtbpmnmceajmmcaaW.PrintLast Go.Proofs.YtbpmnmceajmmcaaW.PrintMore
attribute [local go_sem] max2_int min2_int max_two min_two max_three min_three max_four min_four   -- for this text's walks alone
set_option linter.unusedVariables false
set_option linter.unusedSimpArgs false
set_option maxHeartbeats 8000000
set_option maxRecDepth 100000
def r5_Scale.f (k : Nat) (a0 : Int) (a1 : Int) (a2 : Int) : Option (Int) := (r2_Open.f k a0 a1).bind fun bt607 => (if bt607.2.1 = 1 then ((r1_Of.f k bt607.2.2.2).bind fun t612 => ((r3_Exact.f k a0 bt607.1 t612 (wrap64 (bt607.2.2.1 + (mn (mx a2 (-9000)) 9000)))).bind fun t615 => (some t615))) else ((r3_Narrow.f k a0 bt607.1 bt607.2.1 bt607.2.2.1 bt607.2.2.2).bind fun t616 => (some t616)))
theorem r5_Scale.mono : ∀ a0 a1 a2 k, LeO (r5_Scale.f k a0 a1 a2) (r5_Scale.f (k + 1) a0 a1 a2) := by
 intro a0 a1 a2 k
 unfold r5_Scale.f
 repeat' first
   | (with_reducible exact r1_Of.mono _ _)
   | (with_reducible exact r2_Open.mono _ _ _)
   | (with_reducible exact r3_Exact.mono _ _ _ _ _)
   | (with_reducible exact r3_Narrow.mono _ _ _ _ _ _)
   | (with_reducible exact LeO.refl _)
   | (with_reducible exact LeO.none _)
   | (with_reducible refine LeO.ite ?_ ?_)
   | (with_reducible refine LeO.bind ?_ (fun _ => ?_))
   | exact r1_Of.mono _ _
   | exact r2_Open.mono _ _ _
   | exact r3_Exact.mono _ _ _ _ _
   | exact r3_Narrow.mono _ _ _ _ _ _
   | exact LeO.none _
   | refine LeO.ite ?_ ?_
   | refine LeO.bind ?_ (fun _ => ?_)
def r5_Scale.T3 : Bool × List (List Nat × List Nat) := (true, [([], []), ([], []), ([1], [1]), ([], []), ([3], [3]), ([4], [4]), ([], []), ([6], [6]), ([], []), ([8], [8]), ([9], [9]), ([7, 10], [7, 10]), ([0, 2, 5, 11, 5], [0, 2, 5, 11]), ([12, 12, 0, 1, 2, 3, 4, 5, 6, 7, 8, 9, 10, 11, 12], [12])])
def r5_Scale.B3 : List Nat := [0, 0, 2, 0, 8, 24, 0, 64, 0, 256, 768, 1984, 4095, 8191]
theorem r5_Scale.tab3 : rtab .any (opsOf Try.f25 3) = r5_Scale.T3 := by kernel_rfl
theorem r5_Scale.bits3 : waitsOk r5_Scale.T3.2 r5_Scale.B3 = true := by kernel_rfl
theorem r5_Scale.calls (k : Nat) (a0 : Int) (a1 : Int) (a2 : Int) (r : Int) (w : World) (h : r5_Scale.f k a0 a1 a2 = some r) :
  Calls Try.prog 25 #[.int .i64 a0, .int .u64 a1, .int .i64 a2] w fun e w' => e = .returned (.int .u64 r) ∧ Below w.heap.size w w' := by
 have hu57 := Try.underlying57
 have HB := A_ (Below.refl w.heap.size w)
 have H : ((r2_Open.f k a0 a1).bind fun bt607 => (if bt607.2.1 = 1 then ((r1_Of.f k bt607.2.2.2).bind fun t612 => ((r3_Exact.f k a0 bt607.1 t612 (wrap64 (bt607.2.2.1 + (mn (mx a2 (-9000)) 9000)))).bind fun t615 => (some t615))) else ((r3_Narrow.f k a0 bt607.1 bt607.2.1 bt607.2.2.1 bt607.2.2.2).bind fun t616 => (some t616)))) = some r := h
 clear h
 replace H := ob_ H
 obtain ⟨⟨t607, t608, t609, t610⟩, A40, H⟩ := H
 replace H : (if t608 = 1 then ((r1_Of.f k t610).bind fun t612 => ((r3_Exact.f k a0 t607 t612 (wrap64 (t609 + (mn (mx a2 (-9000)) 9000)))).bind fun t615 => (some t615))) else ((r3_Narrow.f k a0 t607 t608 t609 t610).bind fun t616 => (some t616))) = some r := H
 have A4 := A_ A40;clear A40
 by_cases c5 : t608 = 1
 ·rw [if_pos c5] at H
  have c5b0 : (t608 == 1) = true := beq_iff_eq.mpr c5
  have c5b1 : (t608 != 1) = false := bne_eq_false_iff_eq.mpr c5
  clear c5
  replace H := ob_ H
  obtain ⟨t612, A60, H⟩ := H
  replace H : ((r3_Exact.f k a0 t607 t612 (wrap64 (t609 + (mn (mx a2 (-9000)) 9000)))).bind fun t615 => (some t615)) = some r := H
  have A6 := A_ A60;clear A60
  obtain ⟨ji7, hji7⟩ : ∃ j_ : Int, (mx a2 (-9000)) = j_ := ⟨_, rfl⟩
  replace H : ((r3_Exact.f k a0 t607 t612 (wrap64 (t609 + (mn (ji7) 9000)))).bind fun t615 => (some t615)) = some r := by first | (rw [hji7] at H; exact H) | (simp only [hji7] at H ⊢; exact H)
  (try rw [hji7] at A4)
  (try rw [hji7] at A6)
  have hji7_ : (if a2 < (-9000) then (-9000) else a2) = ji7 := hji7
  obtain ⟨ji8, hji8⟩ : ∃ j_ : Int, (mn (ji7) 9000) = j_ := ⟨_, rfl⟩
  replace H : ((r3_Exact.f k a0 t607 t612 (wrap64 (t609 + (ji8)))).bind fun t615 => (some t615)) = some r := by first | (rw [hji8] at H; exact H) | (simp only [hji8] at H ⊢; exact H)
  (try rw [hji8] at A4)
  (try rw [hji8] at A6)
  have hji8_ : (if 9000 < (ji7) then 9000 else (ji7)) = ji8 := hji8
  replace H := ob_ H
  obtain ⟨t615, A90, H⟩ := H
  replace H : (some t615) = some r := H
  have A9 := A_ A90;clear A90
  obtain rfl := Option.some.inj H
  go_enter Try.func25, Try.ntmps25
  try go_wp2_with (first | ((with_reducible refine gate_callee (f := 48) rfl ?_); refine gl_ (some 10) Try.func48 #[.int .i64 a0, .int .u64 a1] ?_; (with_reducible refine (r2_Open.calls k a0 a1 t607 t608 t609 t610 _ A4.out).mono ?_); rintro e w10 ⟨rfl, hb⟩; refine ⟨_, rfl, ?_⟩; have n0_ := A_ (below_step (hb_ HB.out) hb); clear HB; have HB := n0_; clear n0_; (try clear hb); (try clear hb2); (try clear hk); (try clear hi)) | ((with_reducible refine gate_dst (N := 7) rfl ?_); refine be_ 7 #[.bool false, .int .i64 0, .int .i64 0, .int .u64 0] 57 ?_; intro gb611 hg w11 hbox hb; have n0_ := A_ (below_step (hb_ HB.out) hb); have n1_ := A_ (hbox); have n2_ := A_ (sz_ hg (hb_ HB.out)); have n3_ := A_ (sz_ hg (hb_ HB.out)); clear HB; have HB := n0_; have BK611 := n1_; have GW611 := n2_; have GE611 := n3_; clear n0_ n1_ n2_ n3_; clear hb hbox hg; have hcz12_0 : w11.cell? ⟨gb611, 0, none⟩ = some (.bool false) := bc_ BK611.out 0; have hcz12_1 : w11.cell? ⟨gb611, 1, none⟩ = some (.int .i64 0) := bc_ BK611.out 1; have hcz12_2 : w11.cell? ⟨gb611, 2, none⟩ = some (.int .i64 0) := bc_ BK611.out 2; have hcz12_3 : w11.cell? ⟨gb611, 3, none⟩ = some (.int .u64 0) := bc_ BK611.out 3; have hfz12_0 := blk_frozen BK611.out 0; have hfz12_1 := blk_frozen BK611.out 1; have hfz12_2 := blk_frozen BK611.out 2; have hfz12_3 := blk_frozen BK611.out 3))
  have n0_ : Aside0 (((((w11.setCell ⟨gb611, 0, none⟩ (.bool t607)).setCell ⟨gb611, 1, none⟩ (.int .i64 t608)).setCell ⟨gb611, 2, none⟩ (.int .i64 t609)).setCell ⟨gb611, 3, none⟩ (.int .u64 t610)).heap[gb611]? = some (.cells #[.bool t607, .int .i64 t608, .int .i64 t609, .int .u64 t610] 57 (0, 0))) := ⟨by (with_reducible repeat (first | refine blk_drewN ?_ _ | refine blk_drew ?_ | refine blk_alloc ?_ _)); refine blk_put (cs := #[.bool t607, .int .i64 t608, .int .i64 t609, .int .u64 0]) ?_ 3 _ rfl; (with_reducible repeat (first | refine blk_drewN ?_ _ | refine blk_drew ?_ | refine blk_alloc ?_ _)); refine blk_put (cs := #[.bool t607, .int .i64 t608, .int .i64 0, .int .u64 0]) ?_ 2 _ rfl; (with_reducible repeat (first | refine blk_drewN ?_ _ | refine blk_drew ?_ | refine blk_alloc ?_ _)); refine blk_put (cs := #[.bool t607, .int .i64 0, .int .i64 0, .int .u64 0]) ?_ 1 _ rfl; (with_reducible repeat (first | refine blk_drewN ?_ _ | refine blk_drew ?_ | refine blk_alloc ?_ _)); refine blk_put (cs := #[.bool false, .int .i64 0, .int .i64 0, .int .u64 0]) ?_ 0 _ rfl; (with_reducible repeat (first | refine blk_drewN ?_ _ | refine blk_drew ?_ | refine blk_alloc ?_ _)); exact BK611.out⟩
  have n1_ : Aside0 (Below w.heap.size w ((((w11.setCell ⟨gb611, 0, none⟩ (.bool t607)).setCell ⟨gb611, 1, none⟩ (.int .i64 t608)).setCell ⟨gb611, 2, none⟩ (.int .i64 t609)).setCell ⟨gb611, 3, none⟩ (.int .u64 t610))) := ⟨hb1_ HB.out GE611.out⟩
  (try clear BK611);(try clear HB)
  generalize ((((w11.setCell ⟨gb611, 0, none⟩ (.bool t607)).setCell ⟨gb611, 1, none⟩ (.int .i64 t608)).setCell ⟨gb611, 2, none⟩ (.int .i64 t609)).setCell ⟨gb611, 3, none⟩ (.int .u64 t610)) = w13 at n0_ n1_ ⊢
  have BK611 := n0_;have HB := n1_;clear n0_ n1_
  have n0_ := A_ (blk_drew BK611.out)
  have n1_ := A_ (below_drew1 HB.out)
  clear BK611;clear HB;have BK611 := n0_;have HB := n1_;clear n0_ n1_
  refine start_ (n := 14) (S := fun w' => w'.cell? ⟨gb611, 0, none⟩ = some (.bool t607) ∧ w'.cell? ⟨gb611, 1, none⟩ = some (.int .i64 t608) ∧ w'.cell? ⟨gb611, 2, none⟩ = some (.int .i64 t609) ∧ w'.cell? ⟨gb611, 3, none⟩ = some (.int .u64 t610)) (ds := []) #[false, false, false, false, false, false, false, false, false, false, false, false, false, false] (by kernel_rfl) rfl rfl ⟨bc_ BK611.out 0, bc_ BK611.out 1, bc_ BK611.out 2, bc_ BK611.out 3⟩ (fun hHeld => ?_); refine with_tabW r5_Scale.tab3 r5_Scale.bits3 (fun HT_ HW_ => ?_)
  generalize w13.drew = w14 at BK611 HB hHeld ⊢
  refine pu_ 0 (some 14) #[true, false, false, false, false, false, false, false, false, false, false, false, false, false] rfl rfl (any_of HT_.out (by kernel_rfl)) ?_
  refine pu_ 1 (some 15) #[true, true, false, false, false, false, false, false, false, false, false, false, false, false] rfl rfl (any_of HT_.out (by kernel_rfl)) ?_
  refine pu_ 3 (some 17) #[true, true, false, true, false, false, false, false, false, false, false, false, false, false] rfl rfl (any_of HT_.out (by kernel_rfl)) ?_
  refine pu_ 6 (some 20) #[true, true, false, true, false, false, true, false, false, false, false, false, false, false] rfl rfl (any_of HT_.out (by kernel_rfl)) ?_
  refine pu_ 8 (some 22) #[true, true, false, true, false, false, true, false, true, false, false, false, false, false] rfl rfl (any_of HT_.out (by kernel_rfl)) ?_
  refine pu_ 9 (some 23) #[true, true, false, true, false, false, true, false, true, true, false, false, false, false] rfl rfl (any_of HT_.out (by kernel_rfl)) ?_
  refine pu_ 10 (some 24) #[true, true, false, true, false, false, true, false, true, true, true, false, false, false] rfl rfl (any_of HT_.out (by kernel_rfl)) ?_
  refine tk4_ 2 (some 16) #[true, true, true, true, false, false, true, false, true, true, true, false, false, false] rfl rfl (take_ofW HT_.out HW_.out (by kernel_rfl)) hHeld ?_
  refine tk4_ 4 (some 18) #[true, true, true, true, true, false, true, false, true, true, true, false, false, false] rfl rfl (take_ofW HT_.out HW_.out (by kernel_rfl)) hHeld ?_
  refine tk4_ 7 (some 21) #[true, true, true, true, true, false, true, true, true, true, true, false, false, false] rfl rfl (take_ofW HT_.out HW_.out (by kernel_rfl)) hHeld ?_
  refine pu_ 11 (some 25) #[true, true, true, true, true, false, true, true, true, true, true, true, false, false] rfl rfl (any_of HT_.out (by kernel_rfl)) ?_
  refine one_ (i := 5) (N := some 19) #[true, true, true, true, true, true, true, true, true, true, true, true, false, false] rfl rfl (one_of HT_.out (by kernel_rfl)) (by decide) (fun K hK => ?_)
  refine goes_ Try.func62 (by kernel_rfl) rfl #[.int .u64 t610] (by rfl) rfl rfl mp_ ?_
  with_reducible refine (r1_Of.calls k t610 t612 _ A6.out).mono ?_
  rintro e w15 ⟨v613, rfl, ho0, hb⟩
  refine ⟨_, rfl, ?_⟩
  have n0_ := A_ (Kd.R_lower ho0 (below_size (hb1_ HB.out GE611.out)))
  have n1_ := A_ (bb_ BK611.out hb)
  have n2_ := A_ (below_step (hb1_ HB.out GE611.out) hb)
  clear BK611;clear HB;have HO614 := n0_;have BK611 := n1_;have HB := n2_;clear n0_ n1_ n2_;(try clear hb);(try clear hb2);(try clear hk);(try clear hi);(try clear ho0)
  obtain ⟨Ao16, co16, eo16⟩ := Kd.R_slice HO614.out
  (first | subst eo16 | (injection eo16 with f1_ f2_ f3_; have f4_ := f1_.symm; have f5_ := f3_.symm; clear f1_ f2_ f3_; subst f4_; subst f5_))
  refine hK.out _ _ ⟨bc_ BK611.out 0, bc_ BK611.out 1, bc_ BK611.out 2, bc_ BK611.out 3⟩ (fun hHeld => ?_)
  clear hK K
  refine norm_ (a' := ?_) ?_ ?_
  rotate_left
  ·show Act.put _ (some 19) _ = _
   simp only [Act.put, lI_, l0_, lS_, i64_w, i32_w]
   rfl
  refine one_ (i := 12) (N := some 26) #[true, true, true, true, true, true, true, true, true, true, true, true, true, false] rfl rfl (one_of HT_.out (by kernel_rfl)) (by decide) (fun K hK => ?_)
  refine goes_ Try.func60 (by kernel_rfl) rfl #[.int .i64 a0, .bool t607, .agg #[.slice Ao16 t612.length co16], .int .i64 (wrap64 (t609 + (ji8)))] (by rfl) rfl rfl (by (try simp only [List.map_toArray, List.map_cons, List.map_nil]); first | done | (simp only [hji8]; rfl) | rfl | (simp only [List.length_drop, List.length_take]; rfl)) ?_
  with_reducible refine (r3_Exact.calls k a0 t607 _ _ t612 (wrap64 (t609 + (ji8))) t615 _ ?side1 ?side2 A9.out).mono ?_
  (case side1 => repeat (first | exact (Kd.R_reads' HO614.out).2.2 | (with_reducible refine Kd.C_alloc ?_ _) | (with_reducible refine Kd.C_drewN ?_ _) | (with_reducible refine Kd.C_drew ?_)))
  (case side2 => exact (Kd.R_reads' HO614.out).2.1)
  rintro e w17 ⟨rfl, hb⟩
  refine ⟨_, rfl, ?_⟩
  have n0_ := A_ (Kd.R_below (kr_ HO614.out) hb)
  have n1_ := A_ (bb_ BK611.out hb)
  have n2_ := A_ (below_step (hb1_ HB.out GE611.out) hb)
  clear HO614;clear BK611;clear HB;have HO614 := n0_;have BK611 := n1_;have HB := n2_;clear n0_ n1_ n2_;(try clear hb);(try clear hb2);(try clear hk);(try clear hi)
  refine hK.out _ _ ⟨bc_ BK611.out 0, bc_ BK611.out 1, bc_ BK611.out 2, bc_ BK611.out 3⟩ (fun hHeld => ?_)
  clear hK K
  refine norm_ (a' := ?_) ?_ ?_
  rotate_left
  ·show Act.put _ (some 26) _ = _
   simp only [Act.put, lI_, l0_, lS_, i64_w, i32_w]
   rfl
  refine pu_ 13 (some 6) #[true, true, true, true, true, true, true, true, true, true, true, true, true, true] rfl rfl (any_of HT_.out (by kernel_rfl)) ?_
  refine done_ (done_of HT_.out (by kernel_rfl)) ?_
  try go_wp2
  go_ret
  exact ⟨by first | rfl | (simp [errW_none, errW_some] <;> rfl) | (simp only [← hji7, ← hji8]; first | rfl | (simp [errW_none, errW_some] <;> rfl)) | (simp [*, errW_none, errW_some] <;> rfl), hb1_ HB.out GE611.out⟩
 ·rw [if_neg c5] at H
  have c5b0 : (t608 == 1) = false := beq_eq_false_iff_ne.mpr c5
  have c5b1 : (t608 != 1) = true := bne_iff_ne.mpr c5
  replace H := ob_ H
  obtain ⟨t616, A180, H⟩ := H
  replace H : (some t616) = some r := H
  have A18 := A_ A180;clear A180
  obtain rfl := Option.some.inj H
  go_enter Try.func25, Try.ntmps25
  go_wp2_with (first | ((with_reducible refine gate_callee (f := 48) rfl ?_); refine gl_ (some 10) Try.func48 #[.int .i64 a0, .int .u64 a1] ?_; (with_reducible refine (r2_Open.calls k a0 a1 t607 t608 t609 t610 _ A4.out).mono ?_); rintro e w19 ⟨rfl, hb⟩; refine ⟨_, rfl, ?_⟩; have n0_ := A_ (below_step (hb_ HB.out) hb); clear HB; have HB := n0_; clear n0_; (try clear hb); (try clear hb2); (try clear hk); (try clear hi)) | ((with_reducible refine gate_dst (N := 7) rfl ?_); refine be_ 7 #[.bool false, .int .i64 0, .int .i64 0, .int .u64 0] 57 ?_; intro gb611 hg w20 hbox hb; have n0_ := A_ (below_step (hb_ HB.out) hb); have n1_ := A_ (hbox); have n2_ := A_ (sz_ hg (hb_ HB.out)); have n3_ := A_ (sz_ hg (hb_ HB.out)); clear HB; have HB := n0_; have BK611 := n1_; have GW611 := n2_; have GE611 := n3_; clear n0_ n1_ n2_ n3_; clear hb hbox hg; have hcz21_0 : w20.cell? ⟨gb611, 0, none⟩ = some (.bool false) := bc_ BK611.out 0; have hcz21_1 : w20.cell? ⟨gb611, 1, none⟩ = some (.int .i64 0) := bc_ BK611.out 1; have hcz21_2 : w20.cell? ⟨gb611, 2, none⟩ = some (.int .i64 0) := bc_ BK611.out 2; have hcz21_3 : w20.cell? ⟨gb611, 3, none⟩ = some (.int .u64 0) := bc_ BK611.out 3; have hfz21_0 := blk_frozen BK611.out 0; have hfz21_1 := blk_frozen BK611.out 1; have hfz21_2 := blk_frozen BK611.out 2; have hfz21_3 := blk_frozen BK611.out 3) | ((with_reducible refine gate_callee (f := 63) rfl ?_); refine gl_ (some 29) Try.func63 #[.int .i64 a0, .agg #[.bool t607, .int .i64 t608, .int .i64 t609, .int .u64 t610]] ?_; (with_reducible refine (r3_Narrow.calls k a0 t607 t608 t609 t610 t616 _ A18.out).mono ?_); rintro e w22 ⟨rfl, hb⟩; refine ⟨_, rfl, ?_⟩; have n0_ := A_ (blk_below (g := gb611) (o := .cells #[.bool t607, .int .i64 t608, .int .i64 t609, .int .u64 t610] 57 (0, 0)) (by (with_reducible repeat (first | refine blk_drewN ?_ _ | refine blk_drew ?_ | refine blk_alloc ?_ _)); refine blk_put (cs := #[.bool t607, .int .i64 t608, .int .i64 t609, .int .u64 0]) ?_ 3 _ rfl; (with_reducible repeat (first | refine blk_drewN ?_ _ | refine blk_drew ?_ | refine blk_alloc ?_ _)); refine blk_put (cs := #[.bool t607, .int .i64 t608, .int .i64 0, .int .u64 0]) ?_ 2 _ rfl; (with_reducible repeat (first | refine blk_drewN ?_ _ | refine blk_drew ?_ | refine blk_alloc ?_ _)); refine blk_put (cs := #[.bool t607, .int .i64 0, .int .i64 0, .int .u64 0]) ?_ 1 _ rfl; (with_reducible repeat (first | refine blk_drewN ?_ _ | refine blk_drew ?_ | refine blk_alloc ?_ _)); refine blk_put (cs := #[.bool false, .int .i64 0, .int .i64 0, .int .u64 0]) ?_ 0 _ rfl; (with_reducible repeat (first | refine blk_drewN ?_ _ | refine blk_drew ?_ | refine blk_alloc ?_ _)); exact BK611.out) hb); have n1_ := A_ (below_step (hb1_ HB.out GE611.out) hb); clear BK611; clear HB; have BK611 := n0_; have HB := n1_; clear n0_ n1_; (try clear hb); (try clear hb2); (try clear hk); (try clear hi)))
  go_ret
  exact ⟨er_, hb1_ HB.out GE611.out⟩
def L05_ProductScales.l0 : Nat → Int → Int → Int → Int → List Int → Int → Int → Option (Bool)
 | 0, _, _, _, _, _, _, _ => none
 | k + 1, x0, x1, x7, x8, x32, x33, x34 => if x34 < x33 then (if 0 ≤ x34 then (if x34 < (x32.length : Int) then ((r5_Mul.f k x0 x8 (rd x32 x34)).bind fun t623 => ((product_Scale.f k x0 (rd x32 x34) x1).bind fun t624 => ((r5_Scale.f k x0 (rd x32 x34) x1).bind fun t625 => (if t624 = t625 then (L05_ProductScales.l0 k x0 x1 x7 t623 x32 x33 (wrap64 (x34 + 1))) else (some false))))) else (none)) else (none)) else (some (x7 == x8))
def L05_ProductScales.f (k : Nat) (a0 : Int) (a1 : Int) (l2 : List Int) : Option (Bool) := (L05_awake.f k).bind fun t617 => (if t617 = true then (if (l2.length : Int) > 100 then (some true) else ((product_All.f k a0 l2).bind fun t618 => ((r2_Known.f a0).bind fun t619 => (if t619 = true then ((r5_One.f k a0).bind fun t621 => (L05_ProductScales.l0 k a0 a1 t618 t621 l2 (l2.length : Int) 0)) else (if t618 = 0 then ((product_Scale.f k a0 1 a1).bind fun t620 => (some (t620 == 0))) else (some false)))))) else (some false))
theorem L05_ProductScales.mono_l : ∀ k, (∀ y0 y1 y2 y3 y4 y5 y6, LeO (L05_ProductScales.l0 k y0 y1 y2 y3 y4 y5 y6) (L05_ProductScales.l0 (k + 1) y0 y1 y2 y3 y4 y5 y6))
 | 0 => fun _ _ _ _ _ _ _ r h => by simp [L05_ProductScales.l0] at h
 | k + 1 => by
  have ih0 := L05_ProductScales.mono_l k
  ·intro y0 y1 y2 y3 y4 y5 y6
   unfold L05_ProductScales.l0
   repeat' first
   | (with_reducible exact ih0 _ _ _ _ _ _ _)
   | (with_reducible exact product_All.mono _ _ _)
   | (with_reducible exact product_Scale.mono _ _ _ _)
   | (with_reducible exact L05_awake.mono _)
   | (with_reducible exact r5_Mul.mono _ _ _ _)
   | (with_reducible exact r5_One.mono _ _)
   | (with_reducible exact r5_Scale.mono _ _ _ _)
   | (with_reducible exact LeO.refl _)
   | (with_reducible exact LeO.none _)
   | (with_reducible refine LeO.ite ?_ ?_)
   | (with_reducible refine LeO.bind ?_ (fun _ => ?_))
   | exact ih0 _ _ _ _ _ _ _
   | exact product_All.mono _ _ _
   | exact product_Scale.mono _ _ _ _
   | exact L05_awake.mono _
   | exact r5_Mul.mono _ _ _ _
   | exact r5_One.mono _ _
   | exact r5_Scale.mono _ _ _ _
   | exact LeO.none _
   | refine LeO.ite ?_ ?_
   | refine LeO.bind ?_ (fun _ => ?_)
theorem L05_ProductScales.mono : ∀ a0 a1 a2 k, LeO (L05_ProductScales.f k a0 a1 a2) (L05_ProductScales.f (k + 1) a0 a1 a2) := by
 intro a0 a1 a2 k
 have ih0 := L05_ProductScales.mono_l k
 unfold L05_ProductScales.f
 repeat' first
   | (with_reducible exact ih0 _ _ _ _ _ _ _)
   | (with_reducible exact product_All.mono _ _ _)
   | (with_reducible exact product_Scale.mono _ _ _ _)
   | (with_reducible exact L05_awake.mono _)
   | (with_reducible exact r5_Mul.mono _ _ _ _)
   | (with_reducible exact r5_One.mono _ _)
   | (with_reducible exact r5_Scale.mono _ _ _ _)
   | (with_reducible exact LeO.refl _)
   | (with_reducible exact LeO.none _)
   | (with_reducible refine LeO.ite ?_ ?_)
   | (with_reducible refine LeO.bind ?_ (fun _ => ?_))
   | exact ih0 _ _ _ _ _ _ _
   | exact product_All.mono _ _ _
   | exact product_Scale.mono _ _ _ _
   | exact L05_awake.mono _
   | exact r5_Mul.mono _ _ _ _
   | exact r5_One.mono _ _
   | exact r5_Scale.mono _ _ _ _
   | exact LeO.none _
   | refine LeO.ite ?_ ?_
   | refine LeO.bind ?_ (fun _ => ?_)
theorem L05_ProductScales.calls (k : Nat) (a0 : Int) (a1 : Int) (A2 : Option Addr) (c2 : Nat) (l2 : List Int) (r : Bool) (w : World) (hr2 : Kd.C (Kd.int .u64) w A2 l2.length l2) (hc2 : l2.length ≤ c2) (h : L05_ProductScales.f k a0 a1 l2 = some r) (hr_ : Aside0 (r = true)) :
  Calls Try.prog 4 #[.int .i64 a0, .int .i64 a1, .slice A2 l2.length c2] w fun e w' => e = .returned (.bool r) ∧ Below w.heap.size w w' := by
 have HR2 := A_ hr2;have HC2 := A_ hc2;clear hr2 hc2
 have HB := A_ (Below.refl w.heap.size w)
 have H : ((L05_awake.f k).bind fun t617 => (if t617 = true then (if (l2.length : Int) > 100 then (some true) else ((product_All.f k a0 l2).bind fun t618 => ((r2_Known.f a0).bind fun t619 => (if t619 = true then ((r5_One.f k a0).bind fun t621 => (L05_ProductScales.l0 k a0 a1 t618 t621 l2 (l2.length : Int) 0)) else (if t618 = 0 then ((product_Scale.f k a0 1 a1).bind fun t620 => (some (t620 == 0))) else (some false)))))) else (some false))) = some r := h
 clear h
 replace H := ob_ H
 obtain ⟨t617, A40, H⟩ := H
 replace H : (if t617 = true then (if (l2.length : Int) > 100 then (some true) else ((product_All.f k a0 l2).bind fun t618 => ((r2_Known.f a0).bind fun t619 => (if t619 = true then ((r5_One.f k a0).bind fun t621 => (L05_ProductScales.l0 k a0 a1 t618 t621 l2 (l2.length : Int) 0)) else (if t618 = 0 then ((product_Scale.f k a0 1 a1).bind fun t620 => (some (t620 == 0))) else (some false)))))) else (some false)) = some r := H
 have A4 := A_ A40;clear A40
 by_cases c5 : t617 = true
 ·subst c5
  have H1 : (if (l2.length : Int) > 100 then (some true) else ((product_All.f k a0 l2).bind fun t618 => ((r2_Known.f a0).bind fun t619 => (if t619 = true then ((r5_One.f k a0).bind fun t621 => (L05_ProductScales.l0 k a0 a1 t618 t621 l2 (l2.length : Int) 0)) else (if t618 = 0 then ((product_Scale.f k a0 1 a1).bind fun t620 => (some (t620 == 0))) else (some false)))))) = some r := by rw [if_pos rfl] at H; exact H
  clear H;have H := H1;clear H1
  by_cases c6 : (l2.length : Int) > 100
  ·rw [if_pos c6] at H
   have c6b0 : decide (100 < (l2.length : Int)) = true := decide_eq_true c6
   have c6b1 : decide (100 < l2.length) = true := decide_eq_true (by omega)
   clear c6
   obtain rfl := Option.some.inj H
   go_enter Try.func4, Try.ntmps4
   go_wp2_with (first | ((with_reducible refine gate_callee (f := 15) rfl ?_); refine gl_ (some 11) Try.func15 #[] ?_; (with_reducible refine (L05_awake.calls k  true _ A4.out).mono ?_); rintro e w7 ⟨rfl, hb⟩; refine ⟨_, rfl, ?_⟩; have n0_ := A_ (below_step (hb_ HB.out) hb); clear HB; have HB := n0_; clear n0_; (try clear hb); (try clear hb2); (try clear hk); (try clear hi)))
   go_ret
   exact ⟨er_, hb_ HB.out⟩
  ·rw [if_neg c6] at H
   have c6b0 : decide (100 < (l2.length : Int)) = false := decide_eq_false c6
   have c6b1 : decide (100 < l2.length) = false := decide_eq_false (by omega)
   clear c6
   replace H := ob_ H
   obtain ⟨t618, A80, H⟩ := H
   replace H : ((r2_Known.f a0).bind fun t619 => (if t619 = true then ((r5_One.f k a0).bind fun t621 => (L05_ProductScales.l0 k a0 a1 t618 t621 l2 (l2.length : Int) 0)) else (if t618 = 0 then ((product_Scale.f k a0 1 a1).bind fun t620 => (some (t620 == 0))) else (some false)))) = some r := H
   have A8 := A_ A80;clear A80
   replace H := ob_ H
   obtain ⟨t619, A90, H⟩ := H
   replace H : (if t619 = true then ((r5_One.f k a0).bind fun t621 => (L05_ProductScales.l0 k a0 a1 t618 t621 l2 (l2.length : Int) 0)) else (if t618 = 0 then ((product_Scale.f k a0 1 a1).bind fun t620 => (some (t620 == 0))) else (some false))) = some r := H
   have A9 := A_ A90;clear A90
   by_cases c10 : t619 = true
   ·subst c10
    have H1 : ((r5_One.f k a0).bind fun t621 => (L05_ProductScales.l0 k a0 a1 t618 t621 l2 (l2.length : Int) 0)) = some r := by rw [if_pos rfl] at H; exact H
    clear H;have H := H1;clear H1
    replace H := ob_ H
    obtain ⟨t621, A110, H⟩ := H
    replace H : (L05_ProductScales.l0 k a0 a1 t618 t621 l2 (l2.length : Int) 0) = some r := H
    have A11 := A_ A110;clear A110
    have H' := A_ H
    clear H
    go_enter Try.func4, Try.ntmps4
    go_wp2_with (first | ((with_reducible refine gate_callee (f := 15) rfl ?_); refine gl_ (some 11) Try.func15 #[] ?_; (with_reducible refine (L05_awake.calls k  true _ A4.out).mono ?_); rintro e w12 ⟨rfl, hb⟩; refine ⟨_, rfl, ?_⟩; have n0_ := A_ (below_step (hb_ HB.out) hb); clear HB; have HB := n0_; clear n0_; (try clear hb); (try clear hb2); (try clear hk); (try clear hi)) | ((with_reducible refine gate_callee (f := 22) rfl ?_); refine gl_ (some 18) Try.func22 #[.int .i64 a0, .slice A2 l2.length c2] ?_; (with_reducible refine (product_All.calls k a0 _ _ l2 t618 _ ?side1 ?side2 A8.out).mono ?_); (case side1 => repeat (first | exact (Kd.C_below HR2.out HB.out) | (with_reducible refine Kd.C_alloc ?_ _) | (with_reducible refine Kd.C_drewN ?_ _) | (with_reducible refine Kd.C_drew ?_))); (case side2 => exact HC2.out); rintro e w13 ⟨rfl, hb⟩; refine ⟨_, rfl, ?_⟩; have n0_ := A_ (below_step (hb_ HB.out) hb); clear HB; have HB := n0_; clear n0_; (try clear hb); (try clear hb2); (try clear hk); (try clear hi)) | ((with_reducible refine gate_callee (f := 16) rfl ?_); refine gl_ (some 20) Try.func16 #[.int .i64 a0] ?_; (with_reducible refine (r2_Known.calls a0 true _ A9.out).mono ?_); rintro e w' ⟨rfl, ⟨nd, rfl⟩⟩; refine ⟨_, rfl, ?_⟩) | ((with_reducible refine gate_callee (f := 23) rfl ?_); refine gl_ (some 31) Try.func23 #[.int .i64 a0] ?_; (with_reducible refine (r5_One.calls k a0 t621 _ A11.out).mono ?_); rintro e w' ⟨rfl, ⟨nd, rfl⟩⟩; refine ⟨_, rfl, ?_⟩))
    go_loopg [8, 34] k (fun kq v8 v34 w' => ∃ (x8_1 : Int) (x34_1 : Int), v8 = .int .u64 x8_1 ∧ v34 = .int .i64 x34_1 ∧ Aside0 (L05_ProductScales.l0 kq a0 a1 t618 x8_1 l2 (l2.length : Int) x34_1 = some r) ∧ Aside0 (kq ≤ k) ∧ Aside0 (Below w.heap.size w w'))
    case atStart => exact ⟨(t621), (0), sm_, sm_, H', ⟨Nat.le_refl _⟩, ⟨hb_ HB.out⟩⟩
    case round =>
     clear H'
     try clear c1
     try clear c2
     try clear p2
     try clear c4
     try clear c5
     try clear c6
     try clear c6b0
     try clear c6b1
     try clear c10
     obtain ⟨x8_1, x34_1, rfl, rfl, HA, HK1, HB⟩ := hrel
     cases gk with
     | zero => exact absurd HA.out (by simp [L05_ProductScales.l0])
     | succ k1 =>
      have H := HA.out
      clear HA
      simp only [L05_ProductScales.l0] at H
      by_cases c14 : x34_1 < (l2.length : Int)
      ·rw [if_pos c14] at H
       have c14b0 : decide (x34_1 < (l2.length : Int)) = true := decide_eq_true c14
       clear c14
       by_cases c15 : 0 ≤ x34_1
       ·rw [if_pos c15] at H
        have c15b0 : decide (0 ≤ x34_1) = true := decide_eq_true c15
        clear c15
        by_cases c16 : x34_1 < (l2.length : Int)
        ·rw [if_pos c16] at H
         have c16b0 : decide (x34_1 < (l2.length : Int)) = true := decide_eq_true c16
         clear c16
         replace H := ob_ H
         obtain ⟨t623, A170, H⟩ := H
         replace H : ((product_Scale.f k1 a0 (rd l2 x34_1) a1).bind fun t624 => ((r5_Scale.f k1 a0 (rd l2 x34_1) a1).bind fun t625 => (if t624 = t625 then (L05_ProductScales.l0 k1 a0 a1 t618 t623 l2 (l2.length : Int) (wrap64 (x34_1 + 1))) else (some false)))) = some r := H
         have A17 := A_ A170;clear A170
         replace H := ob_ H
         obtain ⟨t624, A180, H⟩ := H
         replace H : ((r5_Scale.f k1 a0 (rd l2 x34_1) a1).bind fun t625 => (if t624 = t625 then (L05_ProductScales.l0 k1 a0 a1 t618 t623 l2 (l2.length : Int) (wrap64 (x34_1 + 1))) else (some false))) = some r := H
         have A18 := A_ A180;clear A180
         replace H := ob_ H
         obtain ⟨t625, A190, H⟩ := H
         replace H : (if t624 = t625 then (L05_ProductScales.l0 k1 a0 a1 t618 t623 l2 (l2.length : Int) (wrap64 (x34_1 + 1))) else (some false)) = some r := H
         have A19 := A_ A190;clear A190
         by_cases c20 : t624 = t625
         ·rw [if_pos c20] at H
          have c20b0 : (t624 == t625) = true := beq_iff_eq.mpr c20
          have c20b1 : (t624 != t625) = false := bne_eq_false_iff_eq.mpr c20
          clear c20
          have H' := A_ H
          clear H
          have p622 : 0 ≤ (x34_1 : Int) := of_decide_eq_true (by first | (with_reducible assumption) | assumption)
          have q622 : x34_1 < (l2.length : Int) := of_decide_eq_true (by first | (with_reducible assumption) | assumption)
          obtain ⟨ad622, e622, hx622_0⟩ := Kd.at_int HR2.out x34_1 p622 q622
          cases e622
          replace hx622_0 := (HB.out.cell (World.block_lt_of_cell? w _ hx622_0)).trans hx622_0
          replace p622 := eq_true p622
          replace q622 := eq_true q622
          go_wp2_with (first | ((with_reducible refine gate_callee (f := 24) rfl ?_); refine gl_ (some 41) Try.func24 #[.int .i64 a0, .int .u64 x8_1, .int .u64 (rd l2 x34_1)] ?_; (with_reducible refine (r5_Mul.calls k1 a0 x8_1 (rd l2 x34_1) t623 _ A17.out).mono ?_); rintro e w21 ⟨rfl, hb⟩; refine ⟨_, rfl, ?_⟩; have n0_ := A_ (below_step (hb_ HB.out) hb); clear HB; have HB := n0_; clear n0_; (try clear hb); (try clear hb2); (try clear hk); (try clear hi)) | ((with_reducible refine gate_callee (f := 21) rfl ?_); refine gl_ (some 45) Try.func21 #[.int .i64 a0, .int .u64 (rd l2 x34_1), .int .i64 a1] ?_; (with_reducible refine (product_Scale.calls k1 a0 (rd l2 x34_1) a1 t624 _ A18.out).mono ?_); rintro e w22 ⟨rfl, hb⟩; refine ⟨_, rfl, ?_⟩; have n0_ := A_ (below_step (hb_ HB.out) hb); clear HB; have HB := n0_; clear n0_; (try clear hb); (try clear hb2); (try clear hk); (try clear hi)) | ((with_reducible refine gate_callee (f := 25) rfl ?_); refine gl_ (some 49) Try.func25 #[.int .i64 a0, .int .u64 (rd l2 x34_1), .int .i64 a1] ?_; (with_reducible refine (r5_Scale.calls k1 a0 (rd l2 x34_1) a1 t625 _ A19.out).mono ?_); rintro e w23 ⟨rfl, hb⟩; refine ⟨_, rfl, ?_⟩; have n0_ := A_ (below_step (hb_ HB.out) hb); clear HB; have HB := n0_; clear n0_; (try clear hb); (try clear hb2); (try clear hk); (try clear hi)))
          go_roundg k1
          case measure => have := HK1.out; omega
          case rel => exact ⟨(t623), (wrap64 (x34_1 + 1)), sm_, sm_, H', ⟨by have := HK1.out; omega⟩, ⟨hb_ HB.out⟩⟩
         ·rw [if_neg c20] at H
          have c20b0 : (t624 == t625) = false := beq_eq_false_iff_ne.mpr c20
          have c20b1 : (t624 != t625) = true := bne_iff_ne.mpr c20
          exact absurd ((Option.some.inj H).trans hr_.out) (by decide)
        ·rw [if_neg c16] at H
         exact absurd H (by simp)
       ·rw [if_neg c15] at H
        exact absurd H (by simp)
      ·rw [if_neg c14] at H
       have c14b0 : decide (x34_1 < (l2.length : Int)) = false := decide_eq_false c14
       clear c14
       obtain rfl := Option.some.inj H
       go_wp2
       go_ret
       exact ⟨er_, hb_ HB.out⟩
   ·replace c10 := Bool.eq_false_iff.mpr c10
    subst c10
    have H1 : (if t618 = 0 then ((product_Scale.f k a0 1 a1).bind fun t620 => (some (t620 == 0))) else (some false)) = some r := by rw [if_neg (show ¬ (false = true) by decide)] at H; exact H
    clear H;have H := H1;clear H1
    by_cases c24 : t618 = 0
    ·rw [if_pos c24] at H
     have c24b0 : (t618 == 0) = true := beq_iff_eq.mpr c24
     have c24b1 : (t618 != 0) = false := bne_eq_false_iff_eq.mpr c24
     clear c24
     replace H := ob_ H
     obtain ⟨t620, A250, H⟩ := H
     replace H : (some (t620 == 0)) = some r := H
     have A25 := A_ A250;clear A250
     obtain rfl := Option.some.inj H
     go_enter Try.func4, Try.ntmps4
     go_wp2_with (first | ((with_reducible refine gate_callee (f := 15) rfl ?_); refine gl_ (some 11) Try.func15 #[] ?_; (with_reducible refine (L05_awake.calls k  true _ A4.out).mono ?_); rintro e w26 ⟨rfl, hb⟩; refine ⟨_, rfl, ?_⟩; have n0_ := A_ (below_step (hb_ HB.out) hb); clear HB; have HB := n0_; clear n0_; (try clear hb); (try clear hb2); (try clear hk); (try clear hi)) | ((with_reducible refine gate_callee (f := 22) rfl ?_); refine gl_ (some 18) Try.func22 #[.int .i64 a0, .slice A2 l2.length c2] ?_; (with_reducible refine (product_All.calls k a0 _ _ l2 t618 _ ?side1 ?side2 A8.out).mono ?_); (case side1 => repeat (first | exact (Kd.C_below HR2.out HB.out) | (with_reducible refine Kd.C_alloc ?_ _) | (with_reducible refine Kd.C_drewN ?_ _) | (with_reducible refine Kd.C_drew ?_))); (case side2 => exact HC2.out); rintro e w27 ⟨rfl, hb⟩; refine ⟨_, rfl, ?_⟩; have n0_ := A_ (below_step (hb_ HB.out) hb); clear HB; have HB := n0_; clear n0_; (try clear hb); (try clear hb2); (try clear hk); (try clear hi)) | ((with_reducible refine gate_callee (f := 16) rfl ?_); refine gl_ (some 20) Try.func16 #[.int .i64 a0] ?_; (with_reducible refine (r2_Known.calls a0 false _ A9.out).mono ?_); rintro e w' ⟨rfl, ⟨nd, rfl⟩⟩; refine ⟨_, rfl, ?_⟩) | (go_at_call 21; (with_reducible refine (product_Scale.calls k a0 1 a1 t620 _ A25.out).mono ?_); rintro e w28 ⟨rfl, hb⟩; have n0_ := A_ (below_step (hb_ HB.out) hb); clear HB; have HB := n0_; clear n0_; (try clear hb); (try clear hb2); (try clear hk); (try clear hi)))
     go_ret
     exact ⟨er_, hb_ HB.out⟩
    ·rw [if_neg c24] at H
     have c24b0 : (t618 == 0) = false := beq_eq_false_iff_ne.mpr c24
     have c24b1 : (t618 != 0) = true := bne_iff_ne.mpr c24
     exact absurd ((Option.some.inj H).trans hr_.out) (by decide)
 ·replace c5 := Bool.eq_false_iff.mpr c5
  subst c5
  have H1 : (some false) = some r := by rw [if_neg (show ¬ (false = true) by decide)] at H; exact H
  clear H;have H := H1;clear H1
  exact absurd ((Option.some.inj H).trans hr_.out) (by decide)
def L05_ProductScales.Pure : Prop := ∀ (a0 : Int) (a1 : Int) (l2 : List Int), (Lit.int .i64 a0).wf = true → (Lit.int .i64 a1).wf = true → l2.length ≤ maxLen → l2.length * 8 ≤ 140737488351232 → (∀ x ∈ l2, (Lit.int .u64 x).wf = true) → ∃ k, L05_ProductScales.f k a0 a1 l2 = some true
theorem L05_ProductScales.walk (P : L05_ProductScales.Pure) (a0 : Int) (a1 : Int) (a2 : Option Addr) (len2 cap2 : Nat) (z2 : List Int) (w : World) (w0 : (Lit.int .i64 a0).wf = true) (w1 : (Lit.int .i64 a1).wf = true) (w2 : (a2 = none ∧ len2 = 0 ∧ cap2 = 0 ∧ z2 = []) ∨ ∃ x, a2 = some x ∧ len2 ≤ cap2 ∧ cap2 ≤ maxLen ∧ z2.length = cap2 ∧ (∀ i, i < z2.length → w.cell? (x.add i) = some (.int .u64 (z2.getD i 0))) ∧ ∀ n ∈ z2, (Lit.int .u64 n).wf = true) (y2 : len2 * 8 ≤ 140737488351232) :
  Calls Try.prog 4 #[.int .i64 a0, .int .i64 a1, .slice a2 len2 cap2] w fun e w' => e = .returned (.bool true) ∧ Below w.heap.size w w' := by
 obtain ⟨l2, rfl, hr2, hm2, hw2, hc2⟩ := ReadsInt.ofRowC w2
 obtain ⟨k, h⟩ := P a0 a1 l2 w0 w1 hm2 y2 hw2
 refine (L05_ProductScales.calls k a0 a1 _ _ l2 true w (Kd.C_of_reads (d := (0 : Int)) (h1 := fun _ => rfl) hr2) hc2 h ⟨rfl⟩).mono ?_
 rintro e w' ⟨rfl, hd⟩
 exact ⟨rfl, hd⟩
end Go.Proofs.Ytbpmnmceajmmcaa.PA
section
set_option linter.unusedVariables false
set_option linter.unusedSimpArgs false
namespace Go.Proofs.Ytbpmnmceajmmcaa.Th
open Go.RowKit Go.Proofs.YtbpmnmceajmmcaaW.PrintWords Go.Proofs.YtbpmnmceajmmcaaW.PrintLast Go.Proofs.YtbpmnmceajmmcaaW.PrintMore Go.Proofs.Ytbpmnmceajmmcaa.PA Bit Flo
theorem two_i {n : Int} (m : Nat) (h : n = m) (hm : m < 64) : Ev (fun k => r2_Two.f k n) ((2 ^ m : Nat) : Int) := by subst h; exact two_f m hm

theorem r2E32 : r2_E.f 32 = some 8 := by decide +kernel
theorem r2F32 : r2_F.f 32 = some 23 := by decide +kernel
theorem r2B32 : r2_B.f 32 = some 127 := by decide +kernel
theorem r2Tf32 : Ev (fun k => r2_Two.f k 23) ((8388608 : Nat) : Int) := by have h := two_i (n := 23) 23 rfl (by decide); rw [show (2 : Nat) ^ 23 = 8388608 by decide] at h; exact h
theorem r2Te32 : Ev (fun k => r2_Two.f k 8) ((256 : Nat) : Int) := by have h := two_i (n := 8) 8 rfl (by decide); rw [show (2 : Nat) ^ 8 = 256 by decide] at h; exact h
theorem r2Ts32 : Ev (fun k => r2_Two.f k (wrap64 (32 - 1))) ((2147483648 : Nat) : Int) := by have h := two_i (n := wrap64 (32 - 1)) 31 (by decide +kernel) (by decide); rw [show (2 : Nat) ^ 31 = 2147483648 by decide] at h; exact h
theorem r2Th32 : Ev (fun k => r2_Two.f k (wrap64 (23 - 1))) ((4194304 : Nat) : Int) := by have h := two_i (n := wrap64 (23 - 1)) 22 (by decide +kernel) (by decide); rw [show (2 : Nat) ^ 22 = 4194304 by decide] at h; exact h
theorem r2Exp32 (a : Nat) (ha : a < 18446744073709551616) : Ev (fun k => r2_Exp.f k 32 a) ((a / 8388608 % 256 : Nat) : Int) := by
  unfold r2_Exp.f
  refine Ev.bs (r2Cut 32 a (by decide)) (Ev.bs r2F32 (Ev.bind r2Tf32 (Ev.neg (by decide) (Ev.bs r2E32 (Ev.bind r2Te32 (Ev.neg (by decide) (Ev.out ?_)))))))
  have hc : cutN 32 a = a % 4294967296 := by unfold cutN; rw [if_pos rfl]
  rw [hc, Int.tdiv_eq_ediv_of_nonneg (by omega), u64_id (by omega) (by omega), Int.tmod_eq_emod_of_nonneg (by omega), w64_id (by omega) (by omega)]
  omega
theorem r2Frac32 (a : Nat) (ha : a < 18446744073709551616) : Ev (fun k => r2_Frac.f k 32 a) ((a % 8388608 : Nat) : Int) := by
  unfold r2_Frac.f
  refine Ev.bs r2F32 (Ev.bind r2Tf32 (Ev.neg (by decide) (Ev.out ?_)))
  rw [Int.tmod_eq_emod_of_nonneg (by omega)]; omega
theorem r2Top32 : Ev (fun k => r2_Top.f k 32) ((255 : Nat) : Int) := by
  unfold r2_Top.f
  exact Ev.bs r2E32 (Ev.bind r2Te32 (Ev.out (by decide +kernel)))
theorem r2Make32 (s : Bool) (e fr : Nat) (he : e ≤ 255) (hf : fr < 8388608) : Ev (fun k => r2_Make.f k 32 s e fr) ((mkN 32 (e * 8388608 + fr) s : Nat) : Int) := by
  unfold r2_Make.f
  refine Ev.bs r2F32 (Ev.bind r2Tf32 ?_)
  rw [u64_id (n := (e : Int)) (by omega) (by omega), u64_id (n := (e : Int) * ((8388608 : Nat) : Int)) (by omega) (by omega), u64_id (n := (e : Int) * ((8388608 : Nat) : Int) + fr) (by omega) (by omega)]
  unfold mkN
  rw [show sb 32 = 2147483648 by decide]
  cases s
  · exact Ev.neg (by decide) (Ev.out (by simp))
  · refine Ev.pos rfl (Ev.bind r2Ts32 (Ev.out ?_))
    rw [u64_id (by omega) (by omega)]; simp only [if_true]; omega
theorem r2Nan32 : Ev (fun k => r2_Nan.f k 32) ((nanN 32 : Nat) : Int) := by
  unfold r2_Nan.f
  refine Ev.bind r2Top32 (Ev.bs r2F32 (Ev.bind r2Th32 (Ev.bind (r2Make32 false 255 4194304 (by decide) (by decide)) (Ev.out (by decide)))))
theorem r2Inf32 (s : Bool) : Ev (fun k => r2_Inf.f k 32 s) ((mkN 32 f32.inf s : Nat) : Int) := by
  unfold r2_Inf.f
  have h := r2Make32 s 255 0 (by decide) (by decide)
  exact Ev.bind r2Top32 (Ev.bind h (Ev.out (by rw [inf32])))
theorem r2Open32 (a : Nat) (ha : a < 18446744073709551616) : Ev (fun k => r2_Open.f k 32 a) (opn 32 a) := by
  rw [opn32]
  unfold r2_Open.f
  refine Ev.bind (r2Exp32 a ha) (Ev.bind (r2Frac32 a ha) (Ev.bind (r2Neg 32 (by decide) a ha) (Ev.bind r2Top32 ?_)))
  unfold sgB
  rw [show sb 32 = 2147483648 by decide]
  have hP : a % 2147483648 % 8388608 = a % 8388608 := by omega
  have hQ : a % 2147483648 / 8388608 = a / 8388608 % 256 := by omega
  have hT : a / 8388608 % 256 < 256 := Nat.mod_lt _ (by decide)
  have hE : a % 2147483648 = a / 8388608 % 256 * 8388608 + a % 8388608 := by omega
  rw [hP, hQ, hE]
  generalize a / 8388608 % 256 = e at *
  have hF : a % 8388608 < 8388608 := Nat.mod_lt _ (by decide)
  generalize a % 8388608 = fr at *
  generalize decide (a / 2147483648 % 2 = 1) = s
  by_cases h1 : e = 255
  · subst h1
    refine Ev.pos rfl ?_
    by_cases h2 : fr = 0
    · subst h2
      refine Ev.pos rfl (Ev.out ?_)
      rw [if_neg (by omega), if_neg (by omega), if_pos (by omega)]
    · refine Ev.neg (by omega) (Ev.out ?_)
      rw [if_neg (by omega), if_neg (by omega), if_neg (by omega)]
  · refine Ev.neg (by omega) ?_
    by_cases h2 : e = 0
    · subst h2
      refine Ev.pos rfl ?_
      by_cases h3 : fr = 0
      · subst h3
        refine Ev.pos rfl (Ev.out ?_)
        rw [Nat.zero_mul, Nat.zero_add, if_pos rfl]
      · refine Ev.neg (by omega) (Ev.bs r2B32 (Ev.bs r2F32 (Ev.out ?_)))
        rw [if_neg (by omega), if_pos (by omega), if_pos (by omega), if_pos (by omega), show wrap64 (wrap64 (1 - 127) - 23) = (-149 : Int) by decide +kernel]
        simp
    · refine Ev.neg (by omega) (Ev.bs r2B32 (Ev.bs r2F32 (Ev.bs r2F32 (Ev.bind r2Tf32 (Ev.out ?_)))))
      rw [if_neg (by omega), if_pos (by omega), if_neg (by omega), if_neg (by omega)]
      rw [w64_id (n := ((e : Nat) : Int) - 127) (by omega) (by omega), w64_id (by omega) (by omega), u64_id (by omega) (by omega)]
      congr 2
      congr 1
      omega

theorem r2E64 : r2_E.f 64 = some 11 := by decide +kernel
theorem r2F64 : r2_F.f 64 = some 52 := by decide +kernel
theorem r2B64 : r2_B.f 64 = some 1023 := by decide +kernel
theorem r2Tf64 : Ev (fun k => r2_Two.f k 52) ((4503599627370496 : Nat) : Int) := by have h := two_i (n := 52) 52 rfl (by decide); rw [show (2 : Nat) ^ 52 = 4503599627370496 by decide] at h; exact h
theorem r2Te64 : Ev (fun k => r2_Two.f k 11) ((2048 : Nat) : Int) := by have h := two_i (n := 11) 11 rfl (by decide); rw [show (2 : Nat) ^ 11 = 2048 by decide] at h; exact h
theorem r2Ts64 : Ev (fun k => r2_Two.f k (wrap64 (64 - 1))) ((9223372036854775808 : Nat) : Int) := by have h := two_i (n := wrap64 (64 - 1)) 63 (by decide +kernel) (by decide); rw [show (2 : Nat) ^ 63 = 9223372036854775808 by decide] at h; exact h
theorem r2Th64 : Ev (fun k => r2_Two.f k (wrap64 (52 - 1))) ((2251799813685248 : Nat) : Int) := by have h := two_i (n := wrap64 (52 - 1)) 51 (by decide +kernel) (by decide); rw [show (2 : Nat) ^ 51 = 2251799813685248 by decide] at h; exact h
theorem r2Exp64 (a : Nat) (ha : a < 18446744073709551616) : Ev (fun k => r2_Exp.f k 64 a) ((a / 4503599627370496 % 2048 : Nat) : Int) := by
  unfold r2_Exp.f
  refine Ev.bs (r2Cut 64 a (by decide)) (Ev.bs r2F64 (Ev.bind r2Tf64 (Ev.neg (by decide) (Ev.bs r2E64 (Ev.bind r2Te64 (Ev.neg (by decide) (Ev.out ?_)))))))
  have hc : cutN 64 a = a % 18446744073709551616 := by unfold cutN; rw [if_neg (by decide), if_pos rfl]; omega
  rw [hc, Int.tdiv_eq_ediv_of_nonneg (by omega), u64_id (by omega) (by omega), Int.tmod_eq_emod_of_nonneg (by omega), w64_id (by omega) (by omega)]
  omega
theorem r2Frac64 (a : Nat) (ha : a < 18446744073709551616) : Ev (fun k => r2_Frac.f k 64 a) ((a % 4503599627370496 : Nat) : Int) := by
  unfold r2_Frac.f
  refine Ev.bs r2F64 (Ev.bind r2Tf64 (Ev.neg (by decide) (Ev.out ?_)))
  rw [Int.tmod_eq_emod_of_nonneg (by omega)]; omega
theorem r2Top64 : Ev (fun k => r2_Top.f k 64) ((2047 : Nat) : Int) := by
  unfold r2_Top.f
  exact Ev.bs r2E64 (Ev.bind r2Te64 (Ev.out (by decide +kernel)))
theorem r2Make64 (s : Bool) (e fr : Nat) (he : e ≤ 2047) (hf : fr < 4503599627370496) : Ev (fun k => r2_Make.f k 64 s e fr) ((mkN 64 (e * 4503599627370496 + fr) s : Nat) : Int) := by
  unfold r2_Make.f
  refine Ev.bs r2F64 (Ev.bind r2Tf64 ?_)
  rw [u64_id (n := (e : Int)) (by omega) (by omega), u64_id (n := (e : Int) * ((4503599627370496 : Nat) : Int)) (by omega) (by omega), u64_id (n := (e : Int) * ((4503599627370496 : Nat) : Int) + fr) (by omega) (by omega)]
  unfold mkN
  rw [show sb 64 = 9223372036854775808 by decide]
  cases s
  · exact Ev.neg (by decide) (Ev.out (by simp))
  · refine Ev.pos rfl (Ev.bind r2Ts64 (Ev.out ?_))
    rw [u64_id (by omega) (by omega)]; simp only [if_true]; omega
theorem r2Nan64 : Ev (fun k => r2_Nan.f k 64) ((nanN 64 : Nat) : Int) := by
  unfold r2_Nan.f
  refine Ev.bind r2Top64 (Ev.bs r2F64 (Ev.bind r2Th64 (Ev.bind (r2Make64 false 2047 2251799813685248 (by decide) (by decide)) (Ev.out (by decide)))))
theorem r2Inf64 (s : Bool) : Ev (fun k => r2_Inf.f k 64 s) ((mkN 64 f64.inf s : Nat) : Int) := by
  unfold r2_Inf.f
  have h := r2Make64 s 2047 0 (by decide) (by decide)
  exact Ev.bind r2Top64 (Ev.bind h (Ev.out (by rw [inf64])))
theorem r2Open64 (a : Nat) (ha : a < 18446744073709551616) : Ev (fun k => r2_Open.f k 64 a) (opn 64 a) := by
  rw [opn64]
  unfold r2_Open.f
  refine Ev.bind (r2Exp64 a ha) (Ev.bind (r2Frac64 a ha) (Ev.bind (r2Neg 64 (by decide) a ha) (Ev.bind r2Top64 ?_)))
  unfold sgB
  rw [show sb 64 = 9223372036854775808 by decide]
  have hP : a % 9223372036854775808 % 4503599627370496 = a % 4503599627370496 := by omega
  have hQ : a % 9223372036854775808 / 4503599627370496 = a / 4503599627370496 % 2048 := by omega
  have hT : a / 4503599627370496 % 2048 < 2048 := Nat.mod_lt _ (by decide)
  have hE : a % 9223372036854775808 = a / 4503599627370496 % 2048 * 4503599627370496 + a % 4503599627370496 := by omega
  rw [hP, hQ, hE]
  generalize a / 4503599627370496 % 2048 = e at *
  have hF : a % 4503599627370496 < 4503599627370496 := Nat.mod_lt _ (by decide)
  generalize a % 4503599627370496 = fr at *
  generalize decide (a / 9223372036854775808 % 2 = 1) = s
  by_cases h1 : e = 2047
  · subst h1
    refine Ev.pos rfl ?_
    by_cases h2 : fr = 0
    · subst h2
      refine Ev.pos rfl (Ev.out ?_)
      rw [if_neg (by omega), if_neg (by omega), if_pos (by omega)]
    · refine Ev.neg (by omega) (Ev.out ?_)
      rw [if_neg (by omega), if_neg (by omega), if_neg (by omega)]
  · refine Ev.neg (by omega) ?_
    by_cases h2 : e = 0
    · subst h2
      refine Ev.pos rfl ?_
      by_cases h3 : fr = 0
      · subst h3
        refine Ev.pos rfl (Ev.out ?_)
        rw [Nat.zero_mul, Nat.zero_add, if_pos rfl]
      · refine Ev.neg (by omega) (Ev.bs r2B64 (Ev.bs r2F64 (Ev.out ?_)))
        rw [if_neg (by omega), if_pos (by omega), if_pos (by omega), if_pos (by omega), show wrap64 (wrap64 (1 - 1023) - 52) = (-1074 : Int) by decide +kernel]
        simp
    · refine Ev.neg (by omega) (Ev.bs r2B64 (Ev.bs r2F64 (Ev.bs r2F64 (Ev.bind r2Tf64 (Ev.out ?_)))))
      rw [if_neg (by omega), if_pos (by omega), if_neg (by omega), if_neg (by omega)]
      rw [w64_id (n := ((e : Nat) : Int) - 1023) (by omega) (by omega), w64_id (by omega) (by omega), u64_id (by omega) (by omega)]
      congr 2
      congr 1
      omega
theorem r2Open (w : Int) (hw : w = 32 ∨ w = 64) (a : Nat) (ha : a < 18446744073709551616) : Ev (fun k => r2_Open.f k w a) (opn w a) := by
  rcases hw with rfl | rfl
  · exact r2Open32 a ha
  · exact r2Open64 a ha
theorem cut_mk (w : Int) (hw : w = 32 ∨ w = 64) (m : Nat) (s : Bool) (h : m < sb w) : cutN w (mkN w m s) = mkN w m s := by
  rw [cutN_eq w hw _ (mkN_lt w hw m s h), sg_mk w hw m s h, mag_mk w hw m s h]; rfl
end Go.Proofs.Ytbpmnmceajmmcaa.Th
end
section
set_option linter.unusedVariables false
set_option linter.unusedSimpArgs false
namespace Go.Proofs.Ytbpmnmceajmmcaa.Th
open Go.RowKit Go.Proofs.YtbpmnmceajmmcaaW.PrintWords Go.Proofs.YtbpmnmceajmmcaaW.PrintLast Go.Proofs.YtbpmnmceajmmcaaW.PrintMore Go.Proofs.Ytbpmnmceajmmcaa.PA Bit Flo Dig
theorem inf_pos (w : Int) (hw : w = 32 ∨ w = 64) : 0 < (fmt w).inf := by rcases hw with rfl | rfl <;> decide
theorem kinds (w : Int) (hw : w = 32 ∨ w = 64) (a : Nat) : (magN w a = 0 ∧ opn w a = (sgB w a, 0, 0, 0)) ∨ (0 < magN w a ∧ magN w a < (fmt w).inf ∧ opn w a = (sgB w a, 1, (fmt w).ex (magN w a), ((fmt w).sg (magN w a) : Int))) ∨ (magN w a = (fmt w).inf ∧ opn w a = (sgB w a, 2, 0, 0)) ∨ ((fmt w).inf < magN w a ∧ opn w a = (false, 3, 0, 0)) := by
  have h0 := inf_pos w hw
  unfold opn; simp only
  by_cases h1 : magN w a = 0
  · left; rw [if_pos h1]; exact ⟨h1, rfl⟩
  · right; rw [if_neg h1]
    by_cases h2 : magN w a < (fmt w).inf
    · left; rw [if_pos h2]; exact ⟨by omega, h2, rfl⟩
    · right; rw [if_neg h2]
      by_cases h3 : magN w a = (fmt w).inf
      · left; rw [if_pos h3]; exact ⟨h3, rfl⟩
      · right; rw [if_neg h3]; exact ⟨by omega, rfl⟩
theorem ex_bd (w : Int) (hw : w = 32 ∨ w = 64) (m : Nat) (h : m < (fmt w).inf) : -1074 ≤ (fmt w).ex m ∧ (fmt w).ex m ≤ 971 := by
  rcases hw with rfl | rfl
  · rw [fmt32, inf32] at h; rw [fmt32, ex32]; split <;> omega
  · rw [fmt64, inf64] at h; rw [fmt64, ex64]; split <;> omega
theorem sg_64 (w : Int) (hw : w = 32 ∨ w = 64) (m : Nat) : (fmt w).sg m < 9007199254740992 := by
  have h := (fmt w).sg_lt m
  rcases hw with rfl | rfl
  · rw [fmt32] at h ⊢; rw [show (2 : Nat) ^ (f32.f + 1) = 16777216 by decide] at h; omega
  · rw [fmt64] at h ⊢; rw [show (2 : Nat) ^ (f64.f + 1) = 9007199254740992 by decide] at h; omega
end Go.Proofs.Ytbpmnmceajmmcaa.Th
end
section
set_option linter.unusedVariables false
set_option linter.unusedSimpArgs false
namespace Go.Proofs.Ytbpmnmceajmmcaa.Th
open Flo
theorem fmt_bd (w : Int) : (fmt w).f < 100 ∧ (-5000 < (fmt w).low ∧ (fmt w).low < 0) ∧ (fmt w).top < 5000 := by
  unfold fmt; split <;> decide
theorem fmt_f (w : Int) : (fmt w).f ≤ 52 := by unfold fmt; split <;> decide
theorem pk_ex (w : Int) (S : Nat) (e : Int) (hS : S < 340282366920938463463374607431768211456) : pkm (fmt w) S e false = (fmt w).rnd ((S : Rat) * tw e) := by
  have h := fmt_bd w
  rw [← pkx_f, pkm_rnd _ h.1 h.2.1 h.2.2 S e false hS]
abbrev Pt := Bool × Int × Int × Int
noncomputable def pv (p : Pt) : Rat := if p.2.1 = 1 then (if p.1 then -((p.2.2.2.toNat : Rat) * tw p.2.2.1) else (p.2.2.2.toNat : Rat) * tw p.2.2.1) else 0
noncomputable def fx (w : Int) (s : Rat) (z : Bool) : Nat := if s = 0 then mkN w 0 z else if s < 0 then mkN w ((fmt w).rnd (-s)) true else mkN w ((fmt w).rnd s) false
noncomputable def mulP (w : Int) (p q : Pt) : Nat :=
  if p.2.1 = 3 ∨ q.2.1 = 3 ∨ p.2.1 = 2 ∧ q.2.1 = 0 ∨ p.2.1 = 0 ∧ q.2.1 = 2 then nanN w else if p.2.1 = 2 ∨ q.2.1 = 2 then mkN w (fmt w).inf (p.1 != q.1)
  else fx w (pv p * pv q) (p.1 != q.1)
theorem fx_pos (w : Int) {s : Rat} (h : 0 < s) (z : Bool) : fx w s z = mkN w ((fmt w).rnd s) false := by
  unfold fx; rw [if_neg (by grind), if_neg (by grind)]
theorem fx_neg (w : Int) {s : Rat} (h : 0 < s) (z : Bool) : fx w (-s) z = mkN w ((fmt w).rnd s) true := by
  unfold fx; rw [if_neg (by grind), if_pos (by grind), Rat.neg_neg]
theorem fx_zero (w : Int) (z : Bool) : fx w 0 z = mkN w 0 z := by unfold fx; rw [if_pos rfl]
theorem fx_sg (w : Int) {s : Rat} (h : 0 < s) (n z : Bool) : fx w (if n then -s else s) z = mkN w ((fmt w).rnd s) n := by
  cases n
  · exact fx_pos w h z
  · exact fx_neg w h z
end Go.Proofs.Ytbpmnmceajmmcaa.Th
end
section
set_option linter.unusedVariables false
set_option linter.unusedSimpArgs false
namespace Go.Proofs.Ytbpmnmceajmmcaa.Th
open Go.RowKit Go.Proofs.YtbpmnmceajmmcaaW.PrintWords Go.Proofs.YtbpmnmceajmmcaaW.PrintLast Go.Proofs.YtbpmnmceajmmcaaW.PrintMore Go.Proofs.Ytbpmnmceajmmcaa.PA Dig

theorem one_dg : Ev (fun k => r1_Of.f k 1) (dg 1) := of_dg 1 (by decide)
theorem cmp_nonneg (m n : Nat) : cmpN m n ≥ 0 ↔ n ≤ m := by unfold cmpN; split <;> (try split) <;> omega
theorem div_loop (A n : Nat) (hn0 : 0 < n) (hA : bl A < 100000000) (hn : bl n < 100000000) (s : Nat) : ∀ (q m : Nat), s < 100000000 → q * n + m = A → m < n * 2 ^ s →
    Ev (fun k => r1_Div.l0 k ((s : Int) - 1) (dg n) (dg q) (dg m)) (dg (A / n), dg (A % n)) := by
  induction s with
  | zero =>
    intro q m _ he hm
    refine Ev.step (fun _ => r1_Div.l0.eq_2 ..) ?_
    refine Ev.neg (by omega) (Ev.out ?_)
    rw [Nat.pow_zero, Nat.mul_one] at hm
    have h1 : A / n = q := by rw [← he, Nat.mul_comm, Nat.mul_add_div hn0, Nat.div_eq_of_lt hm, Nat.add_zero]
    have h2 : A % n = m := by rw [← he, Nat.mul_comm, Nat.mul_add_mod, Nat.mod_eq_of_lt hm]
    rw [h1, h2]
  | succ s ih =>
    intro q m hs he hm
    have e1 : (((s + 1 : Nat) : Int) - 1) = ((s : Nat) : Int) := by omega
    rw [e1]
    have hm2 : m ≤ A := by omega
    have hq2 : q ≤ A := Nat.le_trans (Nat.le_mul_of_pos_right q hn0) (by omega)
    have b1 := bl_mono hm2
    have b2 := bl_mono hq2
    have b3 := bl_shl n s
    have hw : wrap64 ((s : Int) - 1) = (s : Int) - 1 := w64_id (by omega) (by omega)
    refine Ev.step (fun _ => r1_Div.l0.eq_2 ..) ?_
    rw [hw]
    refine Ev.pos (by omega) (Ev.bind (shl_bl n s (by omega) (by omega)) (Ev.bind (cmp_bl m (n * 2 ^ s) (by omega) (by omega)) ?_))
    by_cases h : n * 2 ^ s ≤ m
    · refine Ev.pos ((cmp_nonneg _ _).2 h) (Ev.bind (sub_bl m (n * 2 ^ s) h (by omega)) (Ev.bind one_dg (Ev.bind (shl_bl 1 s (by omega) (by decide)) ?_)))
      have h3 : 2 ^ s ≤ A := Nat.le_trans (Nat.le_mul_of_pos_left _ hn0) (Nat.le_trans h hm2)
      have b4 := bl_mono h3
      rw [Nat.one_mul]
      refine Ev.bind (add_bl q (2 ^ s) (by omega) (by omega)) (ih (q + 2 ^ s) (m - n * 2 ^ s) (by omega) ?_ ?_)
      · rw [Nat.add_mul, Nat.mul_comm (2 ^ s) n]; omega
      · rw [Nat.pow_succ, ← Nat.mul_assoc] at hm; omega
    · exact Ev.neg (fun h' => h ((cmp_nonneg _ _).1 h')) (ih q m (by omega) he (by omega))
theorem div_dg (a b : Nat) (hb : 0 < b) (ha1 : bl a < 100000000) (hb1 : bl b < 100000000) : Ev (fun k => r1_Div.f k (dg a) (dg b)) (dg (a / b), dg (a % b)) := by
  unfold r1_Div.f
  refine Ev.bind (len_dg a (by omega)) (Ev.bind (len_dg b (by omega)) ?_)
  rw [w64_id (by omega) (by omega)]
  by_cases h : bl b ≤ bl a
  · rw [show ((bl a : Nat) : Int) - ((bl b : Nat) : Int) = (((bl a - bl b + 1 : Nat) : Int) - 1) by omega, ← dg_zero]
    have h4 := bl_pos.2 hb
    refine div_loop a b hb ha1 hb1 (bl a - bl b + 1) 0 a (by omega) (by simp) ?_
    have h1 := lt_two_bl a
    have h2 := two_bl_le hb
    have h3 : 2 ^ (bl b - 1) * 2 ^ (bl a - bl b + 1) ≤ b * 2 ^ (bl a - bl b + 1) := Nat.mul_le_mul_right _ h2
    rw [← Nat.pow_add, show bl b - 1 + (bl a - bl b + 1) = bl a by omega] at h3
    omega
  · refine Ev.step (fun _ => r1_Div.l0.eq_2 ..) ?_
    have h1 : a < b := by
      rcases Nat.lt_or_ge a b with h1 | h1
      · exact h1
      · exact absurd (bl_mono h1) h
    refine Ev.neg (by omega) (Ev.out ?_)
    rw [Nat.div_eq_of_lt h1, Nat.mod_eq_of_lt h1, dg_zero]
theorem dg_len_pos (n : Nat) : decide (((dg n).length : Int) > 0) = decide (0 < n) := by
  have := len_pos (n := n)
  by_cases h : 0 < n
  · rw [decide_eq_true h, decide_eq_true (by omega)]
  · rw [decide_eq_false h, decide_eq_false (by omega)]
theorem half_dg (a n : Nat) (ha : bl a < 100000000) (hn : n < 90000000) : Ev (fun k => r1_Half.f k (dg a) n) (dg (a / 2 ^ n), decide (0 < a % 2 ^ n)) := by
  unfold r1_Half.f
  have h1 := bl_two n
  refine Ev.bind one_dg (Ev.bind (shl_bl 1 n (by omega) (by decide)) ?_)
  rw [Nat.one_mul]
  refine Ev.bind (div_dg a (2 ^ n) (Nat.pow_pos (by decide)) ha (by omega)) (Ev.out ?_)
  rw [dg_len_pos]
end Go.Proofs.Ytbpmnmceajmmcaa.Th
end
section
set_option linter.unusedVariables false
set_option linter.unusedSimpArgs false
namespace Go.Proofs.Ytbpmnmceajmmcaa.Th
open Go.RowKit Go.Proofs.YtbpmnmceajmmcaaW.PrintWords Go.Proofs.YtbpmnmceajmmcaaW.PrintLast Go.Proofs.YtbpmnmceajmmcaaW.PrintMore Go.Proofs.Ytbpmnmceajmmcaa.PA Bit Dig Flo
theorem r2Fw (w : Int) (hw : w = 32 ∨ w = 64) : r2_F.f w = some (((fmt w).f : Nat) : Int) := by rcases hw with rfl | rfl <;> decide +kernel
theorem r3Low (w : Int) (hw : w = 32 ∨ w = 64) : r3_Low.f w = some (fmt w).low := by rcases hw with rfl | rfl <;> decide +kernel
theorem r2Topw (w : Int) (hw : w = 32 ∨ w = 64) : Ev (fun k => r2_Top.f k w) (((fmt w).top : Nat) : Int) := by rcases hw with rfl | rfl; exact r2Top32; exact r2Top64
theorem r2Tfw (w : Int) (hw : w = 32 ∨ w = 64) : Ev (fun k => r2_Two.f k (((fmt w).f : Nat) : Int)) ((2 ^ (fmt w).f : Nat) : Int) := two_f _ (by have := (fmt_f w); omega)
theorem r2Infw (w : Int) (hw : w = 32 ∨ w = 64) (s : Bool) : Ev (fun k => r2_Inf.f k w s) ((mkN w (fmt w).inf s : Nat) : Int) := by rcases hw with rfl | rfl; exact r2Inf32 s; exact r2Inf64 s
theorem r2Nanw (w : Int) (hw : w = 32 ∨ w = 64) : Ev (fun k => r2_Nan.f k w) ((nanN w : Nat) : Int) := by rcases hw with rfl | rfl; exact r2Nan32; exact r2Nan64
theorem r2Makew (w : Int) (hw : w = 32 ∨ w = 64) (s : Bool) (e fr : Nat) (he : e ≤ (fmt w).top) (hf : fr < 2 ^ (fmt w).f) : Ev (fun k => r2_Make.f k w s e fr) ((mkN w (e * 2 ^ (fmt w).f + fr) s : Nat) : Int) := by
  rcases hw with rfl | rfl
  · exact r2Make32 s e fr he hf
  · exact r2Make64 s e fr he hf
theorem len_zero (n : Nat) : ((dg n).length : Int) = 0 ↔ n = 0 := by
  have := @len_pos n
  omega
theorem quotS (a b : Nat) (hb : 0 < b) (ha1 : bl a < 10000000) (hb1 : bl b < 10000000) : Ev (fun k => r3_Quotient.f k (dg a) (dg b)) (dg (rne a b)) := by
  unfold r3_Quotient.f
  have hm : bl (a % b) ≤ bl a := bl_mono (Nat.mod_le _ _)
  have hq : bl (a / b) ≤ bl a := bl_mono (Nat.div_le_self _ _)
  have hs := bl_shl (a % b) 1
  refine Ev.bind (div_dg a b hb (by omega) (by omega)) (Ev.bind (shl_bl (a % b) 1 (by decide) (by omega)) ?_)
  rw [show a % b * 2 ^ 1 = 2 * (a % b) by omega] at *
  refine Ev.bind (cmp_bl _ b (by omega) (by omega)) ?_
  have yes : Ev (fun k => r3_Quotient.j0 k true (dg (a / b))) (dg (a / b + 1)) :=
    Ev.step (fun _ => r3_Quotient.j0.eq_2 ..) (Ev.pos rfl (Ev.bind (of_dg 1 (by decide)) (Ev.bind (add_bl (a / b) 1 (by omega) (by decide)) (Ev.out rfl))))
  have no : Ev (fun k => r3_Quotient.j0 k false (dg (a / b))) (dg (a / b)) :=
    Ev.step (fun _ => r3_Quotient.j0.eq_2 ..) (Ev.neg (by decide) (Ev.out rfl))
  unfold cmpN rne
  by_cases h1 : b < 2 * (a % b)
  · rw [if_neg (show ¬ 2 * (a % b) < b by omega), if_pos h1, if_pos (.inl h1)]
    exact Ev.pos (by decide) yes
  · by_cases h2 : 2 * (a % b) = b
    · rw [if_neg (show ¬ 2 * (a % b) < b by omega), if_neg h1]
      refine Ev.neg (by decide) (Ev.pos rfl (Ev.bs (uint_dg _) ?_))
      have e : (Int.tmod ((a / b % 18446744073709551616 : Nat) : Int) 2 == 1) = decide (a / b % 2 = 1) := by
        rw [Int.tmod_eq_emod_of_nonneg (by omega), Bool.eq_iff_iff]; simp; omega
      rw [e]
      by_cases h3 : a / b % 2 = 1
      · rw [decide_eq_true h3, if_pos (.inr ⟨h2, h3⟩)]; exact yes
      · rw [decide_eq_false h3, if_neg (by omega)]; exact no
    · rw [if_pos (show 2 * (a % b) < b by omega), if_neg (by omega)]
      exact Ev.neg (by decide) (Ev.neg (by decide) no)
theorem underS (a b : Nat) (s : Int) (ha1 : bl a < 1000000) (hb1 : bl b < 1000000) (hs : -1000000 < s ∧ s < 1000000) : Ev (fun k => r3_under.f k (dg a) (dg b) s) (decide ((a : Rat) * tw s < (b : Rat))) := by
  unfold r3_under.f
  have hc : ∀ m n : Nat, decide (cmpN m n < 0) = decide (m < n) := fun m n => by
    unfold cmpN
    by_cases h : m < n
    · rw [if_pos h, decide_eq_true h]; rfl
    · rw [if_neg h, decide_eq_false h]; split <;> rfl
  by_cases h : s ≥ 0
  · obtain ⟨n, rfl⟩ := Int.eq_ofNat_of_zero_le h
    have h2 := bl_shl a n
    refine Ev.pos h (Ev.bind (shl_bl a n (by omega) (by omega)) (Ev.bind (cmp_bl _ b (by omega) (by omega)) (Ev.out ?_)))
    rw [hc]
    refine decide_eq_decide.2 ?_
    rw [tw_nat, ← nat_lt]; push_cast; rfl
  · obtain ⟨n, hn⟩ := Int.eq_ofNat_of_zero_le (show 0 ≤ -s by omega)
    have h2 := bl_shl b n
    obtain rfl : s = -(n : Int) := by omega
    refine Ev.neg h ?_
    rw [w64_id (by omega) (by omega), Int.neg_neg]
    refine Ev.bind (shl_bl b n (by omega) (by omega)) (Ev.bind (cmp_bl a _ (by omega) (by omega)) (Ev.out ?_))
    rw [hc]
    refine decide_eq_decide.2 ?_
    have T := tw_pos (n : Int)
    have e1 : tw (-(n : Int)) * tw n = 1 := by rw [← tw_add, Int.add_left_neg, tw_zero]
    have e2 : ((b * 2 ^ n : Nat) : Rat) = (b : Rat) * tw n := by rw [tw_nat]; push_cast; rfl
    rw [← nat_lt, e2]
    constructor
    · intro h3
      refine lt_of_mul (t := tw n) ?_ T
      rw [Rat.mul_assoc, e1, Rat.mul_one]; exact h3
    · intro h3
      have := mul_lt h3 T
      rwa [Rat.mul_assoc, e1, Rat.mul_one] at this
theorem grainS (a b : Nat) (s : Int) (hb : 0 < b) (ha1 : bl a < 1000000) (hb1 : bl b < 1000000) (hs : -1000000 < s ∧ s < 1000000) : ∃ A B : Nat, 0 < B ∧ (∀ x : Rat, x * (b : Rat) = (a : Rat) * tw s → x * (B : Rat) = (A : Rat)) ∧ Ev (fun k => r3_grain.f k (dg a) (dg b) s) (dg (rne A B)) := by
  unfold r3_grain.f
  by_cases h : s ≥ 0
  · obtain ⟨n, rfl⟩ := Int.eq_ofNat_of_zero_le h
    have h2 := bl_shl a n
    refine ⟨a * 2 ^ n, b, hb, fun x hx => ?_, Ev.pos h (Ev.bind (shl_bl a n (by omega) (by omega)) (Ev.bind (quotS _ b hb (by omega) (by omega)) (Ev.out rfl)))⟩
    rw [hx, tw_nat]; push_cast; rfl
  · obtain ⟨n, hn⟩ := Int.eq_ofNat_of_zero_le (show 0 ≤ -s by omega)
    have h2 := bl_shl b n
    obtain rfl : s = -(n : Int) := by omega
    refine ⟨a, b * 2 ^ n, Nat.mul_pos hb (Nat.pow_pos (by decide)), fun x hx => ?_, ?_⟩
    · have e1 : tw (-(n : Int)) * tw n = 1 := by rw [← tw_add, Int.add_left_neg, tw_zero]
      have e2 : ((b * 2 ^ n : Nat) : Rat) = (b : Rat) * tw n := by rw [tw_nat]; push_cast; rfl
      rw [e2, ← Rat.mul_assoc, hx, Rat.mul_assoc, e1, Rat.mul_one]
    · refine Ev.neg h ?_
      rw [w64_id (by omega) (by omega), Int.neg_neg]
      exact Ev.bind (shl_bl b n (by omega) (by omega)) (Ev.bind (quotS a _ (Nat.mul_pos hb (Nat.pow_pos (by decide))) (by omega) (by omega)) (Ev.out rfl))
theorem finS (w : Int) (hw : w = 32 ∨ w = 64) (s : Bool) (q n : Nat) (hn : n < 2 ^ (fmt w).f * 2) (hl : 0 < q → 2 ^ (fmt w).f ≤ n) (hq : q < 1000000) :
    Ev (fun k => r3_Near.j2 k w s (((fmt w).f : Nat) : Int) ((q : Int) + (fmt w).low) (dg n)) ((mkN w (if (fmt w).top < q + 2 then (fmt w).inf else if n < 2 ^ (fmt w).f then n else (q + 1) * 2 ^ (fmt w).f + (n - 2 ^ (fmt w).f)) s : Nat) : Int) := by
  have hb := fmt_bd w
  have hp : 2 ^ (fmt w).f ≤ 4503599627370496 := by
    rw [show (4503599627370496 : Nat) = 2 ^ 52 by decide]; exact Nat.pow_le_pow_right (by decide) (fmt_f w)
  have ht := (fmt w).ht
  refine Ev.step (fun _ => r3_Near.j2.eq_2 ..) (Ev.bs (r3Low w hw) (Ev.bind (r2Topw w hw) ?_))
  rw [w64_id (n := (fmt w).low + ((fmt w).top : Int)) (by omega) (by omega), w64_id (by omega) (by omega)]
  by_cases c1 : (fmt w).top < q + 2
  · rw [if_pos c1]
    exact Ev.pos (by omega) (Ev.bind (r2Infw w hw s) (Ev.out rfl))
  · rw [if_neg c1]
    refine Ev.neg (by omega) (Ev.bs (uint_dg n) (Ev.bind (r2Tfw w hw) ?_))
    rw [Nat.mod_eq_of_lt (by omega)]
    by_cases c2 : n < 2 ^ (fmt w).f
    · rw [if_pos c2]
      have := r2Makew w hw s 0 n (Nat.zero_le _) c2
      rw [Nat.zero_mul, Nat.zero_add] at this
      exact Ev.pos (by exact_mod_cast c2) (Ev.bind this (Ev.out rfl))
    · rw [if_neg c2]
      have := r2Makew w hw s (q + 1) (n - 2 ^ (fmt w).f) (by omega) (by omega)
      refine Ev.neg (by intro k; exact c2 (by exact_mod_cast k)) (Ev.bs (r3Low w hw) (Ev.bind (r2Tfw w hw) ?_))
      rw [show (q : Int) + (fmt w).low - (fmt w).low = q by omega, w64_id (n := (q : Int)) (by omega) (by omega), w64_id (by omega) (by omega), u64_id (by omega) (by omega), show (n : Int) - ((2 ^ (fmt w).f : Nat) : Int) = ((n - 2 ^ (fmt w).f : Nat) : Int) by omega]
      exact Ev.bind this (Ev.out rfl)
theorem nearS (w : Int) (hw : w = 32 ∨ w = 64) (s : Bool) (a b : Nat) (kk : Int) (ha : 0 < a) (hb : 0 < b) (ha1 : bl a < 100000) (hb1 : bl b < 100000) (hk : -10000 < kk ∧ kk < 10000) (x : Rat) (hx : x * (b : Rat) = (a : Rat) * tw kk) :
    Ev (fun k => r3_Near.f k w s (dg a) (dg b) kk) ((mkN w ((fmt w).rnd x) s : Nat) : Int) := by
  have bd := fmt_bd w
  have hff := fmt_f w
  have h3 : ∀ n : Nat, 0 < n → 2 ^ bl n ≤ 2 * n := fun n h => by
    have h1 := two_bl_le h
    have h0 := bl_pos.2 h
    have : 2 ^ bl n = 2 ^ (bl n - 1) * 2 := by rw [← Nat.pow_succ]; congr 1; omega
    omega
  have mx_ : ∀ a b : Int, mx a b = max a b := fun a b => by unfold mx; split <;> omega
  unfold r3_Near.f
  refine Ev.bs (r2Fw w hw) (Ev.bind (len_dg a (by omega)) (Ev.bind (len_dg b (by omega)) (Ev.bs (r3Low w hw) (Ev.bs (r3Low w hw) ?_))))
  rw [w64_id (n := ((bl a : Nat) : Int) - ((bl b : Nat) : Int)) (by omega) (by omega), w64_id (n := ((bl a : Nat) : Int) - ((bl b : Nat) : Int) + kk) (by omega) (by omega), w64_id (by omega) (by omega), mx_]
  obtain ⟨q0, hq0⟩ : ∃ q0, max ((bl a : Int) - bl b + kk - (fmt w).f) (fmt w).low = q0 := ⟨_, rfl⟩
  rw [hq0]
  have hqb : (fmt w).low ≤ q0 ∧ q0 < 200000 := by omega
  have hB' : (0 : Rat) < (b : Rat) := by exact_mod_cast hb
  -- the test
  have hunder : Ev (fun k => r3_under.f k (dg a) (dg b) (kk - q0 - (fmt w).f)) (decide (x < tw (q0 + (fmt w).f))) := by
    have := underS a b (kk - q0 - (fmt w).f) (by omega) (by omega) (by omega)
    have e : decide ((a : Rat) * tw (kk - q0 - (fmt w).f) < (b : Rat)) = decide (x < tw (q0 + (fmt w).f)) := by
      refine decide_eq_decide.2 ?_
      have T := tw_pos (q0 + (fmt w).f)
      have e1 : tw kk = tw (kk - q0 - (fmt w).f) * tw (q0 + (fmt w).f) := by rw [← tw_add]; congr 1; omega
      constructor
      · intro h
        have := mul_lt h T
        rw [Rat.mul_assoc, ← e1, ← hx] at this
        exact lt_of_mul (t := (b : Rat)) (by grind) hB'
      · intro h
        have := mul_lt h hB'
        rw [hx, e1, ← Rat.mul_assoc] at this
        exact lt_of_mul (t := tw (q0 + (fmt w).f)) (by grind) T
    rw [e] at this
    exact this
  obtain ⟨q1, hq1⟩ : ∃ q1, (if (fmt w).low < q0 ∧ x < tw (q0 + (fmt w).f) then q0 - 1 else q0) = q1 := ⟨_, rfl⟩
  obtain ⟨d1, d2, d3⟩ := Fmt.Rnd.doc (fmt w) (h3 a ha) (lt_two_bl a) hb (h3 b hb) (lt_two_bl b) hx hq0.symm hq1.symm
  obtain ⟨q, hq⟩ := Int.eq_ofNat_of_zero_le (show 0 ≤ q1 - (fmt w).low by omega)
  have hqq : q1 = (q : Int) + (fmt w).low := by omega
  have hqn : q < 100000000 := by
    have : q1 ≤ q0 := by rw [← hq1]; split <;> omega
    omega
  obtain ⟨A, B, hBp, hAB, hg⟩ := grainS a b (kk - q1) hb (by omega) (by omega) (by omega)
  have hxe : x * (B : Rat) = (A : Rat) * tw (q + (fmt w).low) := by
    have T := tw_pos (-q1)
    have e1 : tw (-q1) * tw q1 = 1 := by rw [← tw_add, Int.add_left_neg, tw_zero]
    have e2 : tw (kk - q1) = tw kk * tw (-q1) := by rw [← tw_add]; congr 1
    have := hAB (x * tw (-q1)) (by rw [e2, ← Rat.mul_assoc, ← hx]; grind)
    rw [← this, ← hqq]
    grind
  have hx2 : x < tw (q + (fmt w).low + (fmt w).f + 1) := by rw [← hqq]; exact d2
  have hl2 : 0 < q → tw (q + (fmt w).low + (fmt w).f) ≤ x := fun h => by rw [← hqq]; exact d3 (by omega)
  obtain ⟨n1, n2⟩ := (fmt w).make_bd hx2 hl2 (fun h => (fmt w).near_lo hBp hxe h) ((fmt w).near_hi hBp hxe)
  have R := Fmt.Rnd.near (fmt w) hBp hxe hx2 hl2
  rw [(fmt w).rnd_of R, ← (fmt w).fin_eq n1 n2]
  have p2 : 2 ^ ((fmt w).f + 1) = 2 ^ (fmt w).f * 2 := Nat.pow_succ ..
  have pp := (fmt w).pow_pos
  generalize hN : rne A B = n at *
  have ln : bl n ≤ (fmt w).f + 2 := bl_le.2 (by rw [Nat.pow_succ]; omega)
  have hqs : q < 1000000 := by
    have : q1 ≤ q0 := by rw [← hq1]; split <;> omega
    omega
  have tail : Ev (fun k => r3_Near.j1 k w s kk (((fmt w).f : Nat) : Int) q1 (dg a) (dg b)) ((mkN w ((fmt w).fin q n) s : Nat) : Int) := by
    refine Ev.step (fun _ => r3_Near.j1.eq_2 ..) ?_
    rw [w64_id (n := kk - q1) (by omega) (by omega), w64_id (n := (((fmt w).f : Nat) : Int) + 1) (by omega) (by omega)]
    refine Ev.bind hg (Ev.bind (len_dg n (by omega)) ?_)
    by_cases c : n = 2 ^ ((fmt w).f + 1)
    · have hbn : bl n = (fmt w).f + 2 := by rw [c, bl_two]
      have hh := half_dg n 1 (by omega) (by decide)
      have e5 : n / 2 ^ 1 = 2 ^ (fmt w).f := by rw [c, Nat.pow_succ, Nat.pow_one]; omega
      rw [e5] at hh
      refine Ev.pos (by omega) (Ev.bind hh ?_)
      rw [w64_id (by omega) (by omega)]
      have := finS w hw s (q + 1) (2 ^ (fmt w).f) (by omega) (fun _ => Nat.le_refl _) (by omega)
      rw [show (((q + 1 : Nat) : Int) + (fmt w).low) = q1 + 1 by omega] at this
      have e6 : (fmt w).fin q n = (if (fmt w).top < q + 1 + 2 then (fmt w).inf else if 2 ^ (fmt w).f < 2 ^ (fmt w).f then 2 ^ (fmt w).f else (q + 1 + 1) * 2 ^ (fmt w).f + (2 ^ (fmt w).f - 2 ^ (fmt w).f)) := by
        unfold Fmt.fin
        rw [if_pos c, if_neg (Nat.lt_irrefl _), Nat.sub_self]
        rfl
      rw [e6]; exact this
    · have hbn : bl n ≤ (fmt w).f + 1 := bl_le.2 (by omega)
      refine Ev.neg (by omega) ?_
      have := finS w hw s q n (by omega) n2 hqs
      rw [← hqq] at this
      have e6 : (fmt w).fin q n = (if (fmt w).top < q + 2 then (fmt w).inf else if n < 2 ^ (fmt w).f then n else (q + 1) * 2 ^ (fmt w).f + (n - 2 ^ (fmt w).f)) := by
        unfold Fmt.fin
        rw [if_neg c]
      rw [e6]; exact this
  by_cases c : (fmt w).low < q0
  · refine Ev.pos c ?_
    rw [w64_id (n := kk - q0) (by omega) (by omega), w64_id (n := kk - q0 - ((fmt w).f : Int)) (by omega) (by omega)]
    refine Ev.bind hunder (Ev.step (fun _ => r3_Near.j0.eq_2 ..) ?_)
    by_cases c2 : x < tw (q0 + (fmt w).f)
    · rw [decide_eq_true c2]
      rw [if_pos ⟨c, c2⟩] at hq1
      refine Ev.pos rfl ?_
      rw [w64_id (by omega) (by omega), hq1]; exact tail
    · rw [decide_eq_false c2]
      rw [if_neg (fun h => c2 h.2)] at hq1
      refine Ev.neg (by decide) ?_
      rw [hq1]; exact tail
  · rw [if_neg (fun h => c h.1)] at hq1
    refine Ev.neg c (Ev.step (fun _ => r3_Near.j0.eq_2 ..) (Ev.neg (by decide) ?_))
    rw [hq1]; exact tail
theorem zero_mul' (w : Int) (hw : w = 32 ∨ w = 64) (s : Bool) : Ev (fun k => r2_Make.f k w s 0 0) ((mkN w 0 s : Nat) : Int) := by
  have := r2Makew w hw s 0 0 (Nat.zero_le _) ((fmt w).pow_pos)
  rwa [Nat.zero_mul] at this
theorem exactS (w : Int) (hw : w = 32 ∨ w = 64) (s : Bool) (n : Nat) (e : Int) (hn : bl n < 2900) : Ev (fun k => r3_Exact.f k w s (dg n) e) ((mkN w ((fmt w).rnd ((n : Rat) * tw e)) s : Nat) : Int) := by
  have bd := fmt_bd w
  have hff := fmt_f w
  have ht := (fmt w).ht
  unfold r3_Exact.f
  have z := zero_mul' w hw s
  by_cases h0 : n = 0
  · subst h0
    rw [show ((0 : Nat) : Rat) * tw e = 0 by simp, Fmt.rnd_zero]
    exact Ev.pos ((len_zero 0).2 rfl) (Ev.step (fun _ => r3_Exact.j0.eq_2 ..) (Ev.pos rfl (Ev.bind z (Ev.out rfl))))
  · refine Ev.neg (fun k => h0 ((len_zero n).1 k)) (Ev.step (fun _ => r3_Exact.j0.eq_2 ..) ?_)
    have hlt := lt_two_bl n
    by_cases c1 : e < -4000
    · have : (fmt w).rnd ((n : Rat) * tw e) = 0 := by
        refine (fmt w).rnd_of (Fmt.Rnd.tiny _ ?_)
        have h4 := mul_lt (nat_lt.2 hlt) (tw_pos e)
        rw [← tw_nat, ← tw_add] at h4
        have h5 : tw ((bl n : Nat) + e) ≤ tw ((fmt w).low - 1) := tw_le (by
          have : -1100 ≤ (fmt w).low := by unfold fmt; split <;> decide
          omega)
        grind
      rw [this]
      exact Ev.pos (decide_eq_true c1) (Ev.bind z (Ev.out rfl))
    · refine Ev.neg (fun k => c1 (of_decide_eq_true k)) ?_
      by_cases c2 : e > 4000
      · have : (fmt w).rnd ((n : Rat) * tw e) = (fmt w).inf := by
          refine (fmt w).rnd_inf ?_
          rw [(fmt w).val_inf]
          have h2 : ((1 : Nat) : Rat) ≤ (n : Rat) := nat_le.2 (by omega)
          have h3 := mul_le h2 (tw_pos e)
          have h4 : tw ((fmt w).top - 1 + (fmt w).low + (fmt w).f) ≤ tw e := tw_le (by
            have : ((fmt w).top : Int) - 1 + (fmt w).low + (fmt w).f ≤ 1100 := by unfold fmt; split <;> decide
            omega)
          have h5 : ((1 : Nat) : Rat) * tw e = tw e := by simp
          rw [h5] at h3
          exact Rat.le_trans h4 h3
        rw [this]
        exact Ev.pos c2 (Ev.bind (r2Infw w hw s) (Ev.out rfl))
      · refine Ev.neg c2 (Ev.bind (of_dg 1 (by decide)) (Ev.bind (nearS w hw s n 1 e (by omega) (by decide) (by omega) (by decide) (by omega) _ ?_) (Ev.out rfl)))
        simp
theorem packR (w : Int) (hw : w = 32 ∨ w = 64) (s : Bool) (h l : Nat) (hh : h < 18446744073709551616) (hl : l < 18446744073709551616) (e : Int) (m : Bool) : Ev (fun k => r3_Pack.f k w s h l e m) ((mkN w ((fmt w).rnd (pkx (h * 18446744073709551616 + l) e m)) s : Nat) : Int) := by
  have bd := fmt_bd w
  have hff := fmt_f w
  have ht := (fmt w).ht
  obtain ⟨c, hc⟩ : ∃ c, mx (mn e 10000) (-10000) = c := ⟨_, rfl⟩
  have hcb : -10000 ≤ c ∧ c ≤ 10000 ∧ (-10000 ≤ e → e ≤ 10000 → c = e) ∧ (10000 < e → c = 10000) ∧ (e < -10000 → c = -10000) := by
    unfold mx mn at hc; split at hc <;> split at hc <;> omega
  have key : ∀ n : Nat, bl n < 200 → Ev (fun k => r3_Exact.f k w s (dg n) (c - 1)) ((mkN w ((fmt w).rnd ((n : Rat) * tw (e - 1))) s : Nat) : Int) := by
    intro n hn
    have := exactS w hw s n (c - 1) (by omega)
    have e1 : (fmt w).rnd ((n : Rat) * tw (c - 1)) = (fmt w).rnd ((n : Rat) * tw (e - 1)) := by
      rcases Nat.eq_zero_or_pos n with h0 | h0
      · subst h0; simp
      · by_cases c1 : 10000 < e
        · have h : ∀ x : Int, 9999 ≤ x → (fmt w).rnd ((n : Rat) * tw x) = (fmt w).inf := by
            intro x hx
            refine (fmt w).rnd_inf ?_
            rw [(fmt w).val_inf]
            have h2 : ((1 : Nat) : Rat) ≤ (n : Rat) := nat_le.2 (by omega)
            have h3 := mul_le h2 (tw_pos x)
            have h4 : tw ((fmt w).top - 1 + (fmt w).low + (fmt w).f) ≤ tw x := tw_le (by omega)
            have h5 : ((1 : Nat) : Rat) * tw x = tw x := by simp
            rw [h5] at h3
            exact Rat.le_trans h4 h3
          rw [h _ (by omega), h _ (by omega)]
        · by_cases c2 : e < -10000
          · have h : ∀ x : Int, x < -9000 → (fmt w).rnd ((n : Rat) * tw x) = 0 := by
              intro x hx
              refine (fmt w).rnd_of (Fmt.Rnd.tiny _ ?_)
              have h4 := mul_lt (nat_lt.2 (lt_two_bl n)) (tw_pos x)
              rw [← tw_nat, ← tw_add] at h4
              have h5 : tw ((bl n : Nat) + x) ≤ tw ((fmt w).low - 1) := tw_le (by omega)
              grind
            rw [h _ (by omega), h _ (by omega)]
          · rw [hcb.2.2.1 (by omega) (by omega)]
    rw [e1] at this
    exact this
  unfold r3_Pack.f
  rw [hc]
  obtain ⟨V, hV⟩ : ∃ V, h * 18446744073709551616 + l = V := ⟨_, rfl⟩
  have hVl : V < 340282366920938463463374607431768211456 := by omega
  have bV : bl V ≤ 128 := bl_le.2 (by rw [show (2 : Nat) ^ 128 = 340282366920938463463374607431768211456 by decide]; exact hVl)
  have hp := pair_dg h l hh hl
  rw [hV] at hp ⊢
  have b1 := bl_shl V 1
  refine Ev.bind hp (Ev.bind (shl_bl V 1 (by decide) (by omega)) ?_)
  rw [show V * 2 ^ 1 = 2 * V by omega] at *
  unfold pkx
  cases m
  · refine Ev.neg (by decide) (Ev.bind (key (2 * V) (by omega)) (Ev.out ?_))
    simp
  · have b2 := bl_add (2 * V) 1
    have b3 := bl_one
    refine Ev.pos rfl (Ev.bind (of_dg 1 (by decide)) (Ev.bind (add_bl (2 * V) 1 (by omega) (by decide)) (Ev.bind (key (2 * V + 1) (by omega)) (Ev.out ?_))))
    simp
end Go.Proofs.Ytbpmnmceajmmcaa.Th
end
section
set_option linter.unusedVariables false
set_option linter.unusedSimpArgs false
namespace Go.Proofs.Ytbpmnmceajmmcaa.Th
open Go.RowKit Go.Proofs.YtbpmnmceajmmcaaW.PrintWords Go.Proofs.YtbpmnmceajmmcaaW.PrintLast Go.Proofs.YtbpmnmceajmmcaaW.PrintMore Go.Proofs.Ytbpmnmceajmmcaa.PA Bit Flo
theorem packE (w : Int) (hw : w = 32 ∨ w = 64) (s : Bool) (h l : Nat) (hh : h < 18446744073709551616) (hl : l < 18446744073709551616) (e : Int) (m : Bool) : round_Pack.f w s h l e m = some ((mkN w (pkm (fmt w) (wn h l) e m) s : Nat) : Int) := by
  unfold round_Pack.f
  rw [if_pos (by omega), if_pos hw, Int.toNat_natCast, Int.toNat_natCast]
theorem packV (w : Int) (hw : w = 32 ∨ w = 64) (s : Bool) (V : Nat) (hV : V < 340282366920938463463374607431768211456) (e : Int) (m : Bool) : round_Pack.f w s ((V / 18446744073709551616 : Nat) : Int) ((V % 18446744073709551616 : Nat) : Int) e m = some ((mkN w (pkm (fmt w) V e m) s : Nat) : Int) := by
  rw [packE w hw s _ _ (hi64 hV) (lo64 V), wn_div]
theorem pack_no {w : Int} (hw : ¬ (w = 32 ∨ w = 64)) (s : Bool) (h l : Nat) (hh : h < 18446744073709551616) (hl : l < 18446744073709551616) (e : Int) (m : Bool) : round_Pack.f w s h l e m = some 0 := by
  unfold round_Pack.f
  rw [if_pos (by omega), if_neg hw]
theorem pack1 (w : Int) (hw : w = 32 ∨ w = 64) (s : Bool) (n : Nat) (hn : n < 18446744073709551616) (e : Int) : round_Pack.f w s 0 n e false = some ((mkN w ((fmt w).rnd ((n : Rat) * tw e)) s : Nat) : Int) := by
  have := packE w hw s 0 n (by decide) hn e false
  rw [show wn 0 n = n by unfold wn; omega, pk_ex w n e (by omega)] at this
  exact this
theorem whole_no {w : Int} (hw : ¬ (w = 32 ∨ w = 64)) (s : Bool) (n : Nat) (hn : n < 18446744073709551616) : round_Whole.f w s n = some 0 := by
  unfold round_Whole.f
  have h : ∀ t, round_Pack.f w t 0 (n : Int) 0 false = some 0 := fun t => pack_no hw t 0 n (by decide) hn 0 false
  rw [ofW n]
  cases s
  · rw [if_neg (by decide), Option.bind_some]
    show (round_Pack.f w false 0 (n : Int) 0 false).bind _ = _
    rw [h false, Option.bind_some]
  · rw [if_pos rfl, Option.bind_some]
    show (round_Pack.f w (decide ((n : Int) > 0)) 0 (n : Int) 0 false).bind _ = _
    rw [h, Option.bind_some]
theorem wholeE (w : Int) (hw : w = 32 ∨ w = 64) (s : Bool) (n : Nat) (hn : n < 18446744073709551616) : round_Whole.f w s n = some ((mkN w ((fmt w).rnd (n : Rat)) (s && decide (0 < n)) : Nat) : Int) := by
  unfold round_Whole.f
  have h := fun t => pack1 w hw t n hn 0
  rw [tw_zero, Rat.mul_one] at h
  rw [ofW n]
  cases s
  · rw [if_neg (by decide), Option.bind_some]
    show (round_Pack.f w false 0 (n : Int) 0 false).bind _ = _
    rw [h false, Option.bind_some]
    simp
  · rw [if_pos rfl, Option.bind_some]
    show (round_Pack.f w (decide ((n : Int) > 0)) 0 (n : Int) 0 false).bind _ = _
    rw [h, Option.bind_some]
    simp
theorem shN (w : Int) (hw : w = 32 ∨ w = 64) : shape_Nan.f w = some ((nanN w : Nat) : Int) := by rcases hw with rfl | rfl; exact shNan32; exact shNan64
theorem pv0 {p : Pt} (h : p.2.1 ≠ 1) : pv p = 0 := by unfold pv; rw [if_neg h]
theorem pv1 (s : Bool) (e : Int) (g : Nat) : pv (s, 1, e, (g : Int)) = if s then -((g : Rat) * tw e) else (g : Rat) * tw e := by
  unfold pv; rw [if_pos rfl]; simp
theorem pos_tw {g : Nat} (h : 0 < g) (e : Int) : 0 < (g : Rat) * tw e := Rat.mul_pos (by exact_mod_cast h) (tw_pos e)
def PtOk (p : Pt) : Prop := (p.2.1 = 0 ∨ p.2.1 = 1 ∨ p.2.1 = 2 ∨ p.2.1 = 3) ∧ (p.2.1 = 1 → 0 < p.2.2.2) ∧ (p.2.1 ≠ 1 → p.2.2.2 = 0 ∧ p.2.2.1 = 0) ∧ 0 ≤ p.2.2.2 ∧ p.2.2.2 < 9007199254740992 ∧ -1100 ≤ p.2.2.1 ∧ p.2.2.1 ≤ 1000
theorem opn_ok (w : Int) (hw : w = 32 ∨ w = 64) (a : Nat) : PtOk (opn w a) := by
  rcases kinds w hw a with ⟨_, h⟩ | ⟨h1, h2, h⟩ | ⟨_, h⟩ | ⟨_, h⟩ <;> rw [h]
  · exact ⟨.inl rfl, fun h => absurd h (by simp), fun _ => ⟨rfl, rfl⟩, by simp, by simp, by simp, by simp⟩
  · have h3 := ex_bd w hw _ h2
    have h4 := sg_64 w hw (magN w a)
    refine ⟨.inr (.inl rfl), fun _ => ?_, fun h => absurd rfl h, by simp, by simp; omega, by simp; omega, by simp; omega⟩
    have : 0 < (fmt w).val (magN w a) := (fmt w).val_pos.2 h1
    unfold Fmt.val at this
    rcases Nat.eq_zero_or_pos ((fmt w).sg (magN w a)) with h5 | h5
    · rw [h5] at this; simp at this
    · simp; omega
  · exact ⟨.inr (.inr (.inl rfl)), fun h => absurd h (by simp), fun _ => ⟨rfl, rfl⟩, by simp, by simp, by simp, by simp⟩
  · exact ⟨.inr (.inr (.inr rfl)), fun h => absurd h (by simp), fun _ => ⟨rfl, rfl⟩, by simp, by simp, by simp, by simp⟩
end Go.Proofs.Ytbpmnmceajmmcaa.Th
end
section
set_option linter.unusedVariables false
set_option linter.unusedSimpArgs false
namespace Go.Proofs.Ytbpmnmceajmmcaa.Th
open Go.RowKit Go.Proofs.YtbpmnmceajmmcaaW.PrintWords Go.Proofs.YtbpmnmceajmmcaaW.PrintLast Go.Proofs.YtbpmnmceajmmcaaW.PrintMore Go.Proofs.Ytbpmnmceajmmcaa.PA Bit Dig Flo
theorem pkx0 (g : Nat) (e : Int) : pkx (0 * 18446744073709551616 + g) e false = (g : Rat) * tw e := by rw [pkx_f, Nat.zero_mul, Nat.zero_add]
noncomputable def narG (w : Int) (s : Bool) (kd e : Int) (g : Nat) : Nat := if kd = 0 then mkN w 0 s else if kd = 1 then mkN w ((fmt w).rnd ((g : Rat) * tw e)) s else if kd = 2 then mkN w (fmt w).inf s else if kd = 3 then nanN w else 0
theorem narrowG (w : Int) (hw : w = 32 ∨ w = 64) (s : Bool) (kd e : Int) (g : Nat) (hg : g < 18446744073709551616) : round_Narrow.f w s kd e g = some ((narG w s kd e g : Nat) : Int) := by
  unfold round_Narrow.f narG
  by_cases h0 : kd = 0
  · rw [if_pos h0, if_pos h0, shZ w hw, Option.bind_some]
  · rw [if_neg h0, if_neg h0]
    by_cases h1 : kd = 1
    · rw [if_pos h1, if_pos h1, ofW g, Option.bind_some]
      show (round_Pack.f w s 0 (g : Int) e false).bind _ = _
      rw [pack1 w hw s g hg e, Option.bind_some]
    · rw [if_neg h1, if_neg h1]
      by_cases h2 : kd = 2
      · rw [if_pos h2, if_pos h2, shI w hw, Option.bind_some]
      · rw [if_neg h2, if_neg h2]
        by_cases h3 : kd = 3
        · rw [if_pos h3, if_pos h3, shN w hw, Option.bind_some]
        · rw [if_neg h3, if_neg h3]; rfl
theorem narrowR (w : Int) (hw : w = 32 ∨ w = 64) (s : Bool) (kd e : Int) (g : Nat) (hg : g < 18446744073709551616) : Ev (fun k => r3_Narrow.f k w s kd e g) ((narG w s kd e g : Nat) : Int) := by
  unfold r3_Narrow.f narG
  by_cases h0 : kd = 0
  · rw [if_pos h0]
    exact Ev.pos h0 (Ev.bind (zero_mul' w hw s) (Ev.out rfl))
  · rw [if_neg h0]
    refine Ev.neg h0 ?_
    by_cases h1 : kd = 1
    · rw [if_pos h1]
      have := packR w hw s 0 g (by decide) hg e false
      rw [pkx0] at this
      exact Ev.pos h1 (Ev.bind this (Ev.out rfl))
    · rw [if_neg h1]
      refine Ev.neg h1 ?_
      by_cases h2 : kd = 2
      · rw [if_pos h2]; exact Ev.pos h2 (Ev.bind (r2Infw w hw s) (Ev.out rfl))
      · rw [if_neg h2]
        refine Ev.neg h2 ?_
        by_cases h3 : kd = 3
        · rw [if_pos h3]; exact Ev.pos h3 (Ev.bind (r2Nanw w hw) (Ev.out rfl))
        · rw [if_neg h3]; exact Ev.neg h3 (Ev.out rfl)
theorem mul_pv (s t : Bool) (e e2 : Int) (g g2 : Nat) : pv (s, 1, e, (g : Int)) * pv (t, 1, e2, (g2 : Int)) = if (s != t) then -(((g * g2 : Nat) : Rat) * tw (e + e2)) else ((g * g2 : Nat) : Rat) * tw (e + e2) := by
  rw [pv1, pv1, tw_add]
  push_cast
  generalize tw e = x
  generalize tw e2 = y
  cases s <;> cases t <;> simp <;> grind
theorem mul_fx (w : Int) (s t : Bool) (e e2 : Int) {g g2 : Nat} (h : 0 < g) (h2 : 0 < g2) (z : Bool) : fx w (pv (s, 1, e, (g : Int)) * pv (t, 1, e2, (g2 : Int))) z = mkN w ((fmt w).rnd (((g * g2 : Nat) : Rat) * tw (e + e2))) (s != t) := by
  rw [mul_pv]
  exact fx_sg w (pos_tw (Nat.mul_pos h h2) _) _ z
set_option maxRecDepth 20000 in
theorem mulProg (w : Int) (hw : w = 32 ∨ w = 64) (p q : Pt) (hp : PtOk p) (hq : PtOk q) : Ev (fun k => product_parts.f k w p.1 p.2.1 p.2.2.1 p.2.2.2 q.1 q.2.1 q.2.2.1 q.2.2.2) ((mulP w p q : Nat) : Int) := by
  obtain ⟨s, kd, e, g⟩ := p
  obtain ⟨t, kd2, e2, g2⟩ := q
  obtain ⟨h1, h2, h0, h3, h4, h5, h6⟩ := hp
  obtain ⟨k1, k2, k0, k3, k4, k5, k6⟩ := hq
  simp only at h1 h2 h0 h3 h4 h5 h6 k1 k2 k0 k3 k4 k5 k6
  obtain ⟨g, rfl⟩ := Int.eq_ofNat_of_zero_le h3
  obtain ⟨g2, rfl⟩ := Int.eq_ofNat_of_zero_le k3
  simp only
  generalize hR : mulP w (s, kd, e, (g : Int)) (t, kd2, e2, (g2 : Int)) = R
  unfold product_parts.f
  have fin : 0 < g → 0 < g2 → Ev (fun k => (wide_Mul.f (g : Int) (g2 : Int)).bind fun bt => (round_Pack.f w (s != t) bt.1 bt.2 (wrap64 (e + e2)) false).bind fun t => some t) ((mkN w ((fmt w).rnd (((g * g2 : Nat) : Rat) * tw (e + e2))) (s != t) : Nat) : Int) := by
    intro _ _
    have hlt : g * g2 < 340282366920938463463374607431768211456 := by
      have := Nat.mul_lt_mul'' (show g < 9007199254740992 by omega) (show g2 < 9007199254740992 by omega)
      omega
    refine Ev.bs (mulW g g2 (by omega) (by omega)) ?_
    rw [w64_id (n := e + e2) (by omega) (by omega)]
    refine Ev.bs (packV w hw (s != t) (g * g2) hlt (e + e2) false) (Ev.out ?_)
    rw [pk_ex w _ _ hlt]
  rcases h1 with rfl | rfl | rfl | rfl <;> rcases k1 with rfl | rfl | rfl | rfl
  all_goals
    simp [mulP, pv0, fx_zero] at hR
    subst hR
    repeat (first
      | (with_reducible refine Ev.pos (by decide) ?_)
      | (with_reducible refine Ev.neg (by decide) ?_)
      | (with_reducible refine Ev.step (fun _ => product_parts.j0.eq_2 ..) ?_)
      | (with_reducible refine Ev.step (fun _ => product_parts.j1.eq_2 ..) ?_)
      | (with_reducible refine Ev.step (fun _ => product_parts.j2.eq_2 ..) ?_))
  all_goals first
    | (rw [mul_fx w s t e e2 (by have := h2 rfl; omega) (by have := k2 rfl; omega)]
       exact fin (by have := h2 rfl; omega) (by have := k2 rfl; omega))
    | (exact Ev.bs (shN w hw) (Ev.out rfl))
    | (exact Ev.bs (shI w hw _) (Ev.out rfl))
    | (exact Ev.bs (shZ w hw _) (Ev.out rfl))
theorem prodE (w : Int) (hw : w = 32 ∨ w = 64) (a b : Nat) (ha : a < 18446744073709551616) (hb : b < 18446744073709551616) : Ev (fun k => product_Mul.f k w a b) ((mulP w (opn w a) (opn w b) : Nat) : Int) := by
  unfold product_Mul.f
  refine Ev.bs (show product_known.f w = some true by rcases hw with rfl | rfl <;> rfl) (Ev.pos rfl (Ev.bind (openS w hw a ha) (Ev.bind (openS w hw b hb) ?_)))
  exact Ev.bind (mulProg w hw _ _ (opn_ok w hw a) (opn_ok w hw b)) (Ev.out rfl)
theorem prod_no {w : Int} (hw : ¬ (w = 32 ∨ w = 64)) (a b : Int) : Ev (fun k => product_Mul.f k w a b) 0 := by
  unfold product_Mul.f
  refine Ev.bs (show product_known.f w = some false by unfold product_known.f; rw [if_neg (by omega)]; congr 1; rw [beq_eq_false_iff_ne]; omega) (Ev.neg (by decide) (Ev.out rfl))
theorem bl53 {g : Nat} (h : g < 9007199254740992) : bl g ≤ 53 := bl_le.2 h
set_option maxRecDepth 20000 in
theorem mulRef (w : Int) (hw : w = 32 ∨ w = 64) (a b : Nat) (ha : a < 18446744073709551616) (hb : b < 18446744073709551616) : Ev (fun k => r5_Mul.f k w a b) ((mulP w (opn w a) (opn w b) : Nat) : Int) := by
  unfold r5_Mul.f
  refine Ev.bind (r2Open w hw a ha) (Ev.bind (r2Open w hw b hb) ?_)
  have hp := opn_ok w hw a
  have hq := opn_ok w hw b
  generalize opn w a = p at *
  generalize opn w b = q at *
  obtain ⟨s, kd, e, g⟩ := p
  obtain ⟨t, kd2, e2, g2⟩ := q
  obtain ⟨h1, h2, h0, h3, h4, h5, h6⟩ := hp
  obtain ⟨k1, k2, k0, k3, k4, k5, k6⟩ := hq
  simp only at h1 h2 h0 h3 h4 h5 h6 k1 k2 k0 k3 k4 k5 k6
  obtain ⟨g, rfl⟩ := Int.eq_ofNat_of_zero_le h3
  obtain ⟨g2, rfl⟩ := Int.eq_ofNat_of_zero_le k3
  simp only
  generalize hR : mulP w (s, kd, e, (g : Int)) (t, kd2, e2, (g2 : Int)) = R
  have tail : Ev (fun k => (r1_Of.f k (g : Int)).bind fun t701 => ((r1_Of.f k (g2 : Int)).bind fun t704 => ((r1_Mul.f k t701 t704).bind fun t707 => ((r3_Exact.f k w (s != t) t707 (wrap64 (e + e2))).bind fun t710 => (some t710))))) ((mkN w ((fmt w).rnd (((g * g2 : Nat) : Rat) * tw (e + e2))) (s != t) : Nat) : Int) := by
    have b1 := bl53 (show g < 9007199254740992 by omega)
    have b2 := bl53 (show g2 < 9007199254740992 by omega)
    have b3 := bl_mul g g2
    rw [w64_id (n := e + e2) (by omega) (by omega)]
    exact Ev.bind (of_dg g (by omega)) (Ev.bind (of_dg g2 (by omega)) (Ev.bind (mul_bl g g2 (by omega) (by omega)) (Ev.bind (exactS w hw (s != t) (g * g2) (e + e2) (by omega)) (Ev.out rfl))))
  have z : g = 0 ∨ g2 = 0 → ((mkN w ((fmt w).rnd (((g * g2 : Nat) : Rat) * tw (e + e2))) (s != t) : Nat) : Int) = ((mkN w 0 (s != t) : Nat) : Int) := by
    intro h
    have : g * g2 = 0 := by rcases h with h | h <;> rw [h] <;> simp
    rw [this, show ((0 : Nat) : Rat) * tw (e + e2) = 0 by simp, Fmt.rnd_zero]
  rcases h1 with rfl | rfl | rfl | rfl <;> rcases k1 with rfl | rfl | rfl | rfl
  all_goals
    simp [mulP, pv0, fx_zero] at hR
    subst hR
    repeat (first
      | (with_reducible refine Ev.pos (by decide) ?_)
      | (with_reducible refine Ev.neg (by decide) ?_)
      | (with_reducible refine Ev.step (fun _ => r5_Mul.j0.eq_2 ..) ?_)
      | (with_reducible refine Ev.step (fun _ => r5_Mul.j1.eq_2 ..) ?_)
      | (exact Ev.bind (r2Nanw w hw) (Ev.out rfl))
      | (exact Ev.bind (r2Infw w hw _) (Ev.out rfl)))
  · have := (h0 (by decide)).1
    rw [← z (.inl (by omega))]
    exact tail
  · have := (h0 (by decide)).1
    rw [← z (.inl (by omega))]
    exact tail
  · have := (k0 (by decide)).1
    rw [← z (.inr (by omega))]
    exact tail
  · rw [mul_fx w s t e e2 (by have := h2 rfl; omega) (by have := k2 rfl; omega)]
    exact tail
theorem awake05 : Ev (fun k => L05_awake.f k) true := Ev.of (fun k => L05_awake.mono k) (k := 12) (by decide +kernel)
def Can (w : Int) (r : Nat) : Prop := r = nanN w ∨ ∃ m s, m ≤ (fmt w).inf ∧ r = mkN w m s
theorem inf_sb (w : Int) (hw : w = 32 ∨ w = 64) : (fmt w).inf < sb w ∧ nanN w < sb w ∧ (fmt w).inf < nanN w ∧ nanN w = mkN w (nanN w) false := by
  rcases hw with rfl | rfl
  · rw [fmt32, inf32]; exact ⟨by decide, by decide, by decide, by decide⟩
  · rw [fmt64, inf64]; exact ⟨by decide, by decide, by decide, by decide⟩
theorem can_fx (w : Int) (s : Rat) (z : Bool) : Can w (fx w s z) := by
  unfold fx
  split
  · exact .inr ⟨_, _, Nat.zero_le _, rfl⟩
  · split <;> exact .inr ⟨_, _, (fmt w).rnd_le _, rfl⟩
theorem can_mul (w : Int) (p q : Pt) : Can w (mulP w p q) := by
  unfold mulP
  split
  · exact .inl rfl
  · split
    · exact .inr ⟨_, _, Nat.le_refl _, rfl⟩
    · exact can_fx ..
theorem can_cut {w : Int} (hw : w = 32 ∨ w = 64) {r : Nat} (h : Can w r) : cutN w r = r ∧ r < 18446744073709551616 := by
  have hs := inf_sb w hw
  have h2 : 2 * sb w ≤ 18446744073709551616 := by unfold sb; split <;> decide
  rcases h with rfl | ⟨m, s, hm, rfl⟩
  · rw [hs.2.2.2, cut_mk w hw _ _ hs.2.1, ← hs.2.2.2]; exact ⟨rfl, by omega⟩
  · rw [cut_mk w hw _ _ (by omega)]
    refine ⟨rfl, ?_⟩
    unfold mkN; split <;> omega
def oneN (w : Int) : Nat := if w = 32 then 1065353216 else 4607182418800017408
theorem val_one (w : Int) (hw : w = 32 ∨ w = 64) : (fmt w).val (oneN w) = 1 ∧ oneN w < (fmt w).inf ∧ 0 < oneN w := by
  rcases hw with rfl | rfl
  · refine ⟨?_, by rw [fmt32, inf32]; decide, by decide⟩
    unfold Fmt.val
    rw [fmt32, show oneN 32 = 127 * 2 ^ f32.f + 0 by decide]
    have := Fmt.sg_mk f32 126 (2 ^ f32.f) (by decide) (fun _ => Nat.le_refl _)
    rw [show 127 * 2 ^ f32.f + 0 = 126 * 2 ^ f32.f + 2 ^ f32.f by decide, this.1, this.2]
    rw [show ((2 ^ f32.f : Nat) : Rat) = tw 23 from (tw_nat 23).symm, ← tw_add]
    exact tw_zero
  · refine ⟨?_, by rw [fmt64, inf64]; decide, by decide⟩
    unfold Fmt.val
    rw [fmt64, show oneN 64 = 1022 * 2 ^ f64.f + 2 ^ f64.f by decide]
    have := Fmt.sg_mk f64 1022 (2 ^ f64.f) (by decide) (fun _ => Nat.le_refl _)
    rw [this.1, this.2]
    rw [show ((2 ^ f64.f : Nat) : Rat) = tw 52 from (tw_nat 52).symm, ← tw_add]
    exact tw_zero
theorem oneE (w : Int) (hw : w = 32 ∨ w = 64) : product_one.f w = some ((oneN w : Nat) : Int) := by
  have h := val_one w hw
  unfold product_one.f
  rw [show (1 : Int) = ((1 : Nat) : Int) from rfl, wholeE w hw false 1 (by decide), Option.bind_some]
  rw [show ((1 : Nat) : Rat) = (fmt w).val (oneN w) by rw [h.1]; rfl, (fmt w).rnd_val (by omega)]
  simp [mkN]
theorem tw_g {g : Nat} (h : 0 < g) (E : Int) : tw E ≤ (g : Rat) * tw E := by
  have := mul_le (a := 1) (b := (g : Rat)) (t := tw E) (by exact_mod_cast h) (tw_pos E)
  rwa [Rat.one_mul] at this
theorem val_inf (w : Int) (hw : w = 32 ∨ w = 64) : (fmt w).val (fmt w).inf ≤ tw 1024 := by
  rcases hw with rfl | rfl
  · rw [fmt32]; unfold Fmt.val
    rw [show f32.sg f32.inf = 2 ^ 23 by decide, show f32.ex f32.inf = 105 by decide, show ((2 ^ 23 : Nat) : Rat) = tw 23 from (tw_nat 23).symm, ← tw_add]
    exact tw_le (by decide)
  · rw [fmt64]; unfold Fmt.val
    rw [show f64.sg f64.inf = 2 ^ 52 by decide, show f64.ex f64.inf = 972 by decide, show ((2 ^ 52 : Nat) : Rat) = tw 52 from (tw_nat 52).symm, ← tw_add]
    exact tw_le (by decide)
theorem rnd_big (w : Int) (hw : w = 32 ∨ w = 64) {g : Nat} (h : 0 < g) {E : Int} (hE : 7000 ≤ E) : (fmt w).rnd ((g : Rat) * tw E) = (fmt w).inf := by
  refine Nat.le_antisymm ((fmt w).rnd_le _) ?_
  have h1 : (fmt w).val (fmt w).inf ≤ (g : Rat) * tw E := Rat.le_trans (val_inf w hw) (Rat.le_trans (tw_le (by omega)) (tw_g h E))
  have := (fmt w).rnd_mono h1
  rwa [(fmt w).rnd_val (Nat.le_refl _)] at this
theorem mid0 (w : Int) (hw : w = 32 ∨ w = 64) : tw (-1075) ≤ (fmt w).mid 0 := by
  rcases hw with rfl | rfl
  · rw [fmt32]; unfold Fmt.mid
    rw [show f32.sg 0 = 0 by decide, show f32.ex 0 = -149 by decide]
    simp only [Nat.mul_zero, Nat.zero_add]
    rw [show ((1 : Nat) : Rat) = 1 from rfl, Rat.one_mul]
    exact tw_le (by decide)
  · rw [fmt64]; unfold Fmt.mid
    rw [show f64.sg 0 = 0 by decide, show f64.ex 0 = -1074 by decide]
    simp only [Nat.mul_zero, Nat.zero_add]
    rw [show ((1 : Nat) : Rat) = 1 from rfl, Rat.one_mul]
    exact tw_le (by decide)
theorem rnd_small (w : Int) (hw : w = 32 ∨ w = 64) {g : Nat} (h : g < 9007199254740992) {E : Int} (hE : E ≤ -7000) : (fmt w).rnd ((g : Rat) * tw E) = 0 := by
  rcases Nat.eq_zero_or_pos ((fmt w).rnd ((g : Rat) * tw E)) with h0 | h0
  · exact h0
  · exfalso
    have h1 := ((fmt w).rnd_spec ((g : Rat) * tw E)).2.1 0 h0
    have h2 : (fmt w).mid 0 < (g : Rat) * tw E := by
      rcases h1 with h1 | ⟨_, h1⟩
      · exact h1
      · exact absurd h1 (by decide)
    have h3 : (g : Rat) * tw E < ((2 ^ 53 : Nat) : Rat) * tw E := mul_lt (nat_lt.2 (by omega)) (tw_pos E)
    rw [show ((2 ^ 53 : Nat) : Rat) = tw 53 from (tw_nat 53).symm, ← tw_add] at h3
    have h4 : tw (53 + E) ≤ tw (-1075) := tw_le (by omega)
    have h5 := mid0 w hw
    grind
theorem clampEq (w : Int) (hw : w = 32 ∨ w = 64) {g : Nat} (h0 : 0 < g) (h : g < 9007199254740992) {e : Int} (he : -1100 ≤ e) (he2 : e ≤ 1000) (n : Int) :
    (fmt w).rnd ((g : Rat) * tw (e + mn (mx n (-1048576)) 1048576)) = (fmt w).rnd ((g : Rat) * tw (e + mn (mx n (-9000)) 9000)) := by
  by_cases h1 : 9000 < n
  · rw [rnd_big w hw h0 (by unfold mn mx; (repeat' split) <;> omega), rnd_big w hw h0 (by unfold mn mx; (repeat' split) <;> omega)]
  · by_cases h2 : n < -9000
    · rw [rnd_small w hw h (by unfold mn mx; (repeat' split) <;> omega), rnd_small w hw h (by unfold mn mx; (repeat' split) <;> omega)]
    · rw [show mn (mx n (-1048576)) 1048576 = n by unfold mn mx; (repeat' split) <;> omega, show mn (mx n (-9000)) 9000 = n by unfold mn mx; (repeat' split) <;> omega]
theorem scaleEq (w : Int) (hw : w = 32 ∨ w = 64) (a : Nat) (ha : a < 18446744073709551616) (n : Int) : ∃ r : Int, Ev (fun k => product_Scale.f k w a n) r ∧ Ev (fun k => r5_Scale.f k w a n) r := by
  have hp := opn_ok w hw a
  have o1 := openS w hw a ha
  have o2 := r2Open w hw a ha
  generalize opn w a = p at *
  obtain ⟨s, kd, e, g⟩ := p
  obtain ⟨h1, h2, h0, h3, h4, h5, h6⟩ := hp
  simp only at h1 h2 h0 h3 h4 h5 h6
  obtain ⟨g, rfl⟩ := Int.eq_ofNat_of_zero_le h3
  have kn : product_known.f w = some true := by rcases hw with rfl | rfl <;> rfl
  have hm : -1048576 ≤ mn (mx n (-1048576)) 1048576 ∧ mn (mx n (-1048576)) 1048576 ≤ 1048576 ∧ -9000 ≤ mn (mx n (-9000)) 9000 ∧ mn (mx n (-9000)) 9000 ≤ 9000 := by
    unfold mn mx
    refine ⟨?_, ?_, ?_, ?_⟩ <;> (repeat' split) <;> omega
  by_cases hk : kd = 1
  · subst hk
    have hg : 0 < g := by have := h2 rfl; omega
    have cl := clampEq w hw hg (by omega) h5 h6 n
    generalize hc1 : mn (mx n (-1048576)) 1048576 = c1 at *
    generalize hc2 : mn (mx n (-9000)) 9000 = c2 at *
    refine ⟨((mkN w ((fmt w).rnd ((g : Rat) * tw (e + c2))) s : Nat) : Int), ?_, ?_⟩
    · unfold product_Scale.f
      refine Ev.bs kn (Ev.pos rfl (Ev.bind o1 ?_))
      simp only
      have hX := narrowG w hw s 1 (e + c1) g (by omega)
      unfold narG at hX
      rw [if_neg (by decide), if_pos rfl, cl] at hX
      rw [if_pos trivial, hc1, w64_id (n := e + c1) (by omega) (by omega), hX]
      exact Ev.out rfl
    · unfold r5_Scale.f
      refine Ev.bind o2 (Ev.pos rfl (Ev.bind (of_dg g (by omega)) ?_))
      simp only [hc2]
      rw [w64_id (n := e + c2) (by omega) (by omega)]
      exact Ev.bind (exactS w hw s g (e + c2) (by have := bl53 (show g < 9007199254740992 by omega); omega)) (Ev.out rfl)
  · refine ⟨((narG w s kd e g : Nat) : Int), ?_, ?_⟩
    · unfold product_Scale.f
      refine Ev.bs kn (Ev.pos rfl (Ev.bind o1 ?_))
      simp only
      rw [if_neg hk, narrowG w hw s kd e g (by omega)]
      exact Ev.out rfl
    · unfold r5_Scale.f
      exact Ev.bind o2 (Ev.neg hk (Ev.bind (narrowR w hw s kd e g (by omega)) (Ev.out rfl)))
noncomputable def foldM (w : Int) : Nat → List Int → Nat
  | x, [] => x
  | x, y :: l => foldM w (mulP w (opn w x) (opn w y.toNat)) l
theorem rd_drop {l : List Int} {i : Nat} (h : i < l.length) : l.drop i = rd l (i : Int) :: l.drop (i + 1) := by
  rw [List.drop_eq_getElem_cons h]
  congr 1
  unfold rd
  rw [Int.toNat_natCast, List.getD_eq_getElem?_getD, List.getElem?_eq_getElem h]; rfl
theorem rd_ok {l : List Int} (hl : ∀ x ∈ l, (Lit.int .u64 x).wf = true) {i : Nat} (h : i < l.length) : ∃ y : Nat, rd l (i : Int) = (y : Int) ∧ y < 18446744073709551616 := by
  have hm : rd l (i : Int) ∈ l := by
    have := rd_drop h
    exact List.mem_of_mem_drop (by rw [this]; exact List.mem_cons_self)
  obtain ⟨h1, h2⟩ := wf_u64 (hl _ hm)
  obtain ⟨y, hy⟩ := Int.eq_ofNat_of_zero_le h1
  exact ⟨y, hy, by omega⟩
theorem allLoop (w : Int) (hw : w = 32 ∨ w = 64) (l : List Int) (hl : ∀ x ∈ l, (Lit.int .u64 x).wf = true) (hn : l.length ≤ 100) : ∀ (d i x : Nat), i + d = l.length → x < 18446744073709551616 →
    Ev (fun k => product_All.l0 k w (x : Int) l (l.length : Int) (i : Int)) ((foldM w x (l.drop i) : Nat) : Int)
  | 0, i, x, hi, hx => by
    refine Ev.step (fun _ => product_All.l0.eq_2 ..) (Ev.neg (by omega) (Ev.out ?_))
    rw [List.drop_eq_nil_of_le (by omega)]; rfl
  | d + 1, i, x, hi, hx => by
    obtain ⟨y, hy, hy2⟩ := rd_ok hl (i := i) (by omega)
    refine Ev.step (fun _ => product_All.l0.eq_2 ..) (Ev.pos (by omega) (Ev.pos (by omega) (Ev.pos (by omega) ?_)))
    rw [hy]
    refine Ev.bind (prodE w hw x y hx hy2) ?_
    have ih := allLoop w hw l hl hn d (i + 1) (mulP w (opn w x) (opn w y)) (by omega) (can_cut hw (can_mul w _ _)).2
    rw [w64_id (by omega) (by omega), show ((i : Int) + 1) = ((i + 1 : Nat) : Int) by omega]
    rw [rd_drop (i := i) (by omega), hy]
    simpa [foldM] using ih
theorem refLoop (w : Int) (hw : w = 32 ∨ w = 64) (n : Int) (T : Nat) (l : List Int) (hl : ∀ x ∈ l, (Lit.int .u64 x).wf = true) (hn : l.length ≤ 100) : ∀ (d i x : Nat), i + d = l.length → x < 18446744073709551616 → foldM w x (l.drop i) = T →
    Ev (fun k => L05_ProductScales.l0 k w n (T : Int) (x : Int) l (l.length : Int) (i : Int)) true
  | 0, i, x, hi, hx, hT => by
    rw [List.drop_eq_nil_of_le (by omega)] at hT
    simp only [foldM] at hT
    subst hT
    exact Ev.step (fun _ => L05_ProductScales.l0.eq_2 ..) (Ev.neg (by omega) (Ev.out (by simp)))
  | d + 1, i, x, hi, hx, hT => by
    obtain ⟨y, hy, hy2⟩ := rd_ok hl (i := i) (by omega)
    refine Ev.step (fun _ => L05_ProductScales.l0.eq_2 ..) (Ev.pos (by omega) (Ev.pos (by omega) (Ev.pos (by omega) ?_)))
    rw [rd_drop (i := i) (by omega), hy] at hT
    rw [hy]
    obtain ⟨r, r1, r2⟩ := scaleEq w hw y hy2 n
    refine Ev.bind (mulRef w hw x y hx hy2) (Ev.bind r1 (Ev.bind r2 (Ev.pos rfl ?_)))
    rw [w64_id (by omega) (by omega), show ((i : Int) + 1) = ((i + 1 : Nat) : Int) by omega]
    exact refLoop w hw n T l hl hn d (i + 1) (mulP w (opn w x) (opn w y)) (by omega) (can_cut hw (can_mul w _ _)).2 (by simpa [foldM] using hT)
theorem noLoop {w : Int} (hw : ¬ (w = 32 ∨ w = 64)) (l : List Int) (hn : l.length ≤ 100) : ∀ (d i : Nat), i + d = l.length → Ev (fun k => product_All.l0 k w 0 l (l.length : Int) ((i : Nat) : Int)) 0
  | 0, i, hi => Ev.step (fun _ => product_All.l0.eq_2 ..) (Ev.neg (by omega) (Ev.out rfl))
  | d + 1, i, hi => by
    refine Ev.step (fun _ => product_All.l0.eq_2 ..) (Ev.pos (by omega) (Ev.pos (by omega) (Ev.pos (by omega) (Ev.bind (prod_no hw _ _) ?_))))
    rw [w64_id (by omega) (by omega), show ((i : Int) + 1) = ((i + 1 : Nat) : Int) by omega]
    exact noLoop hw l hn d (i + 1) (by omega)
theorem refOne (w : Int) (hw : w = 32 ∨ w = 64) : Ev (fun k => r5_One.f k w) ((oneN w : Nat) : Int) := by
  rcases hw with rfl | rfl
  · exact Ev.of (fun k => r5_One.mono _ k) (k := 80) (by decide +kernel)
  · exact Ev.of (fun k => r5_One.mono _ k) (k := 80) (by decide +kernel)
theorem ProductScalesP : L05_ProductScales.Pure := by
  intro w n l hw0 hn0 hl1 hl2 hl
  refine Ev.rounds ?_
  unfold L05_ProductScales.f
  refine Ev.bind awake05 (Ev.pos rfl ?_)
  by_cases hlen : (l.length : Int) > 100
  · exact Ev.pos hlen (Ev.out rfl)
  · refine Ev.neg hlen ?_
    by_cases hw : w = 32 ∨ w = 64
    · have h1 : oneN w < 18446744073709551616 := by unfold oneN; split <;> decide
      have hA : Ev (fun k => product_All.f k w l) ((foldM w (oneN w) l : Nat) : Int) := by
        unfold product_All.f
        exact Ev.bs (oneE w hw) (allLoop w hw l hl (by omega) l.length 0 (oneN w) (by omega) h1)
      refine Ev.bind hA (Ev.bs (known_f w) ?_)
      rw [decide_eq_true hw]
      exact Ev.pos rfl (Ev.bind (refOne w hw) (refLoop w hw n _ l hl (by omega) l.length 0 (oneN w) (by omega) h1 rfl))
    · have hA : Ev (fun k => product_All.f k w l) 0 := by
        unfold product_All.f product_one.f
        refine Ev.bs (show (round_Whole.f w false 1).bind (fun t => some t) = some 0 by
          have := whole_no hw false 1 (by decide)
          rw [show ((1 : Nat) : Int) = 1 from rfl] at this
          rw [this]; rfl) (noLoop hw l (by omega) l.length 0 (by omega))
      refine Ev.bind hA (Ev.bs (known_f w) ?_)
      rw [decide_eq_false hw]
      refine Ev.neg (by decide) (Ev.pos rfl (Ev.bind (show Ev (fun k => product_Scale.f k w 1 n) 0 from ?_) (Ev.out rfl)))
      unfold product_Scale.f
      exact Ev.bs (show product_known.f w = some false by unfold product_known.f; rw [if_neg (by omega)]; congr 1; rw [beq_eq_false_iff_ne]; omega) (Ev.neg (by decide) (Ev.out rfl))
end Go.Proofs.Ytbpmnmceajmmcaa.Th
end
namespace Go.Proofs.Ytbpmnmceajmmcaa.Pure
theorem ProductScales : Go.Proofs.Ytbpmnmceajmmcaa.PA.L05_ProductScales.Pure := Go.Proofs.Ytbpmnmceajmmcaa.Th.ProductScalesP
end Go.Proofs.Ytbpmnmceajmmcaa.Pure
