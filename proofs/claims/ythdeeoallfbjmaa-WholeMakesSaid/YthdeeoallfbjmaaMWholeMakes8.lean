/- What the Go functions that the statement WholeMakes reaches compute, and the mathematics on it, in the order in which one leans on the other; for every input. -/
import Derived.Test.YthdeeoallfbjmaaVWholeMakes1
import Derived.Test.YthdeeoallfbjmaaMWholeMakes0
import Derived.Test.YthdeeoallfbjmaaMWholeMakes5
import Derived.Test.YthdeeoallfbjmaaMWholeMakes7
import Derived.Test.YthdeeoallfbjmaaMWholeMakes4
namespace Go.Proofs.Ythdeeoallfbjmaa.PA
open Go.RowKit Go.Proofs.YthdeeoallfbjmaaW.PrintWords Go.Proofs.YthdeeoallfbjmaaW.PrintLast Go.Proofs.YthdeeoallfbjmaaW.PrintMore
attribute [local go_sem] max2_int min2_int max_two min_two max_three min_three max_four min_four   -- for this text's walks alone
set_option linter.unusedVariables false
set_option linter.unusedSimpArgs false
set_option maxHeartbeats 8000000
set_option maxRecDepth 100000
def r9_Down.f (k : Nat) (a0_0 : Bool) (a0_1 : Int) (a0_2 : Int) (a0_3 : Int) : Option (List Int × Int × Bool) := if a0_2 ≥ 0 then ((r1_Of.f k a0_3).bind fun t325 => ((r1_Shl.f k t325 a0_2).bind fun t328 => (some (t328, (-1), false)))) else ((r1_Of.f k 1).bind fun t331 => ((r1_Shl.f k t331 (wrap64 (-a0_2))).bind fun t334 => ((r1_Of.f k a0_3).bind fun t338 => ((r1_Div.f k t338 t334).bind fun bt341 => ((r1_Shl.f k bt341.2 1).bind fun t349 => ((r1_Cmp.f k t349 t334).bind fun t352 => (some (bt341.1, t352, decide ((bt341.2.length : Int) > 0)))))))))
theorem r9_Down.mono : ∀ a0 a1 a2 a3 k, LeO (r9_Down.f k a0 a1 a2 a3) (r9_Down.f (k + 1) a0 a1 a2 a3) := by
 intro a0 a1 a2 a3 k
 unfold r9_Down.f
 repeat' first
   | (with_reducible exact r1_Cmp.mono _ _ _)
   | (with_reducible exact r1_Div.mono _ _ _)
   | (with_reducible exact r1_Of.mono _ _)
   | (with_reducible exact r1_Shl.mono _ _ _)
   | (with_reducible exact LeO.refl _)
   | (with_reducible exact LeO.none _)
   | (with_reducible refine LeO.ite ?_ ?_)
   | (with_reducible refine LeO.bind ?_ (fun _ => ?_))
   | exact r1_Cmp.mono _ _ _
   | exact r1_Div.mono _ _ _
   | exact r1_Of.mono _ _
   | exact r1_Shl.mono _ _ _
   | exact LeO.none _
   | refine LeO.ite ?_ ?_
   | refine LeO.bind ?_ (fun _ => ?_)
def r9_Down.T2 : Bool × List (List Nat × List Nat) := (true, [([], []), ([0], [0]), ([1], [1]), ([], []), ([3], [3]), ([2, 4, 2], [2, 4]), ([5, 5, 0, 1, 2, 3, 4, 5], [5]), ([6, 0, 1, 2, 3, 4, 5, 6], []), ([7, 0, 1, 2, 3, 4, 5, 6, 7], [])])
def r9_Down.B2 : List Nat := [0, 1, 3, 0, 8, 31, 63, 127, 255]
theorem r9_Down.tab2 : rtab .any (opsOf Try.f15 2) = r9_Down.T2 := by kernel_rfl
theorem r9_Down.bits2 : waitsOk r9_Down.T2.2 r9_Down.B2 = true := by kernel_rfl
def r9_Down.T4 : Bool × List (List Nat × List Nat) := (true, [([], []), ([0], [0]), ([1], [1]), ([], []), ([2, 3, 2], [2, 3]), ([4], [4]), ([5], [5]), ([5], [5]), ([], []), ([], []), ([8, 6, 4, 0, 1, 2, 3, 4, 5, 6, 8, 9], [6, 8]), ([9, 7, 10, 0, 1, 2, 3, 4, 5, 6, 7, 8, 9, 10], [7, 9])])
def r9_Down.B4 : List Nat := [0, 1, 3, 0, 15, 31, 63, 63, 0, 0, 895, 2047]
theorem r9_Down.tab4 : rtab .any (opsOf Try.f15 4) = r9_Down.T4 := by kernel_rfl
theorem r9_Down.bits4 : waitsOk r9_Down.T4.2 r9_Down.B4 = true := by kernel_rfl
def r9_Down.T5 : Bool × List (List Nat × List Nat) := (true, [([], []), ([], []), ([1], [1]), ([], []), ([2, 3, 2], [2, 3]), ([], []), ([5], [5]), ([6], [6]), ([7], [7]), ([0, 4, 0], [0]), ([4, 9, 0, 1, 2, 3, 4, 9], [4]), ([8, 10, 0, 1, 2, 3, 4, 5, 6, 7, 8, 9, 10], [8])])
def r9_Down.B5 : List Nat := [0, 0, 2, 0, 14, 0, 32, 96, 224, 31, 543, 2047]
theorem r9_Down.tab5 : rtab .any (opsOf Try.f15 5) = r9_Down.T5 := by kernel_rfl
theorem r9_Down.bits5 : waitsOk r9_Down.T5.2 r9_Down.B5 = true := by kernel_rfl
theorem r9_Down.calls (k : Nat) (a0_0 : Bool) (a0_1 : Int) (a0_2 : Int) (a0_3 : Int) (r1 : List Int) (r2 : Int) (r3 : Bool) (w : World) (h : r9_Down.f k a0_0 a0_1 a0_2 a0_3 = some (r1, r2, r3)) :
  Calls Try.prog 15 #[.agg #[.bool a0_0, .int .i64 a0_1, .int .i64 a0_2, .int .u64 a0_3]] w fun e w' => ∃ v0_ : Value, e = .returned (.tuple #[.agg #[v0_], .int .i64 r2, .bool r3]) ∧ Kd.R (Kd.int .u64) 22 w' w.heap.size (fun _ => True) v0_ r1 ∧ Below w.heap.size w w' := by
 have hu30 := Try.underlying30
 have hu33 := Try.underlying33
 have HB := A_ (Below.refl w.heap.size w)
 have H : (if a0_2 ≥ 0 then ((r1_Of.f k a0_3).bind fun t325 => ((r1_Shl.f k t325 a0_2).bind fun t328 => (some (t328, (-1), false)))) else ((r1_Of.f k 1).bind fun t331 => ((r1_Shl.f k t331 (wrap64 (-a0_2))).bind fun t334 => ((r1_Of.f k a0_3).bind fun t338 => ((r1_Div.f k t338 t334).bind fun bt341 => ((r1_Shl.f k bt341.2 1).bind fun t349 => ((r1_Cmp.f k t349 t334).bind fun t352 => (some (bt341.1, t352, decide ((bt341.2.length : Int) > 0)))))))))) = some (r1, r2, r3) := h
 clear h
 by_cases c2 : a0_2 ≥ 0
 ·rw [if_pos c2] at H
  have c2b0 : decide (0 ≤ a0_2) = true := decide_eq_true c2
  clear c2
  replace H := ob_ H
  obtain ⟨t325, A30, H⟩ := H
  replace H : ((r1_Shl.f k t325 a0_2).bind fun t328 => (some (t328, (-1), false))) = some (r1, r2, r3) := H
  have A3 := A_ A30;clear A30
  replace H := ob_ H
  obtain ⟨t328, A40, H⟩ := H
  replace H : (some (t328, (-1), false)) = some (r1, r2, r3) := H
  have A4 := A_ A40;clear A40
  simp only [Option.some.injEq, Prod.mk.injEq] at H
  obtain ⟨rfl, rfl, rfl⟩ := H
  go_enter Try.func15, Try.ntmps15
  try go_wp2_with (first | ((with_reducible refine gate_dst (N := 1) rfl ?_); refine be_ 1 #[.bool a0_0, .int .i64 a0_1, .int .i64 a0_2, .int .u64 a0_3] 30 ?_; intro gb323 hg w5 hbox hb; have BK323 := A_ (hbox); have GW323 := A_ (sz_ hg (hb_ HB.out)); have GE323 := A_ (sz_ hg (hb_ HB.out)); replace HB := A_ (below_step (hb_ HB.out) hb); clear hb hbox hg) | ((with_reducible refine gate_dst (N := 2) rfl ?_); refine be_ 2 #[.slice none 0 0] 33 ?_; intro gb324 hg w6 hbox hb; have BK324 := A_ (hbox); have GW324 := A_ (sz_ hg (hb1_ HB.out GE323.out)); have GE324 := A_ (sz_ hg (hb1_ HB.out GE323.out)); have NB323_324 := A_ (nl_ hg BK323.out); have NB324_323 := A_ (ng_ hg BK323.out); replace BK323 := A_ (bb_ BK323.out hb); replace HB := A_ (below_step (hb1_ HB.out GE323.out) hb); clear hb hbox hg; have hnb7 := NB323_324.out; have hnc7 := NB324_323.out; have hcz8_0 := bv_ BK323.out 0; have hcz8_1 := bv_ BK323.out 1; have hcz8_2 := bv_ BK323.out 2; have hcz8_3 := bv_ BK323.out 3; have hfz8_0 := blk_frozen BK323.out 0; have hfz8_1 := blk_frozen BK323.out 1; have hfz8_2 := blk_frozen BK323.out 2; have hfz8_3 := blk_frozen BK323.out 3))
  replace BK323 := A_ (blk_drew BK323.out)
  replace BK324 := A_ (blk_drew BK324.out)
  replace HB := A_ (below_drew1 HB.out)
  refine start_ (n := 9) (S := fun w' => w'.cell? ⟨gb323, 0, none⟩ = some (.bool a0_0) ∧ w'.cell? ⟨gb323, 1, none⟩ = some (.int .i64 a0_1) ∧ w'.cell? ⟨gb323, 2, none⟩ = some (.int .i64 a0_2) ∧ w'.cell? ⟨gb323, 3, none⟩ = some (.int .u64 a0_3)) (ds := []) #[false, false, false, false, false, false, false, false, false] (by kernel_rfl) rfl rfl ⟨bc_ BK323.out 0, bc_ BK323.out 1, bc_ BK323.out 2, bc_ BK323.out 3⟩ (fun hHeld => ?_); refine with_tabW r9_Down.tab2 r9_Down.bits2 (fun HT_ HW_ => ?_)
  generalize w6.drew = w9 at BK323 BK324 HB hHeld ⊢
  refine pu_ 0 (some 11) #[true, false, false, false, false, false, false, false, false] rfl rfl (any_of HT_.out (by kernel_rfl)) ?_
  refine pu_ 3 (some 14) #[true, false, false, true, false, false, false, false, false] rfl rfl (any_of HT_.out (by kernel_rfl)) ?_
  refine tk4_ 1 (some 12) #[true, true, false, true, false, false, false, false, false] rfl rfl (take_ofW HT_.out HW_.out (by kernel_rfl)) hHeld ?_
  refine tk4_ 4 (some 15) #[true, true, false, true, true, false, false, false, false] rfl rfl (take_ofW HT_.out HW_.out (by kernel_rfl)) hHeld ?_
  refine one_ (i := 2) (N := some 13) #[true, true, true, true, true, false, false, false, false] rfl rfl (one_of HT_.out (by kernel_rfl)) (by decide) (fun K hK => ?_)
  refine goes_ Try.func34 (by kernel_rfl) rfl #[.int .u64 a0_3] (by rfl) rfl rfl mp_ ?_
  with_reducible refine (r1_Of.calls k a0_3 t325 _ A3.out).mono ?_
  rintro e w10 ⟨v326, rfl, ho0, hb⟩
  refine ⟨_, rfl, ?_⟩
  have HO327 := A_ (Kd.R_lower ho0 (below_size (hb2_ HB.out GE323.out GE324.out)))
  replace BK323 := A_ (bb_ BK323.out hb)
  replace BK324 := A_ (bb_ BK324.out hb)
  replace HB := A_ (below_step (hb2_ HB.out GE323.out GE324.out) hb);(try clear hb);(try clear hb2);(try clear hk);(try clear hi);(try clear ho0)
  obtain ⟨Ao11, co11, eo11⟩ := Kd.R_slice HO327.out
  (first | subst eo11 | (injection eo11 with f1_ f2_ f3_; have f4_ := f1_.symm; have f5_ := f3_.symm; clear f1_ f2_ f3_; subst f4_; subst f5_))
  refine hK.out _ _ ⟨bc_ BK323.out 0, bc_ BK323.out 1, bc_ BK323.out 2, bc_ BK323.out 3⟩ (fun hHeld => ?_)
  clear hK K
  refine norm_ (a' := ?_) ?_ ?_
  rotate_left
  ·show Act.put _ (some 13) _ = _
   simp only [Act.put, lI_, l0_, lS_, i64_w, i32_w]
   rfl
  refine one_ (i := 5) (N := some 16) #[true, true, true, true, true, true, false, false, false] rfl rfl (one_of HT_.out (by kernel_rfl)) (by decide) (fun K hK => ?_)
  refine goes_ Try.func44 (by kernel_rfl) rfl #[.agg #[.slice Ao11 t325.length co11], .int .i64 a0_2] (by rfl) rfl rfl mp_ ?_
  with_reducible refine (r1_Shl.calls k _ _ t325 a0_2 t328 _ ?side1 ?side2 A4.out).mono ?_
  (case side1 => exact cs_ ((Kd.R_reads' HO327.out).2.2))
  (case side2 => exact (Kd.R_reads' HO327.out).2.1)
  rintro e w12 ⟨v329, rfl, ho0, hb⟩
  refine ⟨_, rfl, ?_⟩
  have HO330 := A_ (Kd.R_lower (Kd.R_new' ho0 (Kd.R_lt (kr_ HO327.out))) (below_size (hb2_ HB.out GE323.out GE324.out)))
  replace HO327 := A_ (Kd.R_elder' (kr_ HO327.out) (Kd.R_base ho0) hb)
  replace BK323 := A_ (bb_ BK323.out hb)
  replace BK324 := A_ (bb_ BK324.out hb)
  replace HB := A_ (below_step (hb2_ HB.out GE323.out GE324.out) hb);(try clear hb);(try clear hb2);(try clear hk);(try clear hi);(try clear ho0)
  obtain ⟨Ao13, co13, eo13⟩ := Kd.R_slice HO330.out
  (first | subst eo13 | (injection eo13 with f1_ f2_ f3_; have f4_ := f1_.symm; have f5_ := f3_.symm; clear f1_ f2_ f3_; subst f4_; subst f5_))
  refine hK.out _ _ ⟨bc_ BK323.out 0, bc_ BK323.out 1, bc_ BK323.out 2, bc_ BK323.out 3⟩ (fun hHeld => ?_)
  clear hK K
  refine norm_ (a' := ?_) ?_ ?_
  rotate_left
  ·show Act.put _ (some 16) _ = _
   simp only [Act.put, lI_, l0_, lS_, i64_w, i32_w]
   rfl
  refine one_ (i := 6) (N := none) #[true, true, true, true, true, true, true, false, false] rfl rfl (one_of HT_.out (by kernel_rfl)) (by decide) (fun K hK => ?_)
  have hs14 : w12.cell? ⟨gb324, 0, none⟩ = some (.slice none 0 0) := bc_ BK324.out 0
  have hfs14 := blk_frozen BK324.out 0
  have hns14_0 := NB323_324.out
  have hms14_0 := NB324_323.out
  refine skip_ (w1 := ?_) (by rfl) rfl ?_ ?_
  rotate_left
  ·go_simp
   rfl
  refine hK.out _ _ ⟨((cell_far (p := ⟨gb324, _, none⟩) NB323_324.out _).trans (hHeld.1)), ((cell_far (p := ⟨gb324, _, none⟩) NB323_324.out _).trans (hHeld.2.1)), ((cell_far (p := ⟨gb324, _, none⟩) NB323_324.out _).trans (hHeld.2.2.1)), ((cell_far (p := ⟨gb324, _, none⟩) NB323_324.out _).trans (hHeld.2.2.2))⟩ (fun hHeld => ?_)
  clear hK K
  refine pu_ 7 (some 3) #[true, true, true, true, true, true, true, true, false] rfl rfl (any_of HT_.out (by kernel_rfl)) ?_
  refine pu_ 8 (some 4) #[true, true, true, true, true, true, true, true, true] rfl rfl (any_of HT_.out (by kernel_rfl)) ?_
  refine done_ (done_of HT_.out (by kernel_rfl)) ?_
  try go_wp2
  refine bodyPost_ret (results_ctt rfl _ _ gb324 33 #[.slice Ao13 t328.length co13] (0, 0) _ rfl (by (with_reducible repeat (first | refine blk_drewN ?_ _ | refine blk_drew ?_ | refine blk_alloc ?_ _)); refine blk_put (cs := #[.slice none 0 0]) ?_ 0 _ rfl; (with_reducible repeat (first | refine blk_drewN ?_ _ | refine blk_drew ?_ | refine blk_alloc ?_ _)); exact BK324.out) Try.underlying33 rfl (by kernel_rfl)) rfl ?_
  exact ⟨_, by first | rfl | (simp [errW_none, errW_some] <;> rfl) | (simp [*, errW_none, errW_some] <;> rfl), by (with_reducible repeat (first | apply Kd.R_alloc | apply Kd.R_drewN | apply Kd.R_drew)); exact Kd.R_mono (Kd.R_far (p := ⟨gb324, 0, none⟩) (Kd.R_types HO330.out BK324.out (by decide)) (fun _ hk => hk.2) (.slice Ao13 t328.length co13)) (fun _ hk => trivial), hb2_ HB.out GE323.out GE324.out⟩
 ·rw [if_neg c2] at H
  have c2b0 : decide (0 ≤ a0_2) = false := decide_eq_false c2
  clear c2
  replace H := ob_ H
  obtain ⟨t331, A150, H⟩ := H
  replace H : ((r1_Shl.f k t331 (wrap64 (-a0_2))).bind fun t334 => ((r1_Of.f k a0_3).bind fun t338 => ((r1_Div.f k t338 t334).bind fun bt341 => ((r1_Shl.f k bt341.2 1).bind fun t349 => ((r1_Cmp.f k t349 t334).bind fun t352 => (some (bt341.1, t352, decide ((bt341.2.length : Int) > 0)))))))) = some (r1, r2, r3) := H
  have A15 := A_ A150;clear A150
  replace H := ob_ H
  obtain ⟨t334, A160, H⟩ := H
  replace H : ((r1_Of.f k a0_3).bind fun t338 => ((r1_Div.f k t338 t334).bind fun bt341 => ((r1_Shl.f k bt341.2 1).bind fun t349 => ((r1_Cmp.f k t349 t334).bind fun t352 => (some (bt341.1, t352, decide ((bt341.2.length : Int) > 0))))))) = some (r1, r2, r3) := H
  have A16 := A_ A160;clear A160
  replace H := ob_ H
  obtain ⟨t338, A170, H⟩ := H
  replace H : ((r1_Div.f k t338 t334).bind fun bt341 => ((r1_Shl.f k bt341.2 1).bind fun t349 => ((r1_Cmp.f k t349 t334).bind fun t352 => (some (bt341.1, t352, decide ((bt341.2.length : Int) > 0)))))) = some (r1, r2, r3) := H
  have A17 := A_ A170;clear A170
  replace H := ob_ H
  obtain ⟨⟨t341, t344⟩, A180, H⟩ := H
  replace H : ((r1_Shl.f k t344 1).bind fun t349 => ((r1_Cmp.f k t349 t334).bind fun t352 => (some (t341, t352, decide ((t344.length : Int) > 0))))) = some (r1, r2, r3) := H
  have A18 := A_ A180;clear A180
  replace H := ob_ H
  obtain ⟨t349, A190, H⟩ := H
  replace H : ((r1_Cmp.f k t349 t334).bind fun t352 => (some (t341, t352, decide ((t344.length : Int) > 0)))) = some (r1, r2, r3) := H
  have A19 := A_ A190;clear A190
  replace H := ob_ H
  obtain ⟨t352, A200, H⟩ := H
  replace H : (some (t341, t352, decide ((t344.length : Int) > 0))) = some (r1, r2, r3) := H
  have A20 := A_ A200;clear A200
  simp only [Option.some.injEq, Prod.mk.injEq] at H
  obtain ⟨rfl, rfl, rfl⟩ := H
  go_enter Try.func15, Try.ntmps15
  try go_wp2_with (first | ((with_reducible refine gate_dst (N := 1) rfl ?_); refine be_ 1 #[.bool a0_0, .int .i64 a0_1, .int .i64 a0_2, .int .u64 a0_3] 30 ?_; intro gb323 hg w21 hbox hb; have BK323 := A_ (hbox); have GW323 := A_ (sz_ hg (hb_ HB.out)); have GE323 := A_ (sz_ hg (hb_ HB.out)); replace HB := A_ (below_step (hb_ HB.out) hb); clear hb hbox hg) | ((with_reducible refine gate_dst (N := 2) rfl ?_); refine be_ 2 #[.slice none 0 0] 33 ?_; intro gb324 hg w22 hbox hb; have BK324 := A_ (hbox); have GW324 := A_ (sz_ hg (hb1_ HB.out GE323.out)); have GE324 := A_ (sz_ hg (hb1_ HB.out GE323.out)); have NB323_324 := A_ (nl_ hg BK323.out); have NB324_323 := A_ (ng_ hg BK323.out); replace BK323 := A_ (bb_ BK323.out hb); replace HB := A_ (below_step (hb1_ HB.out GE323.out) hb); clear hb hbox hg; have hnb23 := NB323_324.out; have hnc23 := NB324_323.out; have hcz24_0 := bv_ BK323.out 0; have hcz24_1 := bv_ BK323.out 1; have hcz24_2 := bv_ BK323.out 2; have hcz24_3 := bv_ BK323.out 3; have hfz24_0 := blk_frozen BK323.out 0; have hfz24_1 := blk_frozen BK323.out 1; have hfz24_2 := blk_frozen BK323.out 2; have hfz24_3 := blk_frozen BK323.out 3))
  replace BK323 := A_ (blk_drew BK323.out)
  replace BK324 := A_ (blk_drew BK324.out)
  replace HB := A_ (below_drew1 HB.out)
  refine start_ (n := 7) (S := fun w' => w'.cell? ⟨gb323, 0, none⟩ = some (.bool a0_0) ∧ w'.cell? ⟨gb323, 1, none⟩ = some (.int .i64 a0_1) ∧ w'.cell? ⟨gb323, 2, none⟩ = some (.int .i64 a0_2) ∧ w'.cell? ⟨gb323, 3, none⟩ = some (.int .u64 a0_3)) (ds := []) #[false, false, false, false, false, false, false] (by kernel_rfl) rfl rfl ⟨bc_ BK323.out 0, bc_ BK323.out 1, bc_ BK323.out 2, bc_ BK323.out 3⟩ (fun hHeld => ?_)
  generalize w22.drew = w25 at BK323 BK324 HB hHeld ⊢
  refine pu_ 1 (some 18) #[false, true, false, false, false, false, false] rfl rfl (by kernel_rfl) ?_
  refine tk4_ 2 (some 19) #[false, true, true, false, false, false, false] rfl rfl (by kernel_rfl) hHeld ?_
  refine pu_ 3 (some 20) #[false, true, true, true, false, false, false] rfl rfl (by kernel_rfl) ?_
  refine join_ (σ := Value × Value × Nat) 1 #[true, true, true, true, true, true, false] (fun s_ => [(17, .agg #[s_.1]), (21, .agg #[s_.2.1]), (5, .pointer (some ⟨s_.2.2, 0, none⟩))]) (fun s_ w' => (w'.cell? ⟨gb323, 0, none⟩ = some (.bool a0_0) ∧ w'.cell? ⟨gb323, 1, none⟩ = some (.int .i64 a0_1) ∧ w'.cell? ⟨gb323, 2, none⟩ = some (.int .i64 a0_2) ∧ w'.cell? ⟨gb323, 3, none⟩ = some (.int .u64 a0_3)) ∧ (Kd.R (Kd.int .u64) 22 w' w.heap.size (fun k_ => some k_ ≠ (s_.2.1 : Value).ownBlock) s_.1 t331) ∧ (Kd.R (Kd.int .u64) 22 w' w.heap.size (fun k_ => some k_ ≠ (s_.1 : Value).ownBlock) s_.2.1 t334) ∧ (w'.heap[gb323]? = some (.cells #[.bool a0_0, .int .i64 a0_1, .int .i64 a0_2, .int .u64 a0_3] 30 (0, 0))) ∧ (w'.heap[gb324]? = some (.cells #[.slice none 0 0] 33 (0, 0))) ∧ (w'.heap[s_.2.2]? = some (.cells #[.slice none 0 0] 33 (0, 0))) ∧ (w.heap.size ≤ s_.2.2) ∧ (w.heap.size ≤ s_.2.2) ∧ (gb323 ≠ s_.2.2) ∧ (s_.2.2 ≠ gb323) ∧ (gb324 ≠ s_.2.2) ∧ (s_.2.2 ≠ gb324) ∧ (Below w.heap.size w w')) ?_ ?_
  rotate_left
  ·intro hCont
   refine two_ (i := 0) (j := 5) (Ni := some 17) (Nj := some 5) #[true, true, true, true, false, false, false] #[false, true, true, true, false, true, false] rfl rfl rfl rfl (by kernel_rfl) (by decide) (by decide) (fun K hK => ?_) (fun K hK => ?_)
   ·skip
    refine goes_ Try.func34 (by kernel_rfl) rfl #[.int .u64 1] (by rfl) rfl rfl mp_ ?_
    with_reducible refine (r1_Of.calls k 1 t331 _ A15.out).mono ?_
    rintro e w26 ⟨v332, rfl, ho0, hb⟩
    refine ⟨_, rfl, ?_⟩
    have HO333 := A_ (Kd.R_lower ho0 (below_size (hb2_ HB.out GE323.out GE324.out)))
    replace BK323 := A_ (bb_ BK323.out hb)
    replace BK324 := A_ (bb_ BK324.out hb)
    replace HB := A_ (below_step (hb2_ HB.out GE323.out GE324.out) hb);(try clear hb);(try clear hb2);(try clear hk);(try clear hi);(try clear ho0)
    obtain ⟨Ao27, co27, eo27⟩ := Kd.R_slice HO333.out
    (first | subst eo27 | (injection eo27 with f1_ f2_ f3_; have f4_ := f1_.symm; have f5_ := f3_.symm; clear f1_ f2_ f3_; subst f4_; subst f5_))
    refine hK.out _ _ ⟨bc_ BK323.out 0, bc_ BK323.out 1, bc_ BK323.out 2, bc_ BK323.out 3⟩ (fun hHeld => ?_)
    clear hK K
    refine norm_ (a' := ?_) ?_ ?_
    rotate_left
    ·show Act.put _ (some 17) _ = _
     simp only [Act.put, lI_, l0_, lS_, i64_w, i32_w]
     rfl
    refine two_ (i := 4) (j := 5) (Ni := some 21) (Nj := some 5) #[true, true, true, true, true, false, false] #[true, true, true, true, false, true, false] rfl rfl rfl rfl (by kernel_rfl) (by decide) (by decide) (fun K hK => ?_) (fun K hK => ?_)
    ·skip
     refine goes_ Try.func44 (by kernel_rfl) rfl #[.agg #[.slice Ao27 t331.length co27], .int .i64 (wrap64 (-a0_2))] (by rfl) rfl rfl mp_ ?_
     with_reducible refine (r1_Shl.calls k _ _ t331 (wrap64 (-a0_2)) t334 _ ?side1 ?side2 A16.out).mono ?_
     (case side1 => exact cs_ ((Kd.R_reads' HO333.out).2.2))
     (case side2 => exact (Kd.R_reads' HO333.out).2.1)
     rintro e w28 ⟨v335, rfl, ho0, hb⟩
     refine ⟨_, rfl, ?_⟩
     have HO336 := A_ (Kd.R_lower (Kd.R_new' ho0 (Kd.R_lt (kr_ HO333.out))) (below_size (hb2_ HB.out GE323.out GE324.out)))
     replace HO333 := A_ (Kd.R_elder' (kr_ HO333.out) (Kd.R_base ho0) hb)
     replace BK323 := A_ (bb_ BK323.out hb)
     replace BK324 := A_ (bb_ BK324.out hb)
     replace HB := A_ (below_step (hb2_ HB.out GE323.out GE324.out) hb);(try clear hb);(try clear hb2);(try clear hk);(try clear hi);(try clear ho0)
     refine hK.out _ _ ⟨bc_ BK323.out 0, bc_ BK323.out 1, bc_ BK323.out 2, bc_ BK323.out 3⟩ (fun hHeld => ?_)
     clear hK K
     refine norm_ (a' := ?_) ?_ ?_
     rotate_left
     ·show Act.put _ (some 21) _ = _
      simp only [Act.put, lI_, l0_, lS_, i64_w, i32_w]
      rfl
     refine one_ (i := 5) (N := some 5) #[true, true, true, true, true, true, false] rfl rfl (by kernel_rfl) (by decide) (fun K hK => ?_)
     refine box_step ?hg (N := 5) ?hd (cs := #[.slice none 0 0]) (t := 33) ?hr ?_; (case hd => rfl); (case hg => rfl); (case hr => first | (go_simp; done) | (go_simp; rfl))
     intro gb337 hg w29 hbox hb
     have BK337 := A_ (hbox)
     have GW337 := A_ (sz_ hg (hb2_ HB.out GE323.out GE324.out))
     have GE337 := A_ (sz_ hg (hb2_ HB.out GE323.out GE324.out))
     have NB323_337 := A_ (nl_ hg BK323.out)
     have NB337_323 := A_ (ng_ hg BK323.out)
     have NB324_337 := A_ (nl_ hg BK324.out)
     have NB337_324 := A_ (ng_ hg BK324.out)
     replace HO333 := A_ (Kd.R_below (kr_ HO333.out) hb)
     replace HO336 := A_ (Kd.R_below (kr_ HO336.out) hb)
     replace BK323 := A_ (bb_ BK323.out hb)
     replace BK324 := A_ (bb_ BK324.out hb)
     replace HB := A_ (below_step (hb2_ HB.out GE323.out GE324.out) hb);clear hb hbox hg
     refine hK.out _ _ ⟨bc_ BK323.out 0, bc_ BK323.out 1, bc_ BK323.out 2, bc_ BK323.out 3⟩ (fun hHeld => ?_)
     clear hK K
     refine norm_ (a' := ?_) ?_ ?_
     rotate_left
     ·show Act.put _ (some 5) _ = _
      simp only [Act.put, lI_, l0_, lS_, i64_w, i32_w]
      rfl
     exact norm_ (by simp only [putAll, Act.put, lI_, l0_, lS_]) (hCont (.slice Ao27 t331.length co27, v335, gb337) _ ⟨hHeld, (by (with_reducible repeat (first | apply Kd.R_alloc | apply Kd.R_drewN | apply Kd.R_drew)); exact Kd.R_mono HO333.out (fun _ hk => hk.2)), (by (with_reducible repeat (first | apply Kd.R_alloc | apply Kd.R_drewN | apply Kd.R_drew)); exact Kd.R_mono HO336.out (fun _ hk => hk.2)), (bk_ BK323.out), (bk_ BK324.out), (bk_ BK337.out), GW337.out, GE337.out, NB323_337.out, NB337_323.out, NB324_337.out, NB337_324.out, (hb3_ HB.out GE323.out GE324.out GE337.out)⟩)
    ·skip
     refine box_step ?hg (N := 5) ?hd (cs := #[.slice none 0 0]) (t := 33) ?hr ?_; (case hd => rfl); (case hg => rfl); (case hr => first | (go_simp; done) | (go_simp; rfl))
     intro gb337 hg w27 hbox hb
     have BK337 := A_ (hbox)
     have GW337 := A_ (sz_ hg (hb2_ HB.out GE323.out GE324.out))
     have GE337 := A_ (sz_ hg (hb2_ HB.out GE323.out GE324.out))
     have NB323_337 := A_ (nl_ hg BK323.out)
     have NB337_323 := A_ (ng_ hg BK323.out)
     have NB324_337 := A_ (nl_ hg BK324.out)
     have NB337_324 := A_ (ng_ hg BK324.out)
     replace HO333 := A_ (Kd.R_below (kr_ HO333.out) hb)
     replace BK323 := A_ (bb_ BK323.out hb)
     replace BK324 := A_ (bb_ BK324.out hb)
     replace HB := A_ (below_step (hb2_ HB.out GE323.out GE324.out) hb);clear hb hbox hg
     obtain ⟨Ao28, co28, eo28⟩ := Kd.R_slice HO333.out
     (first | subst eo28 | (injection eo28 with f1_ f2_ f3_; have f4_ := f1_.symm; have f5_ := f3_.symm; clear f1_ f2_ f3_; subst f4_; subst f5_))
     refine hK.out _ _ ⟨bc_ BK323.out 0, bc_ BK323.out 1, bc_ BK323.out 2, bc_ BK323.out 3⟩ (fun hHeld => ?_)
     clear hK K
     refine norm_ (a' := ?_) ?_ ?_
     rotate_left
     ·show Act.put _ (some 5) _ = _
      simp only [Act.put, lI_, l0_, lS_, i64_w, i32_w]
      rfl
     refine one_ (i := 4) (N := some 21) #[true, true, true, true, true, true, false] rfl rfl (by kernel_rfl) (by decide) (fun K hK => ?_)
     refine goes_ Try.func44 (by kernel_rfl) rfl #[.agg #[.slice Ao28 t331.length co28], .int .i64 (wrap64 (-a0_2))] (by rfl) rfl rfl mp_ ?_
     with_reducible refine (r1_Shl.calls k _ _ t331 (wrap64 (-a0_2)) t334 _ ?side1 ?side2 A16.out).mono ?_
     (case side1 => exact cs_ ((Kd.R_reads' HO333.out).2.2))
     (case side2 => exact (Kd.R_reads' HO333.out).2.1)
     rintro e w29 ⟨v335, rfl, ho0, hb⟩
     refine ⟨_, rfl, ?_⟩
     have HO336 := A_ (Kd.R_lower (Kd.R_new' ho0 (Kd.R_lt (kr_ HO333.out))) (below_size (hb3_ HB.out GE323.out GE324.out GE337.out)))
     replace HO333 := A_ (Kd.R_elder' (kr_ HO333.out) (Kd.R_base ho0) hb)
     replace BK323 := A_ (bb_ BK323.out hb)
     replace BK324 := A_ (bb_ BK324.out hb)
     replace BK337 := A_ (bb_ BK337.out hb)
     replace HB := A_ (below_step (hb3_ HB.out GE323.out GE324.out GE337.out) hb);(try clear hb);(try clear hb2);(try clear hk);(try clear hi);(try clear ho0)
     refine hK.out _ _ ⟨bc_ BK323.out 0, bc_ BK323.out 1, bc_ BK323.out 2, bc_ BK323.out 3⟩ (fun hHeld => ?_)
     clear hK K
     refine norm_ (a' := ?_) ?_ ?_
     rotate_left
     ·show Act.put _ (some 21) _ = _
      simp only [Act.put, lI_, l0_, lS_, i64_w, i32_w]
      rfl
     exact norm_ (by simp only [putAll, Act.put, lI_, l0_, lS_]) (hCont (.slice Ao28 t331.length co28, v335, gb337) _ ⟨hHeld, (by (with_reducible repeat (first | apply Kd.R_alloc | apply Kd.R_drewN | apply Kd.R_drew)); exact Kd.R_mono HO333.out (fun _ hk => hk.2)), (by (with_reducible repeat (first | apply Kd.R_alloc | apply Kd.R_drewN | apply Kd.R_drew)); exact Kd.R_mono HO336.out (fun _ hk => hk.2)), (bk_ BK323.out), (bk_ BK324.out), (bk_ BK337.out), GW337.out, GE337.out, NB323_337.out, NB337_323.out, NB324_337.out, NB337_324.out, (hb3_ HB.out GE323.out GE324.out GE337.out)⟩)
   ·skip
    refine box_step ?hg (N := 5) ?hd (cs := #[.slice none 0 0]) (t := 33) ?hr ?_; (case hd => rfl); (case hg => rfl); (case hr => first | (go_simp; done) | (go_simp; rfl))
    intro gb337 hg w26 hbox hb
    have BK337 := A_ (hbox)
    have GW337 := A_ (sz_ hg (hb2_ HB.out GE323.out GE324.out))
    have GE337 := A_ (sz_ hg (hb2_ HB.out GE323.out GE324.out))
    have NB323_337 := A_ (nl_ hg BK323.out)
    have NB337_323 := A_ (ng_ hg BK323.out)
    have NB324_337 := A_ (nl_ hg BK324.out)
    have NB337_324 := A_ (ng_ hg BK324.out)
    replace BK323 := A_ (bb_ BK323.out hb)
    replace BK324 := A_ (bb_ BK324.out hb)
    replace HB := A_ (below_step (hb2_ HB.out GE323.out GE324.out) hb);clear hb hbox hg
    refine hK.out _ _ ⟨bc_ BK323.out 0, bc_ BK323.out 1, bc_ BK323.out 2, bc_ BK323.out 3⟩ (fun hHeld => ?_)
    clear hK K
    refine norm_ (a' := ?_) ?_ ?_
    rotate_left
    ·show Act.put _ (some 5) _ = _
     simp only [Act.put, lI_, l0_, lS_, i64_w, i32_w]
     rfl
    refine one_ (i := 0) (N := some 17) #[true, true, true, true, false, true, false] rfl rfl (by kernel_rfl) (by decide) (fun K hK => ?_)
    refine goes_ Try.func34 (by kernel_rfl) rfl #[.int .u64 1] (by rfl) rfl rfl mp_ ?_
    with_reducible refine (r1_Of.calls k 1 t331 _ A15.out).mono ?_
    rintro e w27 ⟨v332, rfl, ho0, hb⟩
    refine ⟨_, rfl, ?_⟩
    have HO333 := A_ (Kd.R_lower ho0 (below_size (hb3_ HB.out GE323.out GE324.out GE337.out)))
    replace BK323 := A_ (bb_ BK323.out hb)
    replace BK324 := A_ (bb_ BK324.out hb)
    replace BK337 := A_ (bb_ BK337.out hb)
    replace HB := A_ (below_step (hb3_ HB.out GE323.out GE324.out GE337.out) hb);(try clear hb);(try clear hb2);(try clear hk);(try clear hi);(try clear ho0)
    obtain ⟨Ao28, co28, eo28⟩ := Kd.R_slice HO333.out
    (first | subst eo28 | (injection eo28 with f1_ f2_ f3_; have f4_ := f1_.symm; have f5_ := f3_.symm; clear f1_ f2_ f3_; subst f4_; subst f5_))
    refine hK.out _ _ ⟨bc_ BK323.out 0, bc_ BK323.out 1, bc_ BK323.out 2, bc_ BK323.out 3⟩ (fun hHeld => ?_)
    clear hK K
    refine norm_ (a' := ?_) ?_ ?_
    rotate_left
    ·show Act.put _ (some 17) _ = _
     simp only [Act.put, lI_, l0_, lS_, i64_w, i32_w]
     rfl
    refine one_ (i := 4) (N := some 21) #[true, true, true, true, true, true, false] rfl rfl (by kernel_rfl) (by decide) (fun K hK => ?_)
    refine goes_ Try.func44 (by kernel_rfl) rfl #[.agg #[.slice Ao28 t331.length co28], .int .i64 (wrap64 (-a0_2))] (by rfl) rfl rfl mp_ ?_
    with_reducible refine (r1_Shl.calls k _ _ t331 (wrap64 (-a0_2)) t334 _ ?side1 ?side2 A16.out).mono ?_
    (case side1 => exact cs_ ((Kd.R_reads' HO333.out).2.2))
    (case side2 => exact (Kd.R_reads' HO333.out).2.1)
    rintro e w29 ⟨v335, rfl, ho0, hb⟩
    refine ⟨_, rfl, ?_⟩
    have HO336 := A_ (Kd.R_lower (Kd.R_new' ho0 (Kd.R_lt (kr_ HO333.out))) (below_size (hb3_ HB.out GE323.out GE324.out GE337.out)))
    replace HO333 := A_ (Kd.R_elder' (kr_ HO333.out) (Kd.R_base ho0) hb)
    replace BK323 := A_ (bb_ BK323.out hb)
    replace BK324 := A_ (bb_ BK324.out hb)
    replace BK337 := A_ (bb_ BK337.out hb)
    replace HB := A_ (below_step (hb3_ HB.out GE323.out GE324.out GE337.out) hb);(try clear hb);(try clear hb2);(try clear hk);(try clear hi);(try clear ho0)
    refine hK.out _ _ ⟨bc_ BK323.out 0, bc_ BK323.out 1, bc_ BK323.out 2, bc_ BK323.out 3⟩ (fun hHeld => ?_)
    clear hK K
    refine norm_ (a' := ?_) ?_ ?_
    rotate_left
    ·show Act.put _ (some 21) _ = _
     simp only [Act.put, lI_, l0_, lS_, i64_w, i32_w]
     rfl
    exact norm_ (by simp only [putAll, Act.put, lI_, l0_, lS_]) (hCont (.slice Ao28 t331.length co28, v335, gb337) _ ⟨hHeld, (by (with_reducible repeat (first | apply Kd.R_alloc | apply Kd.R_drewN | apply Kd.R_drew)); exact Kd.R_mono HO333.out (fun _ hk => hk.2)), (by (with_reducible repeat (first | apply Kd.R_alloc | apply Kd.R_drewN | apply Kd.R_drew)); exact Kd.R_mono HO336.out (fun _ hk => hk.2)), (bk_ BK323.out), (bk_ BK324.out), (bk_ BK337.out), GW337.out, GE337.out, NB323_337.out, NB337_323.out, NB324_337.out, NB337_324.out, (hb3_ HB.out GE323.out GE324.out GE337.out)⟩)
  rintro ⟨v332, v335, gb337⟩ w30 ⟨hS_, h0_, h1_, h2_, h3_, h4_, h5_, h6_, h7_, h8_, h9_, h10_, h11_⟩
  have n0_ : Aside0 (Kd.R (Kd.int .u64) 22 w30 w.heap.size (fun k_ => some k_ ≠ (v335 : Value).ownBlock) v332 t331) := ⟨h0_⟩
  have n1_ : Aside0 (Kd.R (Kd.int .u64) 22 w30 w.heap.size (fun k_ => some k_ ≠ (v332 : Value).ownBlock) v335 t334) := ⟨h1_⟩
  have n2_ : Aside0 (w30.heap[gb323]? = some (.cells #[.bool a0_0, .int .i64 a0_1, .int .i64 a0_2, .int .u64 a0_3] 30 (0, 0))) := ⟨h2_⟩
  have n3_ : Aside0 (w30.heap[gb324]? = some (.cells #[.slice none 0 0] 33 (0, 0))) := ⟨h3_⟩
  have n4_ : Aside0 (w30.heap[gb337]? = some (.cells #[.slice none 0 0] 33 (0, 0))) := ⟨h4_⟩
  have n5_ : Aside0 (w.heap.size ≤ gb337) := ⟨h5_⟩
  have n6_ : Aside0 (w.heap.size ≤ gb337) := ⟨h6_⟩
  have n7_ : Aside0 (gb323 ≠ gb337) := ⟨h7_⟩
  have n8_ : Aside0 (gb337 ≠ gb323) := ⟨h8_⟩
  have n9_ : Aside0 (gb324 ≠ gb337) := ⟨h9_⟩
  have n10_ : Aside0 (gb337 ≠ gb324) := ⟨h10_⟩
  have n11_ : Aside0 (Below w.heap.size w w30) := ⟨h11_⟩
  clear BK323;clear BK324;clear HB;clear h0_ h1_ h2_ h3_ h4_ h5_ h6_ h7_ h8_ h9_ h10_ h11_;have HO333 := n0_;have HO336 := n1_;have BK323 := n2_;have BK324 := n3_;have BK337 := n4_;have GW337 := n5_;have GE337 := n6_;have NB323_337 := n7_;have NB337_323 := n8_;have NB324_337 := n9_;have NB337_324 := n10_;have HB := n11_;clear n0_ n1_ n2_ n3_ n4_ n5_ n6_ n7_ n8_ n9_ n10_ n11_
  have hHeld : w30.cell? ⟨gb323, 0, none⟩ = some (.bool a0_0) ∧ w30.cell? ⟨gb323, 1, none⟩ = some (.int .i64 a0_1) ∧ w30.cell? ⟨gb323, 2, none⟩ = some (.int .i64 a0_2) ∧ w30.cell? ⟨gb323, 3, none⟩ = some (.int .u64 a0_3) := hS_
  obtain ⟨Ao31, co31, eo31⟩ := Kd.R_slice HO336.out
  (first | subst eo31 | (injection eo31 with f1_ f2_ f3_; have f4_ := f1_.symm; have f5_ := f3_.symm; clear f1_ f2_ f3_; subst f4_; subst f5_))
  refine norm_ (a' := ?_) ?_ ?_
  rotate_left
  ·simp only [putAll, Act.put, lI_, l0_, lS_]
   rfl
  refine one_ (i := 6) (N := none) #[true, true, true, true, true, true, true] rfl rfl (by kernel_rfl) (by decide) (fun K hK => ?_)
  have hs32 : w30.cell? ⟨gb337, 0, none⟩ = some (.slice none 0 0) := bc_ BK337.out 0
  have hfs32 := blk_frozen BK337.out 0
  have hns32_0 := NB323_337.out
  have hns32_1 := NB324_337.out
  have hms32_0 := NB337_323.out
  have hms32_1 := NB337_324.out
  refine skip_ (w1 := ?_) (by rfl) rfl ?_ ?_
  rotate_left
  ·go_simp
   rfl
  refine hK.out _ _ ⟨((cell_far (p := ⟨gb337, _, none⟩) NB323_337.out _).trans (hHeld.1)), ((cell_far (p := ⟨gb337, _, none⟩) NB323_337.out _).trans (hHeld.2.1)), ((cell_far (p := ⟨gb337, _, none⟩) NB323_337.out _).trans (hHeld.2.2.1)), ((cell_far (p := ⟨gb337, _, none⟩) NB323_337.out _).trans (hHeld.2.2.2))⟩ (fun hHeld => ?_)
  clear hK K
  refine done_ (by kernel_rfl) ?_
  try go_wp2
  have n0_ : Aside0 (Kd.R (Kd.int .u64) 22 (w30.setCell ⟨gb337, 0, none⟩ (.slice Ao31 t334.length co31)) w.heap.size (fun k_ => some k_ ≠ (.slice Ao31 t334.length co31 : Value).ownBlock) v332 t331) := ⟨by (with_reducible repeat (first | apply Kd.R_alloc | apply Kd.R_drewN | apply Kd.R_drew)); exact Kd.R_mono (Kd.R_far (p := ⟨gb337, 0, none⟩) (Kd.R_types HO333.out BK337.out (by decide)) (fun _ hk => hk.2) (.slice Ao31 t334.length co31)) (fun _ hk => hk.1)⟩
  have n1_ : Aside0 (Kd.R (Kd.int .u64) 22 (w30.setCell ⟨gb337, 0, none⟩ (.slice Ao31 t334.length co31)) w.heap.size (fun k_ => some k_ ≠ (v332 : Value).ownBlock) (.slice Ao31 t334.length co31) t334) := ⟨by (with_reducible repeat (first | apply Kd.R_alloc | apply Kd.R_drewN | apply Kd.R_drew)); exact Kd.R_mono (Kd.R_far (p := ⟨gb337, 0, none⟩) (Kd.R_types HO336.out BK337.out (by decide)) (fun _ hk => hk.2) (.slice Ao31 t334.length co31)) (fun _ hk => hk.1)⟩
  have n2_ : Aside0 ((w30.setCell ⟨gb337, 0, none⟩ (.slice Ao31 t334.length co31)).heap[gb323]? = some (.cells #[.bool a0_0, .int .i64 a0_1, .int .i64 a0_2, .int .u64 a0_3] 30 (0, 0))) := ⟨bf1_ BK323.out NB323_337.out⟩
  have n3_ : Aside0 ((w30.setCell ⟨gb337, 0, none⟩ (.slice Ao31 t334.length co31)).heap[gb324]? = some (.cells #[.slice none 0 0] 33 (0, 0))) := ⟨bf1_ BK324.out NB324_337.out⟩
  have n4_ : Aside0 ((w30.setCell ⟨gb337, 0, none⟩ (.slice Ao31 t334.length co31)).heap[gb337]? = some (.cells #[.slice Ao31 t334.length co31] 33 (0, 0))) := ⟨by (with_reducible repeat (first | refine blk_drewN ?_ _ | refine blk_drew ?_ | refine blk_alloc ?_ _)); refine blk_put (cs := #[.slice none 0 0]) ?_ 0 _ rfl; (with_reducible repeat (first | refine blk_drewN ?_ _ | refine blk_drew ?_ | refine blk_alloc ?_ _)); exact BK337.out⟩
  have n5_ : Aside0 (Below w.heap.size w (w30.setCell ⟨gb337, 0, none⟩ (.slice Ao31 t334.length co31))) := ⟨hb3_ HB.out GE323.out GE324.out GE337.out⟩
  (try clear HO333);(try clear HO336);(try clear BK323);(try clear BK324);(try clear BK337);(try clear HB)
  generalize (w30.setCell ⟨gb337, 0, none⟩ (.slice Ao31 t334.length co31)) = w33 at n0_ n1_ n2_ n3_ n4_ n5_ ⊢
  have HO333 := n0_;have HO336 := n1_;have BK323 := n2_;have BK324 := n3_;have BK337 := n4_;have HB := n5_;clear n0_ n1_ n2_ n3_ n4_ n5_
  replace HO333 := A_ (Kd.R_drew HO333.out)
  replace HO336 := A_ (Kd.R_drew HO336.out)
  replace BK323 := A_ (blk_drew BK323.out)
  replace BK324 := A_ (blk_drew BK324.out)
  replace BK337 := A_ (blk_drew BK337.out)
  replace HB := A_ (below_drew1 HB.out)
  refine start_ (n := 12) (S := fun w' => w'.cell? ⟨gb323, 0, none⟩ = some (.bool a0_0) ∧ w'.cell? ⟨gb323, 1, none⟩ = some (.int .i64 a0_1) ∧ w'.cell? ⟨gb323, 2, none⟩ = some (.int .i64 a0_2) ∧ w'.cell? ⟨gb323, 3, none⟩ = some (.int .u64 a0_3) ∧ w'.cell? ⟨gb337, 0, none⟩ = some (.slice Ao31 t334.length co31)) (ds := []) #[false, false, false, false, false, false, false, false, false, false, false, false] (by kernel_rfl) rfl rfl ⟨bc_ BK323.out 0, bc_ BK323.out 1, bc_ BK323.out 2, bc_ BK323.out 3, bc_ BK337.out 0⟩ (fun hHeld => ?_); refine with_tabW r9_Down.tab4 r9_Down.bits4 (fun HT_ HW_ => ?_)
  generalize w33.drew = w34 at HO333 HO336 BK323 BK324 BK337 HB hHeld ⊢
  refine pu_ 0 (some 23) #[true, false, false, false, false, false, false, false, false, false, false, false] rfl rfl (any_of HT_.out (by kernel_rfl)) ?_
  refine tk5_ 1 (some 24) #[true, true, false, false, false, false, false, false, false, false, false, false] rfl rfl (take_ofW HT_.out HW_.out (by kernel_rfl)) hHeld ?_
  refine tk5_ 3 (some 26) #[true, true, false, true, false, false, false, false, false, false, false, false] rfl rfl (take_ofW HT_.out HW_.out (by kernel_rfl)) hHeld ?_
  refine join_ (σ := Value × Value × Value × Nat × Nat) 2 #[true, true, true, true, true, true, true, true, true, true, false, false] (fun s_ => [(25, .agg #[s_.1]), (27, .tuple #[.agg #[s_.2.1], .agg #[s_.2.2.1]]), (6, .pointer (some ⟨s_.2.2.2.1, 0, none⟩)), (7, .pointer (some ⟨s_.2.2.2.2, 0, none⟩)), (22, .tuple #[.agg #[s_.2.1], .agg #[s_.2.2.1]]), (28, .agg #[s_.2.1]), (29, .agg #[s_.2.2.1])]) (fun s_ w' => (w'.cell? ⟨gb323, 0, none⟩ = some (.bool a0_0) ∧ w'.cell? ⟨gb323, 1, none⟩ = some (.int .i64 a0_1) ∧ w'.cell? ⟨gb323, 2, none⟩ = some (.int .i64 a0_2) ∧ w'.cell? ⟨gb323, 3, none⟩ = some (.int .u64 a0_3) ∧ w'.cell? ⟨gb337, 0, none⟩ = some (.slice Ao31 t334.length co31)) ∧ (Kd.R (Kd.int .u64) 22 w' w.heap.size (fun k_ => some k_ ≠ (.slice Ao31 t334.length co31 : Value).ownBlock ∧ some k_ ≠ (s_.1 : Value).ownBlock ∧ some k_ ≠ (s_.2.1 : Value).ownBlock) v332 t331) ∧ (Kd.R (Kd.int .u64) 22 w' w.heap.size (fun k_ => some k_ ≠ (v332 : Value).ownBlock ∧ some k_ ≠ (s_.1 : Value).ownBlock ∧ some k_ ≠ (s_.2.1 : Value).ownBlock) (.slice Ao31 t334.length co31) t334) ∧ (Kd.R (Kd.int .u64) 22 w' w.heap.size (fun k_ => some k_ ≠ (v332 : Value).ownBlock ∧ some k_ ≠ (.slice Ao31 t334.length co31 : Value).ownBlock ∧ some k_ ≠ (s_.2.1 : Value).ownBlock) s_.1 t338) ∧ (Kd.R (Kd.int .u64) 22 w' w.heap.size (fun k_ => some k_ ≠ (v332 : Value).ownBlock ∧ some k_ ≠ (.slice Ao31 t334.length co31 : Value).ownBlock ∧ some k_ ≠ (s_.1 : Value).ownBlock) s_.2.1 t341) ∧ (Kd.V (Kd.int .u64) 22 w' w.heap.size (fun k_ => some k_ ≠ (v332 : Value).ownBlock ∧ some k_ ≠ (.slice Ao31 t334.length co31 : Value).ownBlock ∧ some k_ ≠ (s_.2.1 : Value).ownBlock ∧ k_ ≠ gb323 ∧ k_ ≠ gb324 ∧ k_ ≠ gb337 ∧ k_ ≠ s_.2.2.2.1 ∧ k_ ≠ s_.2.2.2.2) s_.2.2.1 t344) ∧ (w'.heap[gb323]? = some (.cells #[.bool a0_0, .int .i64 a0_1, .int .i64 a0_2, .int .u64 a0_3] 30 (0, 0))) ∧ (w'.heap[gb324]? = some (.cells #[.slice none 0 0] 33 (0, 0))) ∧ (w'.heap[gb337]? = some (.cells #[.slice Ao31 t334.length co31] 33 (0, 0))) ∧ (w'.heap[s_.2.2.2.1]? = some (.cells #[.slice none 0 0] 33 (0, 0))) ∧ (w'.heap[s_.2.2.2.2]? = some (.cells #[.slice none 0 0] 33 (0, 0))) ∧ (w.heap.size ≤ s_.2.2.2.1) ∧ (w.heap.size ≤ s_.2.2.2.1) ∧ (gb323 ≠ s_.2.2.2.1) ∧ (s_.2.2.2.1 ≠ gb323) ∧ (gb324 ≠ s_.2.2.2.1) ∧ (s_.2.2.2.1 ≠ gb324) ∧ (gb337 ≠ s_.2.2.2.1) ∧ (s_.2.2.2.1 ≠ gb337) ∧ (s_.2.2.2.2 ≠ s_.2.2.2.1) ∧ (s_.2.2.2.1 ≠ s_.2.2.2.2) ∧ (w.heap.size ≤ s_.2.2.2.2) ∧ (w.heap.size ≤ s_.2.2.2.2) ∧ (gb323 ≠ s_.2.2.2.2) ∧ (s_.2.2.2.2 ≠ gb323) ∧ (gb324 ≠ s_.2.2.2.2) ∧ (s_.2.2.2.2 ≠ gb324) ∧ (gb337 ≠ s_.2.2.2.2) ∧ (s_.2.2.2.2 ≠ gb337) ∧ (Below w.heap.size w w')) ?_ ?_
  rotate_left
  ·intro hJ2_4_8_9
   refine join_ (σ := Value × Value × Value × Nat) 3 #[true, true, true, true, true, true, true, true, true, false, false, false] (fun s_ => [(25, .agg #[s_.1]), (27, .tuple #[.agg #[s_.2.1], .agg #[s_.2.2.1]]), (6, .pointer (some ⟨s_.2.2.2, 0, none⟩)), (22, .tuple #[.agg #[s_.2.1], .agg #[s_.2.2.1]]), (28, .agg #[s_.2.1]), (29, .agg #[s_.2.2.1])]) (fun s_ w' => (w'.cell? ⟨gb323, 0, none⟩ = some (.bool a0_0) ∧ w'.cell? ⟨gb323, 1, none⟩ = some (.int .i64 a0_1) ∧ w'.cell? ⟨gb323, 2, none⟩ = some (.int .i64 a0_2) ∧ w'.cell? ⟨gb323, 3, none⟩ = some (.int .u64 a0_3) ∧ w'.cell? ⟨gb337, 0, none⟩ = some (.slice Ao31 t334.length co31)) ∧ (Kd.R (Kd.int .u64) 22 w' w.heap.size (fun k_ => some k_ ≠ (.slice Ao31 t334.length co31 : Value).ownBlock ∧ some k_ ≠ (s_.1 : Value).ownBlock ∧ some k_ ≠ (s_.2.1 : Value).ownBlock) v332 t331) ∧ (Kd.R (Kd.int .u64) 22 w' w.heap.size (fun k_ => some k_ ≠ (v332 : Value).ownBlock ∧ some k_ ≠ (s_.1 : Value).ownBlock ∧ some k_ ≠ (s_.2.1 : Value).ownBlock) (.slice Ao31 t334.length co31) t334) ∧ (Kd.R (Kd.int .u64) 22 w' w.heap.size (fun k_ => some k_ ≠ (v332 : Value).ownBlock ∧ some k_ ≠ (.slice Ao31 t334.length co31 : Value).ownBlock ∧ some k_ ≠ (s_.2.1 : Value).ownBlock) s_.1 t338) ∧ (Kd.R (Kd.int .u64) 22 w' w.heap.size (fun k_ => some k_ ≠ (v332 : Value).ownBlock ∧ some k_ ≠ (.slice Ao31 t334.length co31 : Value).ownBlock ∧ some k_ ≠ (s_.1 : Value).ownBlock) s_.2.1 t341) ∧ (Kd.V (Kd.int .u64) 22 w' w.heap.size (fun k_ => some k_ ≠ (v332 : Value).ownBlock ∧ some k_ ≠ (.slice Ao31 t334.length co31 : Value).ownBlock ∧ some k_ ≠ (s_.2.1 : Value).ownBlock ∧ k_ ≠ gb323 ∧ k_ ≠ gb324 ∧ k_ ≠ gb337 ∧ k_ ≠ s_.2.2.2) s_.2.2.1 t344) ∧ (w'.heap[gb323]? = some (.cells #[.bool a0_0, .int .i64 a0_1, .int .i64 a0_2, .int .u64 a0_3] 30 (0, 0))) ∧ (w'.heap[gb324]? = some (.cells #[.slice none 0 0] 33 (0, 0))) ∧ (w'.heap[gb337]? = some (.cells #[.slice Ao31 t334.length co31] 33 (0, 0))) ∧ (w'.heap[s_.2.2.2]? = some (.cells #[.slice none 0 0] 33 (0, 0))) ∧ (w.heap.size ≤ s_.2.2.2) ∧ (w.heap.size ≤ s_.2.2.2) ∧ (gb323 ≠ s_.2.2.2) ∧ (s_.2.2.2 ≠ gb323) ∧ (gb324 ≠ s_.2.2.2) ∧ (s_.2.2.2 ≠ gb324) ∧ (gb337 ≠ s_.2.2.2) ∧ (s_.2.2.2 ≠ gb337) ∧ (Below w.heap.size w w')) ?_ ?_
   rotate_left
   ·intro hJ2_4_8
    refine join_ (σ := Value × Value × Value × Nat) 3 #[true, true, true, true, true, true, true, true, false, true, false, false] (fun s_ => [(25, .agg #[s_.1]), (27, .tuple #[.agg #[s_.2.1], .agg #[s_.2.2.1]]), (7, .pointer (some ⟨s_.2.2.2, 0, none⟩)), (22, .tuple #[.agg #[s_.2.1], .agg #[s_.2.2.1]]), (28, .agg #[s_.2.1]), (29, .agg #[s_.2.2.1])]) (fun s_ w' => (w'.cell? ⟨gb323, 0, none⟩ = some (.bool a0_0) ∧ w'.cell? ⟨gb323, 1, none⟩ = some (.int .i64 a0_1) ∧ w'.cell? ⟨gb323, 2, none⟩ = some (.int .i64 a0_2) ∧ w'.cell? ⟨gb323, 3, none⟩ = some (.int .u64 a0_3) ∧ w'.cell? ⟨gb337, 0, none⟩ = some (.slice Ao31 t334.length co31)) ∧ (Kd.R (Kd.int .u64) 22 w' w.heap.size (fun k_ => some k_ ≠ (.slice Ao31 t334.length co31 : Value).ownBlock ∧ some k_ ≠ (s_.1 : Value).ownBlock ∧ some k_ ≠ (s_.2.1 : Value).ownBlock) v332 t331) ∧ (Kd.R (Kd.int .u64) 22 w' w.heap.size (fun k_ => some k_ ≠ (v332 : Value).ownBlock ∧ some k_ ≠ (s_.1 : Value).ownBlock ∧ some k_ ≠ (s_.2.1 : Value).ownBlock) (.slice Ao31 t334.length co31) t334) ∧ (Kd.R (Kd.int .u64) 22 w' w.heap.size (fun k_ => some k_ ≠ (v332 : Value).ownBlock ∧ some k_ ≠ (.slice Ao31 t334.length co31 : Value).ownBlock ∧ some k_ ≠ (s_.2.1 : Value).ownBlock) s_.1 t338) ∧ (Kd.R (Kd.int .u64) 22 w' w.heap.size (fun k_ => some k_ ≠ (v332 : Value).ownBlock ∧ some k_ ≠ (.slice Ao31 t334.length co31 : Value).ownBlock ∧ some k_ ≠ (s_.1 : Value).ownBlock) s_.2.1 t341) ∧ (Kd.V (Kd.int .u64) 22 w' w.heap.size (fun k_ => some k_ ≠ (v332 : Value).ownBlock ∧ some k_ ≠ (.slice Ao31 t334.length co31 : Value).ownBlock ∧ some k_ ≠ (s_.2.1 : Value).ownBlock ∧ k_ ≠ gb323 ∧ k_ ≠ gb324 ∧ k_ ≠ gb337 ∧ k_ ≠ s_.2.2.2) s_.2.2.1 t344) ∧ (w'.heap[gb323]? = some (.cells #[.bool a0_0, .int .i64 a0_1, .int .i64 a0_2, .int .u64 a0_3] 30 (0, 0))) ∧ (w'.heap[gb324]? = some (.cells #[.slice none 0 0] 33 (0, 0))) ∧ (w'.heap[gb337]? = some (.cells #[.slice Ao31 t334.length co31] 33 (0, 0))) ∧ (w'.heap[s_.2.2.2]? = some (.cells #[.slice none 0 0] 33 (0, 0))) ∧ (w.heap.size ≤ s_.2.2.2) ∧ (w.heap.size ≤ s_.2.2.2) ∧ (gb323 ≠ s_.2.2.2) ∧ (s_.2.2.2 ≠ gb323) ∧ (gb324 ≠ s_.2.2.2) ∧ (s_.2.2.2 ≠ gb324) ∧ (gb337 ≠ s_.2.2.2) ∧ (s_.2.2.2 ≠ gb337) ∧ (Below w.heap.size w w')) ?_ ?_
    rotate_left
    ·intro hJ2_4_9
     refine join_ (σ := Value × Nat × Nat) 6 #[true, true, true, true, false, false, false, false, true, true, false, false] (fun s_ => [(25, .agg #[s_.1]), (6, .pointer (some ⟨s_.2.1, 0, none⟩)), (7, .pointer (some ⟨s_.2.2, 0, none⟩))]) (fun s_ w' => (w'.cell? ⟨gb323, 0, none⟩ = some (.bool a0_0) ∧ w'.cell? ⟨gb323, 1, none⟩ = some (.int .i64 a0_1) ∧ w'.cell? ⟨gb323, 2, none⟩ = some (.int .i64 a0_2) ∧ w'.cell? ⟨gb323, 3, none⟩ = some (.int .u64 a0_3) ∧ w'.cell? ⟨gb337, 0, none⟩ = some (.slice Ao31 t334.length co31)) ∧ (Kd.R (Kd.int .u64) 22 w' w.heap.size (fun k_ => some k_ ≠ (.slice Ao31 t334.length co31 : Value).ownBlock ∧ some k_ ≠ (s_.1 : Value).ownBlock) v332 t331) ∧ (Kd.R (Kd.int .u64) 22 w' w.heap.size (fun k_ => some k_ ≠ (v332 : Value).ownBlock ∧ some k_ ≠ (s_.1 : Value).ownBlock) (.slice Ao31 t334.length co31) t334) ∧ (Kd.R (Kd.int .u64) 22 w' w.heap.size (fun k_ => some k_ ≠ (v332 : Value).ownBlock ∧ some k_ ≠ (.slice Ao31 t334.length co31 : Value).ownBlock) s_.1 t338) ∧ (w'.heap[gb323]? = some (.cells #[.bool a0_0, .int .i64 a0_1, .int .i64 a0_2, .int .u64 a0_3] 30 (0, 0))) ∧ (w'.heap[gb324]? = some (.cells #[.slice none 0 0] 33 (0, 0))) ∧ (w'.heap[gb337]? = some (.cells #[.slice Ao31 t334.length co31] 33 (0, 0))) ∧ (w'.heap[s_.2.1]? = some (.cells #[.slice none 0 0] 33 (0, 0))) ∧ (w'.heap[s_.2.2]? = some (.cells #[.slice none 0 0] 33 (0, 0))) ∧ (w.heap.size ≤ s_.2.1) ∧ (w.heap.size ≤ s_.2.1) ∧ (gb323 ≠ s_.2.1) ∧ (s_.2.1 ≠ gb323) ∧ (gb324 ≠ s_.2.1) ∧ (s_.2.1 ≠ gb324) ∧ (gb337 ≠ s_.2.1) ∧ (s_.2.1 ≠ gb337) ∧ (s_.2.2 ≠ s_.2.1) ∧ (s_.2.1 ≠ s_.2.2) ∧ (w.heap.size ≤ s_.2.2) ∧ (w.heap.size ≤ s_.2.2) ∧ (gb323 ≠ s_.2.2) ∧ (s_.2.2 ≠ gb323) ∧ (gb324 ≠ s_.2.2) ∧ (s_.2.2 ≠ gb324) ∧ (gb337 ≠ s_.2.2) ∧ (s_.2.2 ≠ gb337) ∧ (Below w.heap.size w w')) ?_ ?_
     rotate_left
     ·intro hJ2_8_9
      refine join_ (σ := Value × Value × Value) 4 #[true, true, true, true, true, true, true, true, false, false, false, false] (fun s_ => [(25, .agg #[s_.1]), (27, .tuple #[.agg #[s_.2.1], .agg #[s_.2.2]]), (22, .tuple #[.agg #[s_.2.1], .agg #[s_.2.2]]), (28, .agg #[s_.2.1]), (29, .agg #[s_.2.2])]) (fun s_ w' => (w'.cell? ⟨gb323, 0, none⟩ = some (.bool a0_0) ∧ w'.cell? ⟨gb323, 1, none⟩ = some (.int .i64 a0_1) ∧ w'.cell? ⟨gb323, 2, none⟩ = some (.int .i64 a0_2) ∧ w'.cell? ⟨gb323, 3, none⟩ = some (.int .u64 a0_3) ∧ w'.cell? ⟨gb337, 0, none⟩ = some (.slice Ao31 t334.length co31)) ∧ (Kd.R (Kd.int .u64) 22 w' w.heap.size (fun k_ => some k_ ≠ (.slice Ao31 t334.length co31 : Value).ownBlock ∧ some k_ ≠ (s_.1 : Value).ownBlock ∧ some k_ ≠ (s_.2.1 : Value).ownBlock) v332 t331) ∧ (Kd.R (Kd.int .u64) 22 w' w.heap.size (fun k_ => some k_ ≠ (v332 : Value).ownBlock ∧ some k_ ≠ (s_.1 : Value).ownBlock ∧ some k_ ≠ (s_.2.1 : Value).ownBlock) (.slice Ao31 t334.length co31) t334) ∧ (Kd.R (Kd.int .u64) 22 w' w.heap.size (fun k_ => some k_ ≠ (v332 : Value).ownBlock ∧ some k_ ≠ (.slice Ao31 t334.length co31 : Value).ownBlock ∧ some k_ ≠ (s_.2.1 : Value).ownBlock) s_.1 t338) ∧ (Kd.R (Kd.int .u64) 22 w' w.heap.size (fun k_ => some k_ ≠ (v332 : Value).ownBlock ∧ some k_ ≠ (.slice Ao31 t334.length co31 : Value).ownBlock ∧ some k_ ≠ (s_.1 : Value).ownBlock) s_.2.1 t341) ∧ (Kd.V (Kd.int .u64) 22 w' w.heap.size (fun k_ => some k_ ≠ (v332 : Value).ownBlock ∧ some k_ ≠ (.slice Ao31 t334.length co31 : Value).ownBlock ∧ some k_ ≠ (s_.2.1 : Value).ownBlock ∧ k_ ≠ gb323 ∧ k_ ≠ gb324 ∧ k_ ≠ gb337) s_.2.2 t344) ∧ (w'.heap[gb323]? = some (.cells #[.bool a0_0, .int .i64 a0_1, .int .i64 a0_2, .int .u64 a0_3] 30 (0, 0))) ∧ (w'.heap[gb324]? = some (.cells #[.slice none 0 0] 33 (0, 0))) ∧ (w'.heap[gb337]? = some (.cells #[.slice Ao31 t334.length co31] 33 (0, 0))) ∧ (Below w.heap.size w w')) ?_ ?_
      rotate_left
      ·intro hJ2_4
       refine join_ (σ := Value × Nat) 7 #[true, true, true, true, false, false, false, false, true, false, false, false] (fun s_ => [(25, .agg #[s_.1]), (6, .pointer (some ⟨s_.2, 0, none⟩))]) (fun s_ w' => (w'.cell? ⟨gb323, 0, none⟩ = some (.bool a0_0) ∧ w'.cell? ⟨gb323, 1, none⟩ = some (.int .i64 a0_1) ∧ w'.cell? ⟨gb323, 2, none⟩ = some (.int .i64 a0_2) ∧ w'.cell? ⟨gb323, 3, none⟩ = some (.int .u64 a0_3) ∧ w'.cell? ⟨gb337, 0, none⟩ = some (.slice Ao31 t334.length co31)) ∧ (Kd.R (Kd.int .u64) 22 w' w.heap.size (fun k_ => some k_ ≠ (.slice Ao31 t334.length co31 : Value).ownBlock ∧ some k_ ≠ (s_.1 : Value).ownBlock) v332 t331) ∧ (Kd.R (Kd.int .u64) 22 w' w.heap.size (fun k_ => some k_ ≠ (v332 : Value).ownBlock ∧ some k_ ≠ (s_.1 : Value).ownBlock) (.slice Ao31 t334.length co31) t334) ∧ (Kd.R (Kd.int .u64) 22 w' w.heap.size (fun k_ => some k_ ≠ (v332 : Value).ownBlock ∧ some k_ ≠ (.slice Ao31 t334.length co31 : Value).ownBlock) s_.1 t338) ∧ (w'.heap[gb323]? = some (.cells #[.bool a0_0, .int .i64 a0_1, .int .i64 a0_2, .int .u64 a0_3] 30 (0, 0))) ∧ (w'.heap[gb324]? = some (.cells #[.slice none 0 0] 33 (0, 0))) ∧ (w'.heap[gb337]? = some (.cells #[.slice Ao31 t334.length co31] 33 (0, 0))) ∧ (w'.heap[s_.2]? = some (.cells #[.slice none 0 0] 33 (0, 0))) ∧ (w.heap.size ≤ s_.2) ∧ (w.heap.size ≤ s_.2) ∧ (gb323 ≠ s_.2) ∧ (s_.2 ≠ gb323) ∧ (gb324 ≠ s_.2) ∧ (s_.2 ≠ gb324) ∧ (gb337 ≠ s_.2) ∧ (s_.2 ≠ gb337) ∧ (Below w.heap.size w w')) ?_ ?_
       rotate_left
       ·intro hJ2_8
        refine join_ (σ := Value × Nat) 7 #[true, true, true, true, false, false, false, false, false, true, false, false] (fun s_ => [(25, .agg #[s_.1]), (7, .pointer (some ⟨s_.2, 0, none⟩))]) (fun s_ w' => (w'.cell? ⟨gb323, 0, none⟩ = some (.bool a0_0) ∧ w'.cell? ⟨gb323, 1, none⟩ = some (.int .i64 a0_1) ∧ w'.cell? ⟨gb323, 2, none⟩ = some (.int .i64 a0_2) ∧ w'.cell? ⟨gb323, 3, none⟩ = some (.int .u64 a0_3) ∧ w'.cell? ⟨gb337, 0, none⟩ = some (.slice Ao31 t334.length co31)) ∧ (Kd.R (Kd.int .u64) 22 w' w.heap.size (fun k_ => some k_ ≠ (.slice Ao31 t334.length co31 : Value).ownBlock ∧ some k_ ≠ (s_.1 : Value).ownBlock) v332 t331) ∧ (Kd.R (Kd.int .u64) 22 w' w.heap.size (fun k_ => some k_ ≠ (v332 : Value).ownBlock ∧ some k_ ≠ (s_.1 : Value).ownBlock) (.slice Ao31 t334.length co31) t334) ∧ (Kd.R (Kd.int .u64) 22 w' w.heap.size (fun k_ => some k_ ≠ (v332 : Value).ownBlock ∧ some k_ ≠ (.slice Ao31 t334.length co31 : Value).ownBlock) s_.1 t338) ∧ (w'.heap[gb323]? = some (.cells #[.bool a0_0, .int .i64 a0_1, .int .i64 a0_2, .int .u64 a0_3] 30 (0, 0))) ∧ (w'.heap[gb324]? = some (.cells #[.slice none 0 0] 33 (0, 0))) ∧ (w'.heap[gb337]? = some (.cells #[.slice Ao31 t334.length co31] 33 (0, 0))) ∧ (w'.heap[s_.2]? = some (.cells #[.slice none 0 0] 33 (0, 0))) ∧ (w.heap.size ≤ s_.2) ∧ (w.heap.size ≤ s_.2) ∧ (gb323 ≠ s_.2) ∧ (s_.2 ≠ gb323) ∧ (gb324 ≠ s_.2) ∧ (s_.2 ≠ gb324) ∧ (gb337 ≠ s_.2) ∧ (s_.2 ≠ gb337) ∧ (Below w.heap.size w w')) ?_ ?_
        rotate_left
        ·intro hJ2_9
         refine join_ (σ := Nat × Nat) 7 #[true, true, false, true, false, false, false, false, true, true, false, false] (fun s_ => [(6, .pointer (some ⟨s_.1, 0, none⟩)), (7, .pointer (some ⟨s_.2, 0, none⟩))]) (fun s_ w' => (w'.cell? ⟨gb323, 0, none⟩ = some (.bool a0_0) ∧ w'.cell? ⟨gb323, 1, none⟩ = some (.int .i64 a0_1) ∧ w'.cell? ⟨gb323, 2, none⟩ = some (.int .i64 a0_2) ∧ w'.cell? ⟨gb323, 3, none⟩ = some (.int .u64 a0_3) ∧ w'.cell? ⟨gb337, 0, none⟩ = some (.slice Ao31 t334.length co31)) ∧ (Kd.R (Kd.int .u64) 22 w' w.heap.size (fun k_ => some k_ ≠ (.slice Ao31 t334.length co31 : Value).ownBlock) v332 t331) ∧ (Kd.R (Kd.int .u64) 22 w' w.heap.size (fun k_ => some k_ ≠ (v332 : Value).ownBlock) (.slice Ao31 t334.length co31) t334) ∧ (w'.heap[gb323]? = some (.cells #[.bool a0_0, .int .i64 a0_1, .int .i64 a0_2, .int .u64 a0_3] 30 (0, 0))) ∧ (w'.heap[gb324]? = some (.cells #[.slice none 0 0] 33 (0, 0))) ∧ (w'.heap[gb337]? = some (.cells #[.slice Ao31 t334.length co31] 33 (0, 0))) ∧ (w'.heap[s_.1]? = some (.cells #[.slice none 0 0] 33 (0, 0))) ∧ (w'.heap[s_.2]? = some (.cells #[.slice none 0 0] 33 (0, 0))) ∧ (w.heap.size ≤ s_.1) ∧ (w.heap.size ≤ s_.1) ∧ (gb323 ≠ s_.1) ∧ (s_.1 ≠ gb323) ∧ (gb324 ≠ s_.1) ∧ (s_.1 ≠ gb324) ∧ (gb337 ≠ s_.1) ∧ (s_.1 ≠ gb337) ∧ (s_.2 ≠ s_.1) ∧ (s_.1 ≠ s_.2) ∧ (w.heap.size ≤ s_.2) ∧ (w.heap.size ≤ s_.2) ∧ (gb323 ≠ s_.2) ∧ (s_.2 ≠ gb323) ∧ (gb324 ≠ s_.2) ∧ (s_.2 ≠ gb324) ∧ (gb337 ≠ s_.2) ∧ (s_.2 ≠ gb337) ∧ (Below w.heap.size w w')) ?_ ?_
         rotate_left
         ·intro hJ8_9
          refine join_ (σ := Value) 8 #[true, true, true, true, false, false, false, false, false, false, false, false] (fun s_ => [(25, .agg #[s_])]) (fun s_ w' => (w'.cell? ⟨gb323, 0, none⟩ = some (.bool a0_0) ∧ w'.cell? ⟨gb323, 1, none⟩ = some (.int .i64 a0_1) ∧ w'.cell? ⟨gb323, 2, none⟩ = some (.int .i64 a0_2) ∧ w'.cell? ⟨gb323, 3, none⟩ = some (.int .u64 a0_3) ∧ w'.cell? ⟨gb337, 0, none⟩ = some (.slice Ao31 t334.length co31)) ∧ (Kd.R (Kd.int .u64) 22 w' w.heap.size (fun k_ => some k_ ≠ (.slice Ao31 t334.length co31 : Value).ownBlock ∧ some k_ ≠ (s_ : Value).ownBlock) v332 t331) ∧ (Kd.R (Kd.int .u64) 22 w' w.heap.size (fun k_ => some k_ ≠ (v332 : Value).ownBlock ∧ some k_ ≠ (s_ : Value).ownBlock) (.slice Ao31 t334.length co31) t334) ∧ (Kd.R (Kd.int .u64) 22 w' w.heap.size (fun k_ => some k_ ≠ (v332 : Value).ownBlock ∧ some k_ ≠ (.slice Ao31 t334.length co31 : Value).ownBlock) s_ t338) ∧ (w'.heap[gb323]? = some (.cells #[.bool a0_0, .int .i64 a0_1, .int .i64 a0_2, .int .u64 a0_3] 30 (0, 0))) ∧ (w'.heap[gb324]? = some (.cells #[.slice none 0 0] 33 (0, 0))) ∧ (w'.heap[gb337]? = some (.cells #[.slice Ao31 t334.length co31] 33 (0, 0))) ∧ (Below w.heap.size w w')) ?_ ?_
          rotate_left
          ·intro hJ2
           refine join_ (σ := Nat) 8 #[true, true, false, true, false, false, false, false, true, false, false, false] (fun s_ => [(6, .pointer (some ⟨s_, 0, none⟩))]) (fun s_ w' => (w'.cell? ⟨gb323, 0, none⟩ = some (.bool a0_0) ∧ w'.cell? ⟨gb323, 1, none⟩ = some (.int .i64 a0_1) ∧ w'.cell? ⟨gb323, 2, none⟩ = some (.int .i64 a0_2) ∧ w'.cell? ⟨gb323, 3, none⟩ = some (.int .u64 a0_3) ∧ w'.cell? ⟨gb337, 0, none⟩ = some (.slice Ao31 t334.length co31)) ∧ (Kd.R (Kd.int .u64) 22 w' w.heap.size (fun k_ => some k_ ≠ (.slice Ao31 t334.length co31 : Value).ownBlock) v332 t331) ∧ (Kd.R (Kd.int .u64) 22 w' w.heap.size (fun k_ => some k_ ≠ (v332 : Value).ownBlock) (.slice Ao31 t334.length co31) t334) ∧ (w'.heap[gb323]? = some (.cells #[.bool a0_0, .int .i64 a0_1, .int .i64 a0_2, .int .u64 a0_3] 30 (0, 0))) ∧ (w'.heap[gb324]? = some (.cells #[.slice none 0 0] 33 (0, 0))) ∧ (w'.heap[gb337]? = some (.cells #[.slice Ao31 t334.length co31] 33 (0, 0))) ∧ (w'.heap[s_]? = some (.cells #[.slice none 0 0] 33 (0, 0))) ∧ (w.heap.size ≤ s_) ∧ (w.heap.size ≤ s_) ∧ (gb323 ≠ s_) ∧ (s_ ≠ gb323) ∧ (gb324 ≠ s_) ∧ (s_ ≠ gb324) ∧ (gb337 ≠ s_) ∧ (s_ ≠ gb337) ∧ (Below w.heap.size w w')) ?_ ?_
           rotate_left
           ·intro hJ8
            refine join_ (σ := Nat) 8 #[true, true, false, true, false, false, false, false, false, true, false, false] (fun s_ => [(7, .pointer (some ⟨s_, 0, none⟩))]) (fun s_ w' => (w'.cell? ⟨gb323, 0, none⟩ = some (.bool a0_0) ∧ w'.cell? ⟨gb323, 1, none⟩ = some (.int .i64 a0_1) ∧ w'.cell? ⟨gb323, 2, none⟩ = some (.int .i64 a0_2) ∧ w'.cell? ⟨gb323, 3, none⟩ = some (.int .u64 a0_3) ∧ w'.cell? ⟨gb337, 0, none⟩ = some (.slice Ao31 t334.length co31)) ∧ (Kd.R (Kd.int .u64) 22 w' w.heap.size (fun k_ => some k_ ≠ (.slice Ao31 t334.length co31 : Value).ownBlock) v332 t331) ∧ (Kd.R (Kd.int .u64) 22 w' w.heap.size (fun k_ => some k_ ≠ (v332 : Value).ownBlock) (.slice Ao31 t334.length co31) t334) ∧ (w'.heap[gb323]? = some (.cells #[.bool a0_0, .int .i64 a0_1, .int .i64 a0_2, .int .u64 a0_3] 30 (0, 0))) ∧ (w'.heap[gb324]? = some (.cells #[.slice none 0 0] 33 (0, 0))) ∧ (w'.heap[gb337]? = some (.cells #[.slice Ao31 t334.length co31] 33 (0, 0))) ∧ (w'.heap[s_]? = some (.cells #[.slice none 0 0] 33 (0, 0))) ∧ (w.heap.size ≤ s_) ∧ (w.heap.size ≤ s_) ∧ (gb323 ≠ s_) ∧ (s_ ≠ gb323) ∧ (gb324 ≠ s_) ∧ (s_ ≠ gb324) ∧ (gb337 ≠ s_) ∧ (s_ ≠ gb337) ∧ (Below w.heap.size w w')) ?_ ?_
            rotate_left
            ·intro hJ9
             refine three_ (i := 2) (j := 8) (k := 9) (Ni := some 25) (Nj := some 6) (Nk := some 7) #[true, true, true, true, false, false, false, false, false, false, false, false] #[true, true, false, true, false, false, false, false, true, false, false, false] #[true, true, false, true, false, false, false, false, false, true, false, false] rfl rfl rfl rfl rfl rfl (three_of HT_.out (by kernel_rfl)) (by decide) (by decide) (by decide) (fun K hK => ?_) (fun K hK => ?_) (fun K hK => ?_)
             ·skip
              refine goes_ Try.func34 (by kernel_rfl) rfl #[.int .u64 a0_3] (by rfl) rfl rfl mp_ ?_
              with_reducible refine (r1_Of.calls k a0_3 t338 _ A17.out).mono ?_
              rintro e w35 ⟨v339, rfl, ho0, hb⟩
              refine ⟨_, rfl, ?_⟩
              have HO340 := A_ (Kd.R_lower (Kd.R_new' (Kd.R_new' ho0 (Kd.R_lt (kr_ HO333.out))) (Kd.R_lt (kr_ HO336.out))) (below_size (hb3_ HB.out GE323.out GE324.out GE337.out)))
              replace HO333 := A_ (Kd.R_elder' (kr_ HO333.out) (Kd.R_base ho0) hb)
              replace HO336 := A_ (Kd.R_elder' (kr_ HO336.out) (Kd.R_base ho0) hb)
              replace BK323 := A_ (bb_ BK323.out hb)
              replace BK324 := A_ (bb_ BK324.out hb)
              replace BK337 := A_ (bb_ BK337.out hb)
              replace HB := A_ (below_step (hb3_ HB.out GE323.out GE324.out GE337.out) hb);(try clear hb);(try clear hb2);(try clear hk);(try clear hi);(try clear ho0)
              refine hK.out _ _ ⟨bc_ BK323.out 0, bc_ BK323.out 1, bc_ BK323.out 2, bc_ BK323.out 3, bc_ BK337.out 0⟩ (fun hHeld => ?_)
              clear hK K
              refine norm_ (a' := ?_) ?_ ?_
              rotate_left
              ·show Act.put _ (some 25) _ = _
               simp only [Act.put, lI_, l0_, lS_, i64_w, i32_w]
               rfl
              exact norm_ pa_ (hJ2 (_) _ ⟨hHeld, (kr_ HO333.out), (kr_ HO336.out), (by (with_reducible repeat (first | apply Kd.R_alloc | apply Kd.R_drewN | apply Kd.R_drew)); exact Kd.R_mono HO340.out (fun _ hk => ⟨hk.1.2, hk.2⟩)), (bk_ BK323.out), (bk_ BK324.out), (bk_ BK337.out), (hb3_ HB.out GE323.out GE324.out GE337.out)⟩)
             ·skip
              refine box_step ?hg (N := 6) ?hd (cs := #[.slice none 0 0]) (t := 33) ?hr ?_; (case hd => rfl); (case hg => rfl); (case hr => first | (go_simp; done) | (go_simp; rfl))
              intro gb347 hg w35 hbox hb
              have BK347 := A_ (hbox)
              have GW347 := A_ (sz_ hg (hb3_ HB.out GE323.out GE324.out GE337.out))
              have GE347 := A_ (sz_ hg (hb3_ HB.out GE323.out GE324.out GE337.out))
              have NB323_347 := A_ (nl_ hg BK323.out)
              have NB347_323 := A_ (ng_ hg BK323.out)
              have NB324_347 := A_ (nl_ hg BK324.out)
              have NB347_324 := A_ (ng_ hg BK324.out)
              have NB337_347 := A_ (nl_ hg BK337.out)
              have NB347_337 := A_ (ng_ hg BK337.out)
              replace HO333 := A_ (Kd.R_below (kr_ HO333.out) hb)
              replace HO336 := A_ (Kd.R_below (kr_ HO336.out) hb)
              replace BK323 := A_ (bb_ BK323.out hb)
              replace BK324 := A_ (bb_ BK324.out hb)
              replace BK337 := A_ (bb_ BK337.out hb)
              replace HB := A_ (below_step (hb3_ HB.out GE323.out GE324.out GE337.out) hb);clear hb hbox hg
              refine hK.out _ _ ⟨bc_ BK323.out 0, bc_ BK323.out 1, bc_ BK323.out 2, bc_ BK323.out 3, bc_ BK337.out 0⟩ (fun hHeld => ?_)
              clear hK K
              refine norm_ (a' := ?_) ?_ ?_
              rotate_left
              ·show Act.put _ (some 6) _ = _
               simp only [Act.put, lI_, l0_, lS_, i64_w, i32_w]
               rfl
              exact norm_ pa_ (hJ8 (gb347) _ ⟨hHeld, (kr_ HO333.out), (kr_ HO336.out), (bk_ BK323.out), (bk_ BK324.out), (bk_ BK337.out), (bk_ BK347.out), GW347.out, GE347.out, NB323_347.out, NB347_323.out, NB324_347.out, NB347_324.out, NB337_347.out, NB347_337.out, (hb4_ HB.out GE323.out GE324.out GE337.out GE347.out)⟩)
             ·skip
              refine box_step ?hg (N := 7) ?hd (cs := #[.slice none 0 0]) (t := 33) ?hr ?_; (case hd => rfl); (case hg => rfl); (case hr => first | (go_simp; done) | (go_simp; rfl))
              intro gb348 hg w35 hbox hb
              have BK348 := A_ (hbox)
              have GW348 := A_ (sz_ hg (hb3_ HB.out GE323.out GE324.out GE337.out))
              have GE348 := A_ (sz_ hg (hb3_ HB.out GE323.out GE324.out GE337.out))
              have NB323_348 := A_ (nl_ hg BK323.out)
              have NB348_323 := A_ (ng_ hg BK323.out)
              have NB324_348 := A_ (nl_ hg BK324.out)
              have NB348_324 := A_ (ng_ hg BK324.out)
              have NB337_348 := A_ (nl_ hg BK337.out)
              have NB348_337 := A_ (ng_ hg BK337.out)
              replace HO333 := A_ (Kd.R_below (kr_ HO333.out) hb)
              replace HO336 := A_ (Kd.R_below (kr_ HO336.out) hb)
              replace BK323 := A_ (bb_ BK323.out hb)
              replace BK324 := A_ (bb_ BK324.out hb)
              replace BK337 := A_ (bb_ BK337.out hb)
              replace HB := A_ (below_step (hb3_ HB.out GE323.out GE324.out GE337.out) hb);clear hb hbox hg
              refine hK.out _ _ ⟨bc_ BK323.out 0, bc_ BK323.out 1, bc_ BK323.out 2, bc_ BK323.out 3, bc_ BK337.out 0⟩ (fun hHeld => ?_)
              clear hK K
              refine norm_ (a' := ?_) ?_ ?_
              rotate_left
              ·show Act.put _ (some 7) _ = _
               simp only [Act.put, lI_, l0_, lS_, i64_w, i32_w]
               rfl
              exact norm_ pa_ (hJ9 (gb348) _ ⟨hHeld, (kr_ HO333.out), (kr_ HO336.out), (bk_ BK323.out), (bk_ BK324.out), (bk_ BK337.out), (bk_ BK348.out), GW348.out, GE348.out, NB323_348.out, NB348_323.out, NB324_348.out, NB348_324.out, NB337_348.out, NB348_337.out, (hb4_ HB.out GE323.out GE324.out GE337.out GE348.out)⟩)
            ·skip
             rintro gb348 w36 ⟨hS_, h0_, h1_, h2_, h3_, h4_, h5_, h6_, h7_, h8_, h9_, h10_, h11_, h12_, h13_, h14_⟩
             have n0_ : Aside0 (Kd.R (Kd.int .u64) 22 w36 w.heap.size (fun k_ => some k_ ≠ (.slice Ao31 t334.length co31 : Value).ownBlock) v332 t331) := ⟨h0_⟩
             have n1_ : Aside0 (Kd.R (Kd.int .u64) 22 w36 w.heap.size (fun k_ => some k_ ≠ (v332 : Value).ownBlock) (.slice Ao31 t334.length co31) t334) := ⟨h1_⟩
             have n2_ : Aside0 (w36.heap[gb323]? = some (.cells #[.bool a0_0, .int .i64 a0_1, .int .i64 a0_2, .int .u64 a0_3] 30 (0, 0))) := ⟨h2_⟩
             have n3_ : Aside0 (w36.heap[gb324]? = some (.cells #[.slice none 0 0] 33 (0, 0))) := ⟨h3_⟩
             have n4_ : Aside0 (w36.heap[gb337]? = some (.cells #[.slice Ao31 t334.length co31] 33 (0, 0))) := ⟨h4_⟩
             have n5_ : Aside0 (w36.heap[gb348]? = some (.cells #[.slice none 0 0] 33 (0, 0))) := ⟨h5_⟩
             have n6_ : Aside0 (w.heap.size ≤ gb348) := ⟨h6_⟩
             have n7_ : Aside0 (w.heap.size ≤ gb348) := ⟨h7_⟩
             have n8_ : Aside0 (gb323 ≠ gb348) := ⟨h8_⟩
             have n9_ : Aside0 (gb348 ≠ gb323) := ⟨h9_⟩
             have n10_ : Aside0 (gb324 ≠ gb348) := ⟨h10_⟩
             have n11_ : Aside0 (gb348 ≠ gb324) := ⟨h11_⟩
             have n12_ : Aside0 (gb337 ≠ gb348) := ⟨h12_⟩
             have n13_ : Aside0 (gb348 ≠ gb337) := ⟨h13_⟩
             have n14_ : Aside0 (Below w.heap.size w w36) := ⟨h14_⟩
             clear HO333;clear HO336;clear BK323;clear BK324;clear BK337;clear HB;clear h0_ h1_ h2_ h3_ h4_ h5_ h6_ h7_ h8_ h9_ h10_ h11_ h12_ h13_ h14_;have HO333 := n0_;have HO336 := n1_;have BK323 := n2_;have BK324 := n3_;have BK337 := n4_;have BK348 := n5_;have GW348 := n6_;have GE348 := n7_;have NB323_348 := n8_;have NB348_323 := n9_;have NB324_348 := n10_;have NB348_324 := n11_;have NB337_348 := n12_;have NB348_337 := n13_;have HB := n14_;clear n0_ n1_ n2_ n3_ n4_ n5_ n6_ n7_ n8_ n9_ n10_ n11_ n12_ n13_ n14_
             have hHeld : w36.cell? ⟨gb323, 0, none⟩ = some (.bool a0_0) ∧ w36.cell? ⟨gb323, 1, none⟩ = some (.int .i64 a0_1) ∧ w36.cell? ⟨gb323, 2, none⟩ = some (.int .i64 a0_2) ∧ w36.cell? ⟨gb323, 3, none⟩ = some (.int .u64 a0_3) ∧ w36.cell? ⟨gb337, 0, none⟩ = some (.slice Ao31 t334.length co31) := hS_
             refine norm_ (a' := ?_) ?_ ?_
             rotate_left
             ·simp only [putAll, Act.put, lI_, l0_, lS_]
              rfl
             refine two_ (i := 2) (j := 8) (Ni := some 25) (Nj := some 6) #[true, true, true, true, false, false, false, false, false, true, false, false] #[true, true, false, true, false, false, false, false, true, true, false, false] rfl rfl rfl rfl (two_of HT_.out (by kernel_rfl)) (by decide) (by decide) (fun K hK => ?_) (fun K hK => ?_)
             ·skip
              refine goes_ Try.func34 (by kernel_rfl) rfl #[.int .u64 a0_3] (by rfl) rfl rfl mp_ ?_
              with_reducible refine (r1_Of.calls k a0_3 t338 _ A17.out).mono ?_
              rintro e w37 ⟨v339, rfl, ho0, hb⟩
              refine ⟨_, rfl, ?_⟩
              have HO340 := A_ (Kd.R_lower (Kd.R_new' (Kd.R_new' ho0 (Kd.R_lt (kr_ HO333.out))) (Kd.R_lt (kr_ HO336.out))) (below_size (hb4_ HB.out GE323.out GE324.out GE337.out GE348.out)))
              replace HO333 := A_ (Kd.R_elder' (kr_ HO333.out) (Kd.R_base ho0) hb)
              replace HO336 := A_ (Kd.R_elder' (kr_ HO336.out) (Kd.R_base ho0) hb)
              replace BK323 := A_ (bb_ BK323.out hb)
              replace BK324 := A_ (bb_ BK324.out hb)
              replace BK337 := A_ (bb_ BK337.out hb)
              replace BK348 := A_ (bb_ BK348.out hb)
              replace HB := A_ (below_step (hb4_ HB.out GE323.out GE324.out GE337.out GE348.out) hb);(try clear hb);(try clear hb2);(try clear hk);(try clear hi);(try clear ho0)
              refine hK.out _ _ ⟨bc_ BK323.out 0, bc_ BK323.out 1, bc_ BK323.out 2, bc_ BK323.out 3, bc_ BK337.out 0⟩ (fun hHeld => ?_)
              clear hK K
              refine norm_ (a' := ?_) ?_ ?_
              rotate_left
              ·show Act.put _ (some 25) _ = _
               simp only [Act.put, lI_, l0_, lS_, i64_w, i32_w]
               rfl
              exact norm_ pa_ (hJ2_9 (_, gb348) _ ⟨hHeld, (kr_ HO333.out), (kr_ HO336.out), (by (with_reducible repeat (first | apply Kd.R_alloc | apply Kd.R_drewN | apply Kd.R_drew)); exact Kd.R_mono HO340.out (fun _ hk => ⟨hk.1.2, hk.2⟩)), (bk_ BK323.out), (bk_ BK324.out), (bk_ BK337.out), (bk_ BK348.out), GW348.out, GE348.out, NB323_348.out, NB348_323.out, NB324_348.out, NB348_324.out, NB337_348.out, NB348_337.out, (hb4_ HB.out GE323.out GE324.out GE337.out GE348.out)⟩)
             ·skip
              refine box_step ?hg (N := 6) ?hd (cs := #[.slice none 0 0]) (t := 33) ?hr ?_; (case hd => rfl); (case hg => rfl); (case hr => first | (go_simp; done) | (go_simp; rfl))
              intro gb347 hg w37 hbox hb
              have BK347 := A_ (hbox)
              have GW347 := A_ (sz_ hg (hb4_ HB.out GE323.out GE324.out GE337.out GE348.out))
              have GE347 := A_ (sz_ hg (hb4_ HB.out GE323.out GE324.out GE337.out GE348.out))
              have NB323_347 := A_ (nl_ hg BK323.out)
              have NB347_323 := A_ (ng_ hg BK323.out)
              have NB324_347 := A_ (nl_ hg BK324.out)
              have NB347_324 := A_ (ng_ hg BK324.out)
              have NB337_347 := A_ (nl_ hg BK337.out)
              have NB347_337 := A_ (ng_ hg BK337.out)
              have NB348_347 := A_ (nl_ hg BK348.out)
              have NB347_348 := A_ (ng_ hg BK348.out)
              replace HO333 := A_ (Kd.R_below (kr_ HO333.out) hb)
              replace HO336 := A_ (Kd.R_below (kr_ HO336.out) hb)
              replace BK323 := A_ (bb_ BK323.out hb)
              replace BK324 := A_ (bb_ BK324.out hb)
              replace BK337 := A_ (bb_ BK337.out hb)
              replace BK348 := A_ (bb_ BK348.out hb)
              replace HB := A_ (below_step (hb4_ HB.out GE323.out GE324.out GE337.out GE348.out) hb);clear hb hbox hg
              refine hK.out _ _ ⟨bc_ BK323.out 0, bc_ BK323.out 1, bc_ BK323.out 2, bc_ BK323.out 3, bc_ BK337.out 0⟩ (fun hHeld => ?_)
              clear hK K
              refine norm_ (a' := ?_) ?_ ?_
              rotate_left
              ·show Act.put _ (some 6) _ = _
               simp only [Act.put, lI_, l0_, lS_, i64_w, i32_w]
               rfl
              exact norm_ pa_ (hJ8_9 (gb347, gb348) _ ⟨hHeld, (kr_ HO333.out), (kr_ HO336.out), (bk_ BK323.out), (bk_ BK324.out), (bk_ BK337.out), (bk_ BK347.out), (bk_ BK348.out), GW347.out, GE347.out, NB323_347.out, NB347_323.out, NB324_347.out, NB347_324.out, NB337_347.out, NB347_337.out, NB348_347.out, NB347_348.out, GW348.out, GE348.out, NB323_348.out, NB348_323.out, NB324_348.out, NB348_324.out, NB337_348.out, NB348_337.out, (by repeat (first | (with_reducible first | exact HB.out | apply below_alloc | apply pw_below_drewN | apply below_drew1 | refine below_set ?_ GE323.out | refine below_set ?_ GE324.out | refine below_set ?_ GE337.out | refine below_set ?_ GE348.out | refine below_set ?_ GE347.out) | exact HB.out))⟩)
           ·skip
            rintro gb347 w36 ⟨hS_, h0_, h1_, h2_, h3_, h4_, h5_, h6_, h7_, h8_, h9_, h10_, h11_, h12_, h13_, h14_⟩
            have n0_ : Aside0 (Kd.R (Kd.int .u64) 22 w36 w.heap.size (fun k_ => some k_ ≠ (.slice Ao31 t334.length co31 : Value).ownBlock) v332 t331) := ⟨h0_⟩
            have n1_ : Aside0 (Kd.R (Kd.int .u64) 22 w36 w.heap.size (fun k_ => some k_ ≠ (v332 : Value).ownBlock) (.slice Ao31 t334.length co31) t334) := ⟨h1_⟩
            have n2_ : Aside0 (w36.heap[gb323]? = some (.cells #[.bool a0_0, .int .i64 a0_1, .int .i64 a0_2, .int .u64 a0_3] 30 (0, 0))) := ⟨h2_⟩
            have n3_ : Aside0 (w36.heap[gb324]? = some (.cells #[.slice none 0 0] 33 (0, 0))) := ⟨h3_⟩
            have n4_ : Aside0 (w36.heap[gb337]? = some (.cells #[.slice Ao31 t334.length co31] 33 (0, 0))) := ⟨h4_⟩
            have n5_ : Aside0 (w36.heap[gb347]? = some (.cells #[.slice none 0 0] 33 (0, 0))) := ⟨h5_⟩
            have n6_ : Aside0 (w.heap.size ≤ gb347) := ⟨h6_⟩
            have n7_ : Aside0 (w.heap.size ≤ gb347) := ⟨h7_⟩
            have n8_ : Aside0 (gb323 ≠ gb347) := ⟨h8_⟩
            have n9_ : Aside0 (gb347 ≠ gb323) := ⟨h9_⟩
            have n10_ : Aside0 (gb324 ≠ gb347) := ⟨h10_⟩
            have n11_ : Aside0 (gb347 ≠ gb324) := ⟨h11_⟩
            have n12_ : Aside0 (gb337 ≠ gb347) := ⟨h12_⟩
            have n13_ : Aside0 (gb347 ≠ gb337) := ⟨h13_⟩
            have n14_ : Aside0 (Below w.heap.size w w36) := ⟨h14_⟩
            clear HO333;clear HO336;clear BK323;clear BK324;clear BK337;clear HB;clear h0_ h1_ h2_ h3_ h4_ h5_ h6_ h7_ h8_ h9_ h10_ h11_ h12_ h13_ h14_;have HO333 := n0_;have HO336 := n1_;have BK323 := n2_;have BK324 := n3_;have BK337 := n4_;have BK347 := n5_;have GW347 := n6_;have GE347 := n7_;have NB323_347 := n8_;have NB347_323 := n9_;have NB324_347 := n10_;have NB347_324 := n11_;have NB337_347 := n12_;have NB347_337 := n13_;have HB := n14_;clear n0_ n1_ n2_ n3_ n4_ n5_ n6_ n7_ n8_ n9_ n10_ n11_ n12_ n13_ n14_
            have hHeld : w36.cell? ⟨gb323, 0, none⟩ = some (.bool a0_0) ∧ w36.cell? ⟨gb323, 1, none⟩ = some (.int .i64 a0_1) ∧ w36.cell? ⟨gb323, 2, none⟩ = some (.int .i64 a0_2) ∧ w36.cell? ⟨gb323, 3, none⟩ = some (.int .u64 a0_3) ∧ w36.cell? ⟨gb337, 0, none⟩ = some (.slice Ao31 t334.length co31) := hS_
            refine norm_ (a' := ?_) ?_ ?_
            rotate_left
            ·simp only [putAll, Act.put, lI_, l0_, lS_]
             rfl
            refine two_ (i := 2) (j := 9) (Ni := some 25) (Nj := some 7) #[true, true, true, true, false, false, false, false, true, false, false, false] #[true, true, false, true, false, false, false, false, true, true, false, false] rfl rfl rfl rfl (two_of HT_.out (by kernel_rfl)) (by decide) (by decide) (fun K hK => ?_) (fun K hK => ?_)
            ·skip
             refine goes_ Try.func34 (by kernel_rfl) rfl #[.int .u64 a0_3] (by rfl) rfl rfl mp_ ?_
             with_reducible refine (r1_Of.calls k a0_3 t338 _ A17.out).mono ?_
             rintro e w37 ⟨v339, rfl, ho0, hb⟩
             refine ⟨_, rfl, ?_⟩
             have HO340 := A_ (Kd.R_lower (Kd.R_new' (Kd.R_new' ho0 (Kd.R_lt (kr_ HO333.out))) (Kd.R_lt (kr_ HO336.out))) (below_size (hb4_ HB.out GE323.out GE324.out GE337.out GE347.out)))
             replace HO333 := A_ (Kd.R_elder' (kr_ HO333.out) (Kd.R_base ho0) hb)
             replace HO336 := A_ (Kd.R_elder' (kr_ HO336.out) (Kd.R_base ho0) hb)
             replace BK323 := A_ (bb_ BK323.out hb)
             replace BK324 := A_ (bb_ BK324.out hb)
             replace BK337 := A_ (bb_ BK337.out hb)
             replace BK347 := A_ (bb_ BK347.out hb)
             replace HB := A_ (below_step (hb4_ HB.out GE323.out GE324.out GE337.out GE347.out) hb);(try clear hb);(try clear hb2);(try clear hk);(try clear hi);(try clear ho0)
             refine hK.out _ _ ⟨bc_ BK323.out 0, bc_ BK323.out 1, bc_ BK323.out 2, bc_ BK323.out 3, bc_ BK337.out 0⟩ (fun hHeld => ?_)
             clear hK K
             refine norm_ (a' := ?_) ?_ ?_
             rotate_left
             ·show Act.put _ (some 25) _ = _
              simp only [Act.put, lI_, l0_, lS_, i64_w, i32_w]
              rfl
             exact norm_ pa_ (hJ2_8 (_, gb347) _ ⟨hHeld, (kr_ HO333.out), (kr_ HO336.out), (by (with_reducible repeat (first | apply Kd.R_alloc | apply Kd.R_drewN | apply Kd.R_drew)); exact Kd.R_mono HO340.out (fun _ hk => ⟨hk.1.2, hk.2⟩)), (bk_ BK323.out), (bk_ BK324.out), (bk_ BK337.out), (bk_ BK347.out), GW347.out, GE347.out, NB323_347.out, NB347_323.out, NB324_347.out, NB347_324.out, NB337_347.out, NB347_337.out, (hb4_ HB.out GE323.out GE324.out GE337.out GE347.out)⟩)
            ·skip
             refine box_step ?hg (N := 7) ?hd (cs := #[.slice none 0 0]) (t := 33) ?hr ?_; (case hd => rfl); (case hg => rfl); (case hr => first | (go_simp; done) | (go_simp; rfl))
             intro gb348 hg w37 hbox hb
             have BK348 := A_ (hbox)
             have GW348 := A_ (sz_ hg (hb4_ HB.out GE323.out GE324.out GE337.out GE347.out))
             have GE348 := A_ (sz_ hg (hb4_ HB.out GE323.out GE324.out GE337.out GE347.out))
             have NB323_348 := A_ (nl_ hg BK323.out)
             have NB348_323 := A_ (ng_ hg BK323.out)
             have NB324_348 := A_ (nl_ hg BK324.out)
             have NB348_324 := A_ (ng_ hg BK324.out)
             have NB337_348 := A_ (nl_ hg BK337.out)
             have NB348_337 := A_ (ng_ hg BK337.out)
             have NB347_348 := A_ (nl_ hg BK347.out)
             have NB348_347 := A_ (ng_ hg BK347.out)
             replace HO333 := A_ (Kd.R_below (kr_ HO333.out) hb)
             replace HO336 := A_ (Kd.R_below (kr_ HO336.out) hb)
             replace BK323 := A_ (bb_ BK323.out hb)
             replace BK324 := A_ (bb_ BK324.out hb)
             replace BK337 := A_ (bb_ BK337.out hb)
             replace BK347 := A_ (bb_ BK347.out hb)
             replace HB := A_ (below_step (hb4_ HB.out GE323.out GE324.out GE337.out GE347.out) hb);clear hb hbox hg
             refine hK.out _ _ ⟨bc_ BK323.out 0, bc_ BK323.out 1, bc_ BK323.out 2, bc_ BK323.out 3, bc_ BK337.out 0⟩ (fun hHeld => ?_)
             clear hK K
             refine norm_ (a' := ?_) ?_ ?_
             rotate_left
             ·show Act.put _ (some 7) _ = _
              simp only [Act.put, lI_, l0_, lS_, i64_w, i32_w]
              rfl
             exact norm_ pa_ (hJ8_9 (gb347, gb348) _ ⟨hHeld, (kr_ HO333.out), (kr_ HO336.out), (bk_ BK323.out), (bk_ BK324.out), (bk_ BK337.out), (bk_ BK347.out), (bk_ BK348.out), GW347.out, GE347.out, NB323_347.out, NB347_323.out, NB324_347.out, NB347_324.out, NB337_347.out, NB347_337.out, NB348_347.out, NB347_348.out, GW348.out, GE348.out, NB323_348.out, NB348_323.out, NB324_348.out, NB348_324.out, NB337_348.out, NB348_337.out, (by repeat (first | (with_reducible first | exact HB.out | apply below_alloc | apply pw_below_drewN | apply below_drew1 | refine below_set ?_ GE323.out | refine below_set ?_ GE324.out | refine below_set ?_ GE337.out | refine below_set ?_ GE347.out | refine below_set ?_ GE348.out) | exact HB.out))⟩)
          ·skip
           rintro v339 w36 ⟨hS_, h0_, h1_, h2_, h3_, h4_, h5_, h6_⟩
           have n0_ : Aside0 (Kd.R (Kd.int .u64) 22 w36 w.heap.size (fun k_ => some k_ ≠ (.slice Ao31 t334.length co31 : Value).ownBlock ∧ some k_ ≠ (v339 : Value).ownBlock) v332 t331) := ⟨h0_⟩
           have n1_ : Aside0 (Kd.R (Kd.int .u64) 22 w36 w.heap.size (fun k_ => some k_ ≠ (v332 : Value).ownBlock ∧ some k_ ≠ (v339 : Value).ownBlock) (.slice Ao31 t334.length co31) t334) := ⟨h1_⟩
           have n2_ : Aside0 (Kd.R (Kd.int .u64) 22 w36 w.heap.size (fun k_ => some k_ ≠ (v332 : Value).ownBlock ∧ some k_ ≠ (.slice Ao31 t334.length co31 : Value).ownBlock) v339 t338) := ⟨h2_⟩
           have n3_ : Aside0 (w36.heap[gb323]? = some (.cells #[.bool a0_0, .int .i64 a0_1, .int .i64 a0_2, .int .u64 a0_3] 30 (0, 0))) := ⟨h3_⟩
           have n4_ : Aside0 (w36.heap[gb324]? = some (.cells #[.slice none 0 0] 33 (0, 0))) := ⟨h4_⟩
           have n5_ : Aside0 (w36.heap[gb337]? = some (.cells #[.slice Ao31 t334.length co31] 33 (0, 0))) := ⟨h5_⟩
           have n6_ : Aside0 (Below w.heap.size w w36) := ⟨h6_⟩
           clear HO333;clear HO336;clear BK323;clear BK324;clear BK337;clear HB;clear h0_ h1_ h2_ h3_ h4_ h5_ h6_;have HO333 := n0_;have HO336 := n1_;have HO340 := n2_;have BK323 := n3_;have BK324 := n4_;have BK337 := n5_;have HB := n6_;clear n0_ n1_ n2_ n3_ n4_ n5_ n6_
           have hHeld : w36.cell? ⟨gb323, 0, none⟩ = some (.bool a0_0) ∧ w36.cell? ⟨gb323, 1, none⟩ = some (.int .i64 a0_1) ∧ w36.cell? ⟨gb323, 2, none⟩ = some (.int .i64 a0_2) ∧ w36.cell? ⟨gb323, 3, none⟩ = some (.int .u64 a0_3) ∧ w36.cell? ⟨gb337, 0, none⟩ = some (.slice Ao31 t334.length co31) := hS_
           obtain ⟨Ao37, co37, eo37⟩ := Kd.R_slice HO340.out
           (first | subst eo37 | (injection eo37 with f1_ f2_ f3_; have f4_ := f1_.symm; have f5_ := f3_.symm; clear f1_ f2_ f3_; subst f4_; subst f5_))
           refine norm_ (a' := ?_) ?_ ?_
           rotate_left
           ·simp only [putAll, Act.put, lI_, l0_, lS_]
            rfl
           refine three_ (i := 4) (j := 8) (k := 9) (Ni := some 27) (Nj := some 6) (Nk := some 7) #[true, true, true, true, true, false, false, false, false, false, false, false] #[true, true, true, true, false, false, false, false, true, false, false, false] #[true, true, true, true, false, false, false, false, false, true, false, false] rfl rfl rfl rfl rfl rfl (three_of HT_.out (by kernel_rfl)) (by decide) (by decide) (by decide) (fun K hK => ?_) (fun K hK => ?_) (fun K hK => ?_)
           ·skip
            refine goes_ Try.func45 (by kernel_rfl) rfl #[.agg #[.slice Ao37 t338.length co37], .agg #[.slice Ao31 t334.length co31]] (by rfl) rfl rfl mp_ ?_
            with_reducible refine (r1_Div.calls k (fun k_ => some k_ = (.slice Ao37 t338.length co37 : Value).ownBlock) _ _ t338 _ _ t334 t341 t344 _ ?side1 ?side2 ?side3 A18.out).mono ?_
            (case side1 => exact Kd.R_V (Kd.R_tight rfl (Kd.R_types (Kd.R_types (Kd.R_types (HO340.out) BK323.out (by decide)) BK324.out (by decide)) BK337.out (by decide))))
            (case side2 => exact cs_ ((Kd.R_reads' HO336.out).2.2))
            (case side3 => exact (Kd.R_reads' HO336.out).2.1)
            rintro e w38 ⟨v342, v345, rfl, ho0, ho1, hb⟩
            refine ⟨_, rfl, ?_⟩
            have HO343 := A_ (Kd.R_lower (Kd.R_new' (Kd.R_new' (Kd.R_new' (Kd.R_mono (ok' := fun k_ => True) ho0 (fun _ hk_ => trivial)) (Kd.R_lt (kr_ HO333.out))) (Kd.R_lt (kr_ HO336.out))) (Kd.R_lt (kr_ HO340.out))) (below_size (hb3_ HB.out GE323.out GE324.out GE337.out)))
            have HO346 := A_ (Kd.V_lower (Kd.V_mono (ok' := fun k_ => some k_ ≠ (v342 : Value).ownBlock ∧ some k_ ≠ (v332 : Value).ownBlock ∧ some k_ ≠ (.slice Ao31 t334.length co31 : Value).ownBlock ∧ k_ ≠ gb323 ∧ k_ ≠ gb324 ∧ k_ ≠ gb337) ho1 (fun k_ hk_ => ⟨hk_.2, Or.elim hk_.1 (fun hs_ => ((Kd.R_types (Kd.R_types (Kd.R_types (HO340.out) BK323.out (by decide)) BK324.out (by decide)) BK337.out (by decide)).1 k_ hs_.symm).1.1.1.1) (fun hn_ => (Kd.fresh' (Kd.R_lt (kr_ HO333.out)) k_ hn_)), Or.elim hk_.1 (fun hs_ => ((Kd.R_types (Kd.R_types (Kd.R_types (HO340.out) BK323.out (by decide)) BK324.out (by decide)) BK337.out (by decide)).1 k_ hs_.symm).1.1.1.2) (fun hn_ => (Kd.fresh' (Kd.R_lt (kr_ HO336.out)) k_ hn_)), Or.elim hk_.1 (fun hs_ => ((Kd.R_types (Kd.R_types (Kd.R_types (HO340.out) BK323.out (by decide)) BK324.out (by decide)) BK337.out (by decide)).1 k_ hs_.symm).1.1.2) (fun hn_ => (Kd.freshB (g := gb323) (o := .cells #[.bool a0_0, .int .i64 a0_1, .int .i64 a0_2, .int .u64 a0_3] 30 (0, 0)) (bk_ BK323.out) k_ hn_)), Or.elim hk_.1 (fun hs_ => ((Kd.R_types (Kd.R_types (Kd.R_types (HO340.out) BK323.out (by decide)) BK324.out (by decide)) BK337.out (by decide)).1 k_ hs_.symm).1.2) (fun hn_ => (Kd.freshB (g := gb324) (o := .cells #[.slice none 0 0] 33 (0, 0)) (bk_ BK324.out) k_ hn_)), Or.elim hk_.1 (fun hs_ => ((Kd.R_types (Kd.R_types (Kd.R_types (HO340.out) BK323.out (by decide)) BK324.out (by decide)) BK337.out (by decide)).1 k_ hs_.symm).2) (fun hn_ => (Kd.freshB (g := gb337) (o := .cells #[.slice Ao31 t334.length co31] 33 (0, 0)) (bk_ BK337.out) k_ hn_))⟩)) (below_size (hb3_ HB.out GE323.out GE324.out GE337.out)))
            replace HO333 := A_ (Kd.R_elder' (kr_ HO333.out) (Kd.R_base ho0) hb)
            replace HO336 := A_ (Kd.R_elder' (kr_ HO336.out) (Kd.R_base ho0) hb)
            replace HO340 := A_ (Kd.R_elder' (kr_ HO340.out) (Kd.R_base ho0) hb)
            replace BK323 := A_ (bb_ BK323.out hb)
            replace BK324 := A_ (bb_ BK324.out hb)
            replace BK337 := A_ (bb_ BK337.out hb)
            replace HB := A_ (below_step (hb3_ HB.out GE323.out GE324.out GE337.out) hb);(try clear hb);(try clear hb2);(try clear hk);(try clear hi);(try clear ho0);(try clear ho1)
            refine hK.out _ _ ⟨bc_ BK323.out 0, bc_ BK323.out 1, bc_ BK323.out 2, bc_ BK323.out 3, bc_ BK337.out 0⟩ (fun hHeld => ?_)
            clear hK K
            refine norm_ (a' := ?_) ?_ ?_
            rotate_left
            ·show Act.put _ (some 27) _ = _
             simp only [Act.put, lI_, l0_, lS_, i64_w, i32_w]
             rfl
            refine pu_ 5 (some 22) #[true, true, true, true, true, true, false, false, false, false, false, false] rfl rfl (any_of HT_.out (by kernel_rfl)) ?_
            refine pu_ 6 (some 28) #[true, true, true, true, true, true, true, false, false, false, false, false] rfl rfl (any_of HT_.out (by kernel_rfl)) ?_
            refine pu_ 7 (some 29) #[true, true, true, true, true, true, true, true, false, false, false, false] rfl rfl (any_of HT_.out (by kernel_rfl)) ?_
            exact norm_ pa_ (hJ2_4 (.slice Ao37 t338.length co37, _, _) _ ⟨hHeld, (by (with_reducible repeat (first | apply Kd.R_alloc | apply Kd.R_drewN | apply Kd.R_drew)); exact Kd.R_mono HO333.out (fun _ hk => ⟨hk.1.1, ⟨hk.1.2, hk.2⟩⟩)), (by (with_reducible repeat (first | apply Kd.R_alloc | apply Kd.R_drewN | apply Kd.R_drew)); exact Kd.R_mono HO336.out (fun _ hk => ⟨hk.1.1, ⟨hk.1.2, hk.2⟩⟩)), (by (with_reducible repeat (first | apply Kd.R_alloc | apply Kd.R_drewN | apply Kd.R_drew)); exact Kd.R_mono HO340.out (fun _ hk => ⟨hk.1.1, ⟨hk.1.2, hk.2⟩⟩)), (by (with_reducible repeat (first | apply Kd.R_alloc | apply Kd.R_drewN | apply Kd.R_drew)); exact Kd.R_mono HO343.out (fun _ hk => ⟨hk.1.1.2, ⟨hk.1.2, hk.2⟩⟩)), (by (with_reducible repeat (first | apply Kd.V_alloc | apply Kd.V_drewN | apply Kd.V_drew)); exact Kd.V_mono HO346.out (fun _ hk => ⟨hk.2.1, ⟨hk.2.2.1, ⟨hk.1, ⟨hk.2.2.2.1, ⟨hk.2.2.2.2.1, hk.2.2.2.2.2⟩⟩⟩⟩⟩)), (bk_ BK323.out), (bk_ BK324.out), (bk_ BK337.out), (hb3_ HB.out GE323.out GE324.out GE337.out)⟩)
           ·skip
            refine box_step ?hg (N := 6) ?hd (cs := #[.slice none 0 0]) (t := 33) ?hr ?_; (case hd => rfl); (case hg => rfl); (case hr => first | (go_simp; done) | (go_simp; rfl))
            intro gb347 hg w37 hbox hb
            have BK347 := A_ (hbox)
            have GW347 := A_ (sz_ hg (hb3_ HB.out GE323.out GE324.out GE337.out))
            have GE347 := A_ (sz_ hg (hb3_ HB.out GE323.out GE324.out GE337.out))
            have NB323_347 := A_ (nl_ hg BK323.out)
            have NB347_323 := A_ (ng_ hg BK323.out)
            have NB324_347 := A_ (nl_ hg BK324.out)
            have NB347_324 := A_ (ng_ hg BK324.out)
            have NB337_347 := A_ (nl_ hg BK337.out)
            have NB347_337 := A_ (ng_ hg BK337.out)
            replace HO333 := A_ (Kd.R_below (kr_ HO333.out) hb)
            replace HO336 := A_ (Kd.R_below (kr_ HO336.out) hb)
            replace HO340 := A_ (Kd.R_below (kr_ HO340.out) hb)
            replace BK323 := A_ (bb_ BK323.out hb)
            replace BK324 := A_ (bb_ BK324.out hb)
            replace BK337 := A_ (bb_ BK337.out hb)
            replace HB := A_ (below_step (hb3_ HB.out GE323.out GE324.out GE337.out) hb);clear hb hbox hg
            refine hK.out _ _ ⟨bc_ BK323.out 0, bc_ BK323.out 1, bc_ BK323.out 2, bc_ BK323.out 3, bc_ BK337.out 0⟩ (fun hHeld => ?_)
            clear hK K
            refine norm_ (a' := ?_) ?_ ?_
            rotate_left
            ·show Act.put _ (some 6) _ = _
             simp only [Act.put, lI_, l0_, lS_, i64_w, i32_w]
             rfl
            exact norm_ pa_ (hJ2_8 (_, gb347) _ ⟨hHeld, (kr_ HO333.out), (kr_ HO336.out), (kr_ HO340.out), (bk_ BK323.out), (bk_ BK324.out), (bk_ BK337.out), (bk_ BK347.out), GW347.out, GE347.out, NB323_347.out, NB347_323.out, NB324_347.out, NB347_324.out, NB337_347.out, NB347_337.out, (hb4_ HB.out GE323.out GE324.out GE337.out GE347.out)⟩)
           ·skip
            refine box_step ?hg (N := 7) ?hd (cs := #[.slice none 0 0]) (t := 33) ?hr ?_; (case hd => rfl); (case hg => rfl); (case hr => first | (go_simp; done) | (go_simp; rfl))
            intro gb348 hg w37 hbox hb
            have BK348 := A_ (hbox)
            have GW348 := A_ (sz_ hg (hb3_ HB.out GE323.out GE324.out GE337.out))
            have GE348 := A_ (sz_ hg (hb3_ HB.out GE323.out GE324.out GE337.out))
            have NB323_348 := A_ (nl_ hg BK323.out)
            have NB348_323 := A_ (ng_ hg BK323.out)
            have NB324_348 := A_ (nl_ hg BK324.out)
            have NB348_324 := A_ (ng_ hg BK324.out)
            have NB337_348 := A_ (nl_ hg BK337.out)
            have NB348_337 := A_ (ng_ hg BK337.out)
            replace HO333 := A_ (Kd.R_below (kr_ HO333.out) hb)
            replace HO336 := A_ (Kd.R_below (kr_ HO336.out) hb)
            replace HO340 := A_ (Kd.R_below (kr_ HO340.out) hb)
            replace BK323 := A_ (bb_ BK323.out hb)
            replace BK324 := A_ (bb_ BK324.out hb)
            replace BK337 := A_ (bb_ BK337.out hb)
            replace HB := A_ (below_step (hb3_ HB.out GE323.out GE324.out GE337.out) hb);clear hb hbox hg
            refine hK.out _ _ ⟨bc_ BK323.out 0, bc_ BK323.out 1, bc_ BK323.out 2, bc_ BK323.out 3, bc_ BK337.out 0⟩ (fun hHeld => ?_)
            clear hK K
            refine norm_ (a' := ?_) ?_ ?_
            rotate_left
            ·show Act.put _ (some 7) _ = _
             simp only [Act.put, lI_, l0_, lS_, i64_w, i32_w]
             rfl
            exact norm_ pa_ (hJ2_9 (_, gb348) _ ⟨hHeld, (kr_ HO333.out), (kr_ HO336.out), (kr_ HO340.out), (bk_ BK323.out), (bk_ BK324.out), (bk_ BK337.out), (bk_ BK348.out), GW348.out, GE348.out, NB323_348.out, NB348_323.out, NB324_348.out, NB348_324.out, NB337_348.out, NB348_337.out, (hb4_ HB.out GE323.out GE324.out GE337.out GE348.out)⟩)
         ·skip
          rintro ⟨gb347, gb348⟩ w37 ⟨hS_, h0_, h1_, h2_, h3_, h4_, h5_, h6_, h7_, h8_, h9_, h10_, h11_, h12_, h13_, h14_, h15_, h16_, h17_, h18_, h19_, h20_, h21_, h22_, h23_, h24_, h25_⟩
          have n0_ : Aside0 (Kd.R (Kd.int .u64) 22 w37 w.heap.size (fun k_ => some k_ ≠ (.slice Ao31 t334.length co31 : Value).ownBlock) v332 t331) := ⟨h0_⟩
          have n1_ : Aside0 (Kd.R (Kd.int .u64) 22 w37 w.heap.size (fun k_ => some k_ ≠ (v332 : Value).ownBlock) (.slice Ao31 t334.length co31) t334) := ⟨h1_⟩
          have n2_ : Aside0 (w37.heap[gb323]? = some (.cells #[.bool a0_0, .int .i64 a0_1, .int .i64 a0_2, .int .u64 a0_3] 30 (0, 0))) := ⟨h2_⟩
          have n3_ : Aside0 (w37.heap[gb324]? = some (.cells #[.slice none 0 0] 33 (0, 0))) := ⟨h3_⟩
          have n4_ : Aside0 (w37.heap[gb337]? = some (.cells #[.slice Ao31 t334.length co31] 33 (0, 0))) := ⟨h4_⟩
          have n5_ : Aside0 (w37.heap[gb347]? = some (.cells #[.slice none 0 0] 33 (0, 0))) := ⟨h5_⟩
          have n6_ : Aside0 (w37.heap[gb348]? = some (.cells #[.slice none 0 0] 33 (0, 0))) := ⟨h6_⟩
          have n7_ : Aside0 (w.heap.size ≤ gb347) := ⟨h7_⟩
          have n8_ : Aside0 (w.heap.size ≤ gb347) := ⟨h8_⟩
          have n9_ : Aside0 (gb323 ≠ gb347) := ⟨h9_⟩
          have n10_ : Aside0 (gb347 ≠ gb323) := ⟨h10_⟩
          have n11_ : Aside0 (gb324 ≠ gb347) := ⟨h11_⟩
          have n12_ : Aside0 (gb347 ≠ gb324) := ⟨h12_⟩
          have n13_ : Aside0 (gb337 ≠ gb347) := ⟨h13_⟩
          have n14_ : Aside0 (gb347 ≠ gb337) := ⟨h14_⟩
          have n15_ : Aside0 (gb348 ≠ gb347) := ⟨h15_⟩
          have n16_ : Aside0 (gb347 ≠ gb348) := ⟨h16_⟩
          have n17_ : Aside0 (w.heap.size ≤ gb348) := ⟨h17_⟩
          have n18_ : Aside0 (w.heap.size ≤ gb348) := ⟨h18_⟩
          have n19_ : Aside0 (gb323 ≠ gb348) := ⟨h19_⟩
          have n20_ : Aside0 (gb348 ≠ gb323) := ⟨h20_⟩
          have n21_ : Aside0 (gb324 ≠ gb348) := ⟨h21_⟩
          have n22_ : Aside0 (gb348 ≠ gb324) := ⟨h22_⟩
          have n23_ : Aside0 (gb337 ≠ gb348) := ⟨h23_⟩
          have n24_ : Aside0 (gb348 ≠ gb337) := ⟨h24_⟩
          have n25_ : Aside0 (Below w.heap.size w w37) := ⟨h25_⟩
          clear HO333;clear HO336;clear BK323;clear BK324;clear BK337;clear HB;clear h0_ h1_ h2_ h3_ h4_ h5_ h6_ h7_ h8_ h9_ h10_ h11_ h12_ h13_ h14_ h15_ h16_ h17_ h18_ h19_ h20_ h21_ h22_ h23_ h24_ h25_;have HO333 := n0_;have HO336 := n1_;have BK323 := n2_;have BK324 := n3_;have BK337 := n4_;have BK347 := n5_;have BK348 := n6_;have GW347 := n7_;have GE347 := n8_;have NB323_347 := n9_;have NB347_323 := n10_;have NB324_347 := n11_;have NB347_324 := n12_;have NB337_347 := n13_;have NB347_337 := n14_;have NB348_347 := n15_;have NB347_348 := n16_;have GW348 := n17_;have GE348 := n18_;have NB323_348 := n19_;have NB348_323 := n20_;have NB324_348 := n21_;have NB348_324 := n22_;have NB337_348 := n23_;have NB348_337 := n24_;have HB := n25_;clear n0_ n1_ n2_ n3_ n4_ n5_ n6_ n7_ n8_ n9_ n10_ n11_ n12_ n13_ n14_ n15_ n16_ n17_ n18_ n19_ n20_ n21_ n22_ n23_ n24_ n25_
          have hHeld : w37.cell? ⟨gb323, 0, none⟩ = some (.bool a0_0) ∧ w37.cell? ⟨gb323, 1, none⟩ = some (.int .i64 a0_1) ∧ w37.cell? ⟨gb323, 2, none⟩ = some (.int .i64 a0_2) ∧ w37.cell? ⟨gb323, 3, none⟩ = some (.int .u64 a0_3) ∧ w37.cell? ⟨gb337, 0, none⟩ = some (.slice Ao31 t334.length co31) := hS_
          refine norm_ (a' := ?_) ?_ ?_
          rotate_left
          ·simp only [putAll, Act.put, lI_, l0_, lS_]
           rfl
          refine one_ (i := 2) (N := some 25) #[true, true, true, true, false, false, false, false, true, true, false, false] rfl rfl (one_of HT_.out (by kernel_rfl)) (by decide) (fun K hK => ?_)
          refine goes_ Try.func34 (by kernel_rfl) rfl #[.int .u64 a0_3] (by rfl) rfl rfl mp_ ?_
          with_reducible refine (r1_Of.calls k a0_3 t338 _ A17.out).mono ?_
          rintro e w38 ⟨v339, rfl, ho0, hb⟩
          refine ⟨_, rfl, ?_⟩
          have HO340 := A_ (Kd.R_lower (Kd.R_new' (Kd.R_new' ho0 (Kd.R_lt (kr_ HO333.out))) (Kd.R_lt (kr_ HO336.out))) (below_size (by repeat (first | (with_reducible first | exact HB.out | apply below_alloc | apply pw_below_drewN | apply below_drew1 | refine below_set ?_ GE323.out | refine below_set ?_ GE324.out | refine below_set ?_ GE337.out | refine below_set ?_ GE347.out | refine below_set ?_ GE348.out) | exact HB.out))))
          replace HO333 := A_ (Kd.R_elder' (kr_ HO333.out) (Kd.R_base ho0) hb)
          replace HO336 := A_ (Kd.R_elder' (kr_ HO336.out) (Kd.R_base ho0) hb)
          replace BK323 := A_ (bb_ BK323.out hb)
          replace BK324 := A_ (bb_ BK324.out hb)
          replace BK337 := A_ (bb_ BK337.out hb)
          replace BK347 := A_ (bb_ BK347.out hb)
          replace BK348 := A_ (bb_ BK348.out hb)
          replace HB := A_ (below_step (by repeat (first | (with_reducible first | exact HB.out | apply below_alloc | apply pw_below_drewN | apply below_drew1 | refine below_set ?_ GE323.out | refine below_set ?_ GE324.out | refine below_set ?_ GE337.out | refine below_set ?_ GE347.out | refine below_set ?_ GE348.out) | exact HB.out)) hb);(try clear hb);(try clear hb2);(try clear hk);(try clear hi);(try clear ho0)
          refine hK.out _ _ ⟨bc_ BK323.out 0, bc_ BK323.out 1, bc_ BK323.out 2, bc_ BK323.out 3, bc_ BK337.out 0⟩ (fun hHeld => ?_)
          clear hK K
          refine norm_ (a' := ?_) ?_ ?_
          rotate_left
          ·show Act.put _ (some 25) _ = _
           simp only [Act.put, lI_, l0_, lS_, i64_w, i32_w]
           rfl
          exact norm_ pa_ (hJ2_8_9 (_, gb347, gb348) _ ⟨hHeld, (kr_ HO333.out), (kr_ HO336.out), (by (with_reducible repeat (first | apply Kd.R_alloc | apply Kd.R_drewN | apply Kd.R_drew)); exact Kd.R_mono HO340.out (fun _ hk => ⟨hk.1.2, hk.2⟩)), (bk_ BK323.out), (bk_ BK324.out), (bk_ BK337.out), (bk_ BK347.out), (bk_ BK348.out), GW347.out, GE347.out, NB323_347.out, NB347_323.out, NB324_347.out, NB347_324.out, NB337_347.out, NB347_337.out, NB348_347.out, NB347_348.out, GW348.out, GE348.out, NB323_348.out, NB348_323.out, NB324_348.out, NB348_324.out, NB337_348.out, NB348_337.out, (by repeat (first | (with_reducible first | exact HB.out | apply below_alloc | apply pw_below_drewN | apply below_drew1 | refine below_set ?_ GE323.out | refine below_set ?_ GE324.out | refine below_set ?_ GE337.out | refine below_set ?_ GE347.out | refine below_set ?_ GE348.out) | exact HB.out))⟩)
        ·skip
         rintro ⟨v339, gb348⟩ w37 ⟨hS_, h0_, h1_, h2_, h3_, h4_, h5_, h6_, h7_, h8_, h9_, h10_, h11_, h12_, h13_, h14_, h15_⟩
         have n0_ : Aside0 (Kd.R (Kd.int .u64) 22 w37 w.heap.size (fun k_ => some k_ ≠ (.slice Ao31 t334.length co31 : Value).ownBlock ∧ some k_ ≠ (v339 : Value).ownBlock) v332 t331) := ⟨h0_⟩
         have n1_ : Aside0 (Kd.R (Kd.int .u64) 22 w37 w.heap.size (fun k_ => some k_ ≠ (v332 : Value).ownBlock ∧ some k_ ≠ (v339 : Value).ownBlock) (.slice Ao31 t334.length co31) t334) := ⟨h1_⟩
         have n2_ : Aside0 (Kd.R (Kd.int .u64) 22 w37 w.heap.size (fun k_ => some k_ ≠ (v332 : Value).ownBlock ∧ some k_ ≠ (.slice Ao31 t334.length co31 : Value).ownBlock) v339 t338) := ⟨h2_⟩
         have n3_ : Aside0 (w37.heap[gb323]? = some (.cells #[.bool a0_0, .int .i64 a0_1, .int .i64 a0_2, .int .u64 a0_3] 30 (0, 0))) := ⟨h3_⟩
         have n4_ : Aside0 (w37.heap[gb324]? = some (.cells #[.slice none 0 0] 33 (0, 0))) := ⟨h4_⟩
         have n5_ : Aside0 (w37.heap[gb337]? = some (.cells #[.slice Ao31 t334.length co31] 33 (0, 0))) := ⟨h5_⟩
         have n6_ : Aside0 (w37.heap[gb348]? = some (.cells #[.slice none 0 0] 33 (0, 0))) := ⟨h6_⟩
         have n7_ : Aside0 (w.heap.size ≤ gb348) := ⟨h7_⟩
         have n8_ : Aside0 (w.heap.size ≤ gb348) := ⟨h8_⟩
         have n9_ : Aside0 (gb323 ≠ gb348) := ⟨h9_⟩
         have n10_ : Aside0 (gb348 ≠ gb323) := ⟨h10_⟩
         have n11_ : Aside0 (gb324 ≠ gb348) := ⟨h11_⟩
         have n12_ : Aside0 (gb348 ≠ gb324) := ⟨h12_⟩
         have n13_ : Aside0 (gb337 ≠ gb348) := ⟨h13_⟩
         have n14_ : Aside0 (gb348 ≠ gb337) := ⟨h14_⟩
         have n15_ : Aside0 (Below w.heap.size w w37) := ⟨h15_⟩
         clear HO333;clear HO336;clear BK323;clear BK324;clear BK337;clear HB;clear h0_ h1_ h2_ h3_ h4_ h5_ h6_ h7_ h8_ h9_ h10_ h11_ h12_ h13_ h14_ h15_;have HO333 := n0_;have HO336 := n1_;have HO340 := n2_;have BK323 := n3_;have BK324 := n4_;have BK337 := n5_;have BK348 := n6_;have GW348 := n7_;have GE348 := n8_;have NB323_348 := n9_;have NB348_323 := n10_;have NB324_348 := n11_;have NB348_324 := n12_;have NB337_348 := n13_;have NB348_337 := n14_;have HB := n15_;clear n0_ n1_ n2_ n3_ n4_ n5_ n6_ n7_ n8_ n9_ n10_ n11_ n12_ n13_ n14_ n15_
         have hHeld : w37.cell? ⟨gb323, 0, none⟩ = some (.bool a0_0) ∧ w37.cell? ⟨gb323, 1, none⟩ = some (.int .i64 a0_1) ∧ w37.cell? ⟨gb323, 2, none⟩ = some (.int .i64 a0_2) ∧ w37.cell? ⟨gb323, 3, none⟩ = some (.int .u64 a0_3) ∧ w37.cell? ⟨gb337, 0, none⟩ = some (.slice Ao31 t334.length co31) := hS_
         obtain ⟨Ao38, co38, eo38⟩ := Kd.R_slice HO340.out
         (first | subst eo38 | (injection eo38 with f1_ f2_ f3_; have f4_ := f1_.symm; have f5_ := f3_.symm; clear f1_ f2_ f3_; subst f4_; subst f5_))
         refine norm_ (a' := ?_) ?_ ?_
         rotate_left
         ·simp only [putAll, Act.put, lI_, l0_, lS_]
          rfl
         refine two_ (i := 4) (j := 8) (Ni := some 27) (Nj := some 6) #[true, true, true, true, true, false, false, false, false, true, false, false] #[true, true, true, true, false, false, false, false, true, true, false, false] rfl rfl rfl rfl (two_of HT_.out (by kernel_rfl)) (by decide) (by decide) (fun K hK => ?_) (fun K hK => ?_)
         ·skip
          refine goes_ Try.func45 (by kernel_rfl) rfl #[.agg #[.slice Ao38 t338.length co38], .agg #[.slice Ao31 t334.length co31]] (by rfl) rfl rfl mp_ ?_
          with_reducible refine (r1_Div.calls k (fun k_ => some k_ = (.slice Ao38 t338.length co38 : Value).ownBlock) _ _ t338 _ _ t334 t341 t344 _ ?side1 ?side2 ?side3 A18.out).mono ?_
          (case side1 => exact Kd.R_V (Kd.R_tight rfl (Kd.R_types (Kd.R_types (Kd.R_types (Kd.R_types (HO340.out) BK323.out (by decide)) BK324.out (by decide)) BK337.out (by decide)) BK348.out (by decide))))
          (case side2 => exact cs_ ((Kd.R_reads' HO336.out).2.2))
          (case side3 => exact (Kd.R_reads' HO336.out).2.1)
          rintro e w39 ⟨v342, v345, rfl, ho0, ho1, hb⟩
          refine ⟨_, rfl, ?_⟩
          have HO343 := A_ (Kd.R_lower (Kd.R_new' (Kd.R_new' (Kd.R_new' (Kd.R_mono (ok' := fun k_ => True) ho0 (fun _ hk_ => trivial)) (Kd.R_lt (kr_ HO333.out))) (Kd.R_lt (kr_ HO336.out))) (Kd.R_lt (kr_ HO340.out))) (below_size (hb4_ HB.out GE323.out GE324.out GE337.out GE348.out)))
          have HO346 := A_ (Kd.V_lower (Kd.V_mono (ok' := fun k_ => some k_ ≠ (v342 : Value).ownBlock ∧ some k_ ≠ (v332 : Value).ownBlock ∧ some k_ ≠ (.slice Ao31 t334.length co31 : Value).ownBlock ∧ k_ ≠ gb323 ∧ k_ ≠ gb324 ∧ k_ ≠ gb337 ∧ k_ ≠ gb348) ho1 (fun k_ hk_ => ⟨hk_.2, Or.elim hk_.1 (fun hs_ => ((Kd.R_types (Kd.R_types (Kd.R_types (Kd.R_types (HO340.out) BK323.out (by decide)) BK324.out (by decide)) BK337.out (by decide)) BK348.out (by decide)).1 k_ hs_.symm).1.1.1.1.1) (fun hn_ => (Kd.fresh' (Kd.R_lt (kr_ HO333.out)) k_ hn_)), Or.elim hk_.1 (fun hs_ => ((Kd.R_types (Kd.R_types (Kd.R_types (Kd.R_types (HO340.out) BK323.out (by decide)) BK324.out (by decide)) BK337.out (by decide)) BK348.out (by decide)).1 k_ hs_.symm).1.1.1.1.2) (fun hn_ => (Kd.fresh' (Kd.R_lt (kr_ HO336.out)) k_ hn_)), Or.elim hk_.1 (fun hs_ => ((Kd.R_types (Kd.R_types (Kd.R_types (Kd.R_types (HO340.out) BK323.out (by decide)) BK324.out (by decide)) BK337.out (by decide)) BK348.out (by decide)).1 k_ hs_.symm).1.1.1.2) (fun hn_ => (Kd.freshB (g := gb323) (o := .cells #[.bool a0_0, .int .i64 a0_1, .int .i64 a0_2, .int .u64 a0_3] 30 (0, 0)) (bk_ BK323.out) k_ hn_)), Or.elim hk_.1 (fun hs_ => ((Kd.R_types (Kd.R_types (Kd.R_types (Kd.R_types (HO340.out) BK323.out (by decide)) BK324.out (by decide)) BK337.out (by decide)) BK348.out (by decide)).1 k_ hs_.symm).1.1.2) (fun hn_ => (Kd.freshB (g := gb324) (o := .cells #[.slice none 0 0] 33 (0, 0)) (bk_ BK324.out) k_ hn_)), Or.elim hk_.1 (fun hs_ => ((Kd.R_types (Kd.R_types (Kd.R_types (Kd.R_types (HO340.out) BK323.out (by decide)) BK324.out (by decide)) BK337.out (by decide)) BK348.out (by decide)).1 k_ hs_.symm).1.2) (fun hn_ => (Kd.freshB (g := gb337) (o := .cells #[.slice Ao31 t334.length co31] 33 (0, 0)) (bk_ BK337.out) k_ hn_)), Or.elim hk_.1 (fun hs_ => ((Kd.R_types (Kd.R_types (Kd.R_types (Kd.R_types (HO340.out) BK323.out (by decide)) BK324.out (by decide)) BK337.out (by decide)) BK348.out (by decide)).1 k_ hs_.symm).2) (fun hn_ => (Kd.freshB (g := gb348) (o := .cells #[.slice none 0 0] 33 (0, 0)) (bk_ BK348.out) k_ hn_))⟩)) (below_size (hb4_ HB.out GE323.out GE324.out GE337.out GE348.out)))
          replace HO333 := A_ (Kd.R_elder' (kr_ HO333.out) (Kd.R_base ho0) hb)
          replace HO336 := A_ (Kd.R_elder' (kr_ HO336.out) (Kd.R_base ho0) hb)
          replace HO340 := A_ (Kd.R_elder' (kr_ HO340.out) (Kd.R_base ho0) hb)
          replace BK323 := A_ (bb_ BK323.out hb)
          replace BK324 := A_ (bb_ BK324.out hb)
          replace BK337 := A_ (bb_ BK337.out hb)
          replace BK348 := A_ (bb_ BK348.out hb)
          replace HB := A_ (below_step (hb4_ HB.out GE323.out GE324.out GE337.out GE348.out) hb);(try clear hb);(try clear hb2);(try clear hk);(try clear hi);(try clear ho0);(try clear ho1)
          refine hK.out _ _ ⟨bc_ BK323.out 0, bc_ BK323.out 1, bc_ BK323.out 2, bc_ BK323.out 3, bc_ BK337.out 0⟩ (fun hHeld => ?_)
          clear hK K
          refine norm_ (a' := ?_) ?_ ?_
          rotate_left
          ·show Act.put _ (some 27) _ = _
           simp only [Act.put, lI_, l0_, lS_, i64_w, i32_w]
           rfl
          refine pu_ 5 (some 22) #[true, true, true, true, true, true, false, false, false, true, false, false] rfl rfl (any_of HT_.out (by kernel_rfl)) ?_
          refine pu_ 6 (some 28) #[true, true, true, true, true, true, true, false, false, true, false, false] rfl rfl (any_of HT_.out (by kernel_rfl)) ?_
          refine pu_ 7 (some 29) #[true, true, true, true, true, true, true, true, false, true, false, false] rfl rfl (any_of HT_.out (by kernel_rfl)) ?_
          exact norm_ pa_ (hJ2_4_9 (.slice Ao38 t338.length co38, _, _, gb348) _ ⟨hHeld, (by (with_reducible repeat (first | apply Kd.R_alloc | apply Kd.R_drewN | apply Kd.R_drew)); exact Kd.R_mono HO333.out (fun _ hk => ⟨hk.1.1, ⟨hk.1.2, hk.2⟩⟩)), (by (with_reducible repeat (first | apply Kd.R_alloc | apply Kd.R_drewN | apply Kd.R_drew)); exact Kd.R_mono HO336.out (fun _ hk => ⟨hk.1.1, ⟨hk.1.2, hk.2⟩⟩)), (by (with_reducible repeat (first | apply Kd.R_alloc | apply Kd.R_drewN | apply Kd.R_drew)); exact Kd.R_mono HO340.out (fun _ hk => ⟨hk.1.1, ⟨hk.1.2, hk.2⟩⟩)), (by (with_reducible repeat (first | apply Kd.R_alloc | apply Kd.R_drewN | apply Kd.R_drew)); exact Kd.R_mono HO343.out (fun _ hk => ⟨hk.1.1.2, ⟨hk.1.2, hk.2⟩⟩)), (by (with_reducible repeat (first | apply Kd.V_alloc | apply Kd.V_drewN | apply Kd.V_drew)); exact Kd.V_mono HO346.out (fun _ hk => ⟨hk.2.1, ⟨hk.2.2.1, ⟨hk.1, ⟨hk.2.2.2.1, ⟨hk.2.2.2.2.1, ⟨hk.2.2.2.2.2.1, hk.2.2.2.2.2.2⟩⟩⟩⟩⟩⟩)), (bk_ BK323.out), (bk_ BK324.out), (bk_ BK337.out), (bk_ BK348.out), GW348.out, GE348.out, NB323_348.out, NB348_323.out, NB324_348.out, NB348_324.out, NB337_348.out, NB348_337.out, (hb4_ HB.out GE323.out GE324.out GE337.out GE348.out)⟩)
         ·skip
          refine box_step ?hg (N := 6) ?hd (cs := #[.slice none 0 0]) (t := 33) ?hr ?_; (case hd => rfl); (case hg => rfl); (case hr => first | (go_simp; done) | (go_simp; rfl))
          intro gb347 hg w38 hbox hb
          have BK347 := A_ (hbox)
          have GW347 := A_ (sz_ hg (hb4_ HB.out GE323.out GE324.out GE337.out GE348.out))
          have GE347 := A_ (sz_ hg (hb4_ HB.out GE323.out GE324.out GE337.out GE348.out))
          have NB323_347 := A_ (nl_ hg BK323.out)
          have NB347_323 := A_ (ng_ hg BK323.out)
          have NB324_347 := A_ (nl_ hg BK324.out)
          have NB347_324 := A_ (ng_ hg BK324.out)
          have NB337_347 := A_ (nl_ hg BK337.out)
          have NB347_337 := A_ (ng_ hg BK337.out)
          have NB348_347 := A_ (nl_ hg BK348.out)
          have NB347_348 := A_ (ng_ hg BK348.out)
          replace HO333 := A_ (Kd.R_below (kr_ HO333.out) hb)
          replace HO336 := A_ (Kd.R_below (kr_ HO336.out) hb)
          replace HO340 := A_ (Kd.R_below (kr_ HO340.out) hb)
          replace BK323 := A_ (bb_ BK323.out hb)
          replace BK324 := A_ (bb_ BK324.out hb)
          replace BK337 := A_ (bb_ BK337.out hb)
          replace BK348 := A_ (bb_ BK348.out hb)
          replace HB := A_ (below_step (hb4_ HB.out GE323.out GE324.out GE337.out GE348.out) hb);clear hb hbox hg
          refine hK.out _ _ ⟨bc_ BK323.out 0, bc_ BK323.out 1, bc_ BK323.out 2, bc_ BK323.out 3, bc_ BK337.out 0⟩ (fun hHeld => ?_)
          clear hK K
          refine norm_ (a' := ?_) ?_ ?_
          rotate_left
          ·show Act.put _ (some 6) _ = _
           simp only [Act.put, lI_, l0_, lS_, i64_w, i32_w]
           rfl
          exact norm_ pa_ (hJ2_8_9 (_, gb347, gb348) _ ⟨hHeld, (kr_ HO333.out), (kr_ HO336.out), (kr_ HO340.out), (bk_ BK323.out), (bk_ BK324.out), (bk_ BK337.out), (bk_ BK347.out), (bk_ BK348.out), GW347.out, GE347.out, NB323_347.out, NB347_323.out, NB324_347.out, NB347_324.out, NB337_347.out, NB347_337.out, NB348_347.out, NB347_348.out, GW348.out, GE348.out, NB323_348.out, NB348_323.out, NB324_348.out, NB348_324.out, NB337_348.out, NB348_337.out, (by repeat (first | (with_reducible first | exact HB.out | apply below_alloc | apply pw_below_drewN | apply below_drew1 | refine below_set ?_ GE323.out | refine below_set ?_ GE324.out | refine below_set ?_ GE337.out | refine below_set ?_ GE348.out | refine below_set ?_ GE347.out) | exact HB.out))⟩)
       ·skip
        rintro ⟨v339, gb347⟩ w37 ⟨hS_, h0_, h1_, h2_, h3_, h4_, h5_, h6_, h7_, h8_, h9_, h10_, h11_, h12_, h13_, h14_, h15_⟩
        have n0_ : Aside0 (Kd.R (Kd.int .u64) 22 w37 w.heap.size (fun k_ => some k_ ≠ (.slice Ao31 t334.length co31 : Value).ownBlock ∧ some k_ ≠ (v339 : Value).ownBlock) v332 t331) := ⟨h0_⟩
        have n1_ : Aside0 (Kd.R (Kd.int .u64) 22 w37 w.heap.size (fun k_ => some k_ ≠ (v332 : Value).ownBlock ∧ some k_ ≠ (v339 : Value).ownBlock) (.slice Ao31 t334.length co31) t334) := ⟨h1_⟩
        have n2_ : Aside0 (Kd.R (Kd.int .u64) 22 w37 w.heap.size (fun k_ => some k_ ≠ (v332 : Value).ownBlock ∧ some k_ ≠ (.slice Ao31 t334.length co31 : Value).ownBlock) v339 t338) := ⟨h2_⟩
        have n3_ : Aside0 (w37.heap[gb323]? = some (.cells #[.bool a0_0, .int .i64 a0_1, .int .i64 a0_2, .int .u64 a0_3] 30 (0, 0))) := ⟨h3_⟩
        have n4_ : Aside0 (w37.heap[gb324]? = some (.cells #[.slice none 0 0] 33 (0, 0))) := ⟨h4_⟩
        have n5_ : Aside0 (w37.heap[gb337]? = some (.cells #[.slice Ao31 t334.length co31] 33 (0, 0))) := ⟨h5_⟩
        have n6_ : Aside0 (w37.heap[gb347]? = some (.cells #[.slice none 0 0] 33 (0, 0))) := ⟨h6_⟩
        have n7_ : Aside0 (w.heap.size ≤ gb347) := ⟨h7_⟩
        have n8_ : Aside0 (w.heap.size ≤ gb347) := ⟨h8_⟩
        have n9_ : Aside0 (gb323 ≠ gb347) := ⟨h9_⟩
        have n10_ : Aside0 (gb347 ≠ gb323) := ⟨h10_⟩
        have n11_ : Aside0 (gb324 ≠ gb347) := ⟨h11_⟩
        have n12_ : Aside0 (gb347 ≠ gb324) := ⟨h12_⟩
        have n13_ : Aside0 (gb337 ≠ gb347) := ⟨h13_⟩
        have n14_ : Aside0 (gb347 ≠ gb337) := ⟨h14_⟩
        have n15_ : Aside0 (Below w.heap.size w w37) := ⟨h15_⟩
        clear HO333;clear HO336;clear BK323;clear BK324;clear BK337;clear HB;clear h0_ h1_ h2_ h3_ h4_ h5_ h6_ h7_ h8_ h9_ h10_ h11_ h12_ h13_ h14_ h15_;have HO333 := n0_;have HO336 := n1_;have HO340 := n2_;have BK323 := n3_;have BK324 := n4_;have BK337 := n5_;have BK347 := n6_;have GW347 := n7_;have GE347 := n8_;have NB323_347 := n9_;have NB347_323 := n10_;have NB324_347 := n11_;have NB347_324 := n12_;have NB337_347 := n13_;have NB347_337 := n14_;have HB := n15_;clear n0_ n1_ n2_ n3_ n4_ n5_ n6_ n7_ n8_ n9_ n10_ n11_ n12_ n13_ n14_ n15_
        have hHeld : w37.cell? ⟨gb323, 0, none⟩ = some (.bool a0_0) ∧ w37.cell? ⟨gb323, 1, none⟩ = some (.int .i64 a0_1) ∧ w37.cell? ⟨gb323, 2, none⟩ = some (.int .i64 a0_2) ∧ w37.cell? ⟨gb323, 3, none⟩ = some (.int .u64 a0_3) ∧ w37.cell? ⟨gb337, 0, none⟩ = some (.slice Ao31 t334.length co31) := hS_
        obtain ⟨Ao38, co38, eo38⟩ := Kd.R_slice HO340.out
        (first | subst eo38 | (injection eo38 with f1_ f2_ f3_; have f4_ := f1_.symm; have f5_ := f3_.symm; clear f1_ f2_ f3_; subst f4_; subst f5_))
        refine norm_ (a' := ?_) ?_ ?_
        rotate_left
        ·simp only [putAll, Act.put, lI_, l0_, lS_]
         rfl
        refine two_ (i := 4) (j := 9) (Ni := some 27) (Nj := some 7) #[true, true, true, true, true, false, false, false, true, false, false, false] #[true, true, true, true, false, false, false, false, true, true, false, false] rfl rfl rfl rfl (two_of HT_.out (by kernel_rfl)) (by decide) (by decide) (fun K hK => ?_) (fun K hK => ?_)
        ·skip
         refine goes_ Try.func45 (by kernel_rfl) rfl #[.agg #[.slice Ao38 t338.length co38], .agg #[.slice Ao31 t334.length co31]] (by rfl) rfl rfl mp_ ?_
         with_reducible refine (r1_Div.calls k (fun k_ => some k_ = (.slice Ao38 t338.length co38 : Value).ownBlock) _ _ t338 _ _ t334 t341 t344 _ ?side1 ?side2 ?side3 A18.out).mono ?_
         (case side1 => exact Kd.R_V (Kd.R_tight rfl (Kd.R_types (Kd.R_types (Kd.R_types (Kd.R_types (HO340.out) BK323.out (by decide)) BK324.out (by decide)) BK337.out (by decide)) BK347.out (by decide))))
         (case side2 => exact cs_ ((Kd.R_reads' HO336.out).2.2))
         (case side3 => exact (Kd.R_reads' HO336.out).2.1)
         rintro e w39 ⟨v342, v345, rfl, ho0, ho1, hb⟩
         refine ⟨_, rfl, ?_⟩
         have HO343 := A_ (Kd.R_lower (Kd.R_new' (Kd.R_new' (Kd.R_new' (Kd.R_mono (ok' := fun k_ => True) ho0 (fun _ hk_ => trivial)) (Kd.R_lt (kr_ HO333.out))) (Kd.R_lt (kr_ HO336.out))) (Kd.R_lt (kr_ HO340.out))) (below_size (hb4_ HB.out GE323.out GE324.out GE337.out GE347.out)))
         have HO346 := A_ (Kd.V_lower (Kd.V_mono (ok' := fun k_ => some k_ ≠ (v342 : Value).ownBlock ∧ some k_ ≠ (v332 : Value).ownBlock ∧ some k_ ≠ (.slice Ao31 t334.length co31 : Value).ownBlock ∧ k_ ≠ gb323 ∧ k_ ≠ gb324 ∧ k_ ≠ gb337 ∧ k_ ≠ gb347) ho1 (fun k_ hk_ => ⟨hk_.2, Or.elim hk_.1 (fun hs_ => ((Kd.R_types (Kd.R_types (Kd.R_types (Kd.R_types (HO340.out) BK323.out (by decide)) BK324.out (by decide)) BK337.out (by decide)) BK347.out (by decide)).1 k_ hs_.symm).1.1.1.1.1) (fun hn_ => (Kd.fresh' (Kd.R_lt (kr_ HO333.out)) k_ hn_)), Or.elim hk_.1 (fun hs_ => ((Kd.R_types (Kd.R_types (Kd.R_types (Kd.R_types (HO340.out) BK323.out (by decide)) BK324.out (by decide)) BK337.out (by decide)) BK347.out (by decide)).1 k_ hs_.symm).1.1.1.1.2) (fun hn_ => (Kd.fresh' (Kd.R_lt (kr_ HO336.out)) k_ hn_)), Or.elim hk_.1 (fun hs_ => ((Kd.R_types (Kd.R_types (Kd.R_types (Kd.R_types (HO340.out) BK323.out (by decide)) BK324.out (by decide)) BK337.out (by decide)) BK347.out (by decide)).1 k_ hs_.symm).1.1.1.2) (fun hn_ => (Kd.freshB (g := gb323) (o := .cells #[.bool a0_0, .int .i64 a0_1, .int .i64 a0_2, .int .u64 a0_3] 30 (0, 0)) (bk_ BK323.out) k_ hn_)), Or.elim hk_.1 (fun hs_ => ((Kd.R_types (Kd.R_types (Kd.R_types (Kd.R_types (HO340.out) BK323.out (by decide)) BK324.out (by decide)) BK337.out (by decide)) BK347.out (by decide)).1 k_ hs_.symm).1.1.2) (fun hn_ => (Kd.freshB (g := gb324) (o := .cells #[.slice none 0 0] 33 (0, 0)) (bk_ BK324.out) k_ hn_)), Or.elim hk_.1 (fun hs_ => ((Kd.R_types (Kd.R_types (Kd.R_types (Kd.R_types (HO340.out) BK323.out (by decide)) BK324.out (by decide)) BK337.out (by decide)) BK347.out (by decide)).1 k_ hs_.symm).1.2) (fun hn_ => (Kd.freshB (g := gb337) (o := .cells #[.slice Ao31 t334.length co31] 33 (0, 0)) (bk_ BK337.out) k_ hn_)), Or.elim hk_.1 (fun hs_ => ((Kd.R_types (Kd.R_types (Kd.R_types (Kd.R_types (HO340.out) BK323.out (by decide)) BK324.out (by decide)) BK337.out (by decide)) BK347.out (by decide)).1 k_ hs_.symm).2) (fun hn_ => (Kd.freshB (g := gb347) (o := .cells #[.slice none 0 0] 33 (0, 0)) (bk_ BK347.out) k_ hn_))⟩)) (below_size (hb4_ HB.out GE323.out GE324.out GE337.out GE347.out)))
         replace HO333 := A_ (Kd.R_elder' (kr_ HO333.out) (Kd.R_base ho0) hb)
         replace HO336 := A_ (Kd.R_elder' (kr_ HO336.out) (Kd.R_base ho0) hb)
         replace HO340 := A_ (Kd.R_elder' (kr_ HO340.out) (Kd.R_base ho0) hb)
         replace BK323 := A_ (bb_ BK323.out hb)
         replace BK324 := A_ (bb_ BK324.out hb)
         replace BK337 := A_ (bb_ BK337.out hb)
         replace BK347 := A_ (bb_ BK347.out hb)
         replace HB := A_ (below_step (hb4_ HB.out GE323.out GE324.out GE337.out GE347.out) hb);(try clear hb);(try clear hb2);(try clear hk);(try clear hi);(try clear ho0);(try clear ho1)
         refine hK.out _ _ ⟨bc_ BK323.out 0, bc_ BK323.out 1, bc_ BK323.out 2, bc_ BK323.out 3, bc_ BK337.out 0⟩ (fun hHeld => ?_)
         clear hK K
         refine norm_ (a' := ?_) ?_ ?_
         rotate_left
         ·show Act.put _ (some 27) _ = _
          simp only [Act.put, lI_, l0_, lS_, i64_w, i32_w]
          rfl
         refine pu_ 5 (some 22) #[true, true, true, true, true, true, false, false, true, false, false, false] rfl rfl (any_of HT_.out (by kernel_rfl)) ?_
         refine pu_ 6 (some 28) #[true, true, true, true, true, true, true, false, true, false, false, false] rfl rfl (any_of HT_.out (by kernel_rfl)) ?_
         refine pu_ 7 (some 29) #[true, true, true, true, true, true, true, true, true, false, false, false] rfl rfl (any_of HT_.out (by kernel_rfl)) ?_
         exact norm_ pa_ (hJ2_4_8 (.slice Ao38 t338.length co38, _, _, gb347) _ ⟨hHeld, (by (with_reducible repeat (first | apply Kd.R_alloc | apply Kd.R_drewN | apply Kd.R_drew)); exact Kd.R_mono HO333.out (fun _ hk => ⟨hk.1.1, ⟨hk.1.2, hk.2⟩⟩)), (by (with_reducible repeat (first | apply Kd.R_alloc | apply Kd.R_drewN | apply Kd.R_drew)); exact Kd.R_mono HO336.out (fun _ hk => ⟨hk.1.1, ⟨hk.1.2, hk.2⟩⟩)), (by (with_reducible repeat (first | apply Kd.R_alloc | apply Kd.R_drewN | apply Kd.R_drew)); exact Kd.R_mono HO340.out (fun _ hk => ⟨hk.1.1, ⟨hk.1.2, hk.2⟩⟩)), (by (with_reducible repeat (first | apply Kd.R_alloc | apply Kd.R_drewN | apply Kd.R_drew)); exact Kd.R_mono HO343.out (fun _ hk => ⟨hk.1.1.2, ⟨hk.1.2, hk.2⟩⟩)), (by (with_reducible repeat (first | apply Kd.V_alloc | apply Kd.V_drewN | apply Kd.V_drew)); exact Kd.V_mono HO346.out (fun _ hk => ⟨hk.2.1, ⟨hk.2.2.1, ⟨hk.1, ⟨hk.2.2.2.1, ⟨hk.2.2.2.2.1, ⟨hk.2.2.2.2.2.1, hk.2.2.2.2.2.2⟩⟩⟩⟩⟩⟩)), (bk_ BK323.out), (bk_ BK324.out), (bk_ BK337.out), (bk_ BK347.out), GW347.out, GE347.out, NB323_347.out, NB347_323.out, NB324_347.out, NB347_324.out, NB337_347.out, NB347_337.out, (hb4_ HB.out GE323.out GE324.out GE337.out GE347.out)⟩)
        ·skip
         refine box_step ?hg (N := 7) ?hd (cs := #[.slice none 0 0]) (t := 33) ?hr ?_; (case hd => rfl); (case hg => rfl); (case hr => first | (go_simp; done) | (go_simp; rfl))
         intro gb348 hg w38 hbox hb
         have BK348 := A_ (hbox)
         have GW348 := A_ (sz_ hg (hb4_ HB.out GE323.out GE324.out GE337.out GE347.out))
         have GE348 := A_ (sz_ hg (hb4_ HB.out GE323.out GE324.out GE337.out GE347.out))
         have NB323_348 := A_ (nl_ hg BK323.out)
         have NB348_323 := A_ (ng_ hg BK323.out)
         have NB324_348 := A_ (nl_ hg BK324.out)
         have NB348_324 := A_ (ng_ hg BK324.out)
         have NB337_348 := A_ (nl_ hg BK337.out)
         have NB348_337 := A_ (ng_ hg BK337.out)
         have NB347_348 := A_ (nl_ hg BK347.out)
         have NB348_347 := A_ (ng_ hg BK347.out)
         replace HO333 := A_ (Kd.R_below (kr_ HO333.out) hb)
         replace HO336 := A_ (Kd.R_below (kr_ HO336.out) hb)
         replace HO340 := A_ (Kd.R_below (kr_ HO340.out) hb)
         replace BK323 := A_ (bb_ BK323.out hb)
         replace BK324 := A_ (bb_ BK324.out hb)
         replace BK337 := A_ (bb_ BK337.out hb)
         replace BK347 := A_ (bb_ BK347.out hb)
         replace HB := A_ (below_step (hb4_ HB.out GE323.out GE324.out GE337.out GE347.out) hb);clear hb hbox hg
         refine hK.out _ _ ⟨bc_ BK323.out 0, bc_ BK323.out 1, bc_ BK323.out 2, bc_ BK323.out 3, bc_ BK337.out 0⟩ (fun hHeld => ?_)
         clear hK K
         refine norm_ (a' := ?_) ?_ ?_
         rotate_left
         ·show Act.put _ (some 7) _ = _
          simp only [Act.put, lI_, l0_, lS_, i64_w, i32_w]
          rfl
         exact norm_ pa_ (hJ2_8_9 (_, gb347, gb348) _ ⟨hHeld, (kr_ HO333.out), (kr_ HO336.out), (kr_ HO340.out), (bk_ BK323.out), (bk_ BK324.out), (bk_ BK337.out), (bk_ BK347.out), (bk_ BK348.out), GW347.out, GE347.out, NB323_347.out, NB347_323.out, NB324_347.out, NB347_324.out, NB337_347.out, NB347_337.out, NB348_347.out, NB347_348.out, GW348.out, GE348.out, NB323_348.out, NB348_323.out, NB324_348.out, NB348_324.out, NB337_348.out, NB348_337.out, (by repeat (first | (with_reducible first | exact HB.out | apply below_alloc | apply pw_below_drewN | apply below_drew1 | refine below_set ?_ GE323.out | refine below_set ?_ GE324.out | refine below_set ?_ GE337.out | refine below_set ?_ GE347.out | refine below_set ?_ GE348.out) | exact HB.out))⟩)
      ·skip
       rintro ⟨v339, v342, v345⟩ w38 ⟨hS_, h0_, h1_, h2_, h3_, h4_, h5_, h6_, h7_, h8_⟩
       have n0_ : Aside0 (Kd.R (Kd.int .u64) 22 w38 w.heap.size (fun k_ => some k_ ≠ (.slice Ao31 t334.length co31 : Value).ownBlock ∧ some k_ ≠ (v339 : Value).ownBlock ∧ some k_ ≠ (v342 : Value).ownBlock) v332 t331) := ⟨h0_⟩
       have n1_ : Aside0 (Kd.R (Kd.int .u64) 22 w38 w.heap.size (fun k_ => some k_ ≠ (v332 : Value).ownBlock ∧ some k_ ≠ (v339 : Value).ownBlock ∧ some k_ ≠ (v342 : Value).ownBlock) (.slice Ao31 t334.length co31) t334) := ⟨h1_⟩
       have n2_ : Aside0 (Kd.R (Kd.int .u64) 22 w38 w.heap.size (fun k_ => some k_ ≠ (v332 : Value).ownBlock ∧ some k_ ≠ (.slice Ao31 t334.length co31 : Value).ownBlock ∧ some k_ ≠ (v342 : Value).ownBlock) v339 t338) := ⟨h2_⟩
       have n3_ : Aside0 (Kd.R (Kd.int .u64) 22 w38 w.heap.size (fun k_ => some k_ ≠ (v332 : Value).ownBlock ∧ some k_ ≠ (.slice Ao31 t334.length co31 : Value).ownBlock ∧ some k_ ≠ (v339 : Value).ownBlock) v342 t341) := ⟨h3_⟩
       have n4_ : Aside0 (Kd.V (Kd.int .u64) 22 w38 w.heap.size (fun k_ => some k_ ≠ (v332 : Value).ownBlock ∧ some k_ ≠ (.slice Ao31 t334.length co31 : Value).ownBlock ∧ some k_ ≠ (v342 : Value).ownBlock ∧ k_ ≠ gb323 ∧ k_ ≠ gb324 ∧ k_ ≠ gb337) v345 t344) := ⟨h4_⟩
       have n5_ : Aside0 (w38.heap[gb323]? = some (.cells #[.bool a0_0, .int .i64 a0_1, .int .i64 a0_2, .int .u64 a0_3] 30 (0, 0))) := ⟨h5_⟩
       have n6_ : Aside0 (w38.heap[gb324]? = some (.cells #[.slice none 0 0] 33 (0, 0))) := ⟨h6_⟩
       have n7_ : Aside0 (w38.heap[gb337]? = some (.cells #[.slice Ao31 t334.length co31] 33 (0, 0))) := ⟨h7_⟩
       have n8_ : Aside0 (Below w.heap.size w w38) := ⟨h8_⟩
       clear HO333;clear HO336;clear BK323;clear BK324;clear BK337;clear HB;clear h0_ h1_ h2_ h3_ h4_ h5_ h6_ h7_ h8_;have HO333 := n0_;have HO336 := n1_;have HO340 := n2_;have HO343 := n3_;have HO346 := n4_;have BK323 := n5_;have BK324 := n6_;have BK337 := n7_;have HB := n8_;clear n0_ n1_ n2_ n3_ n4_ n5_ n6_ n7_ n8_
       have hHeld : w38.cell? ⟨gb323, 0, none⟩ = some (.bool a0_0) ∧ w38.cell? ⟨gb323, 1, none⟩ = some (.int .i64 a0_1) ∧ w38.cell? ⟨gb323, 2, none⟩ = some (.int .i64 a0_2) ∧ w38.cell? ⟨gb323, 3, none⟩ = some (.int .u64 a0_3) ∧ w38.cell? ⟨gb337, 0, none⟩ = some (.slice Ao31 t334.length co31) := hS_
       refine norm_ (a' := ?_) ?_ ?_
       rotate_left
       ·simp only [putAll, Act.put, lI_, l0_, lS_]
        rfl
       refine two_ (i := 8) (j := 9) (Ni := some 6) (Nj := some 7) #[true, true, true, true, true, true, true, true, true, false, false, false] #[true, true, true, true, true, true, true, true, false, true, false, false] rfl rfl rfl rfl (two_of HT_.out (by kernel_rfl)) (by decide) (by decide) (fun K hK => ?_) (fun K hK => ?_)
       ·skip
        refine box_step ?hg (N := 6) ?hd (cs := #[.slice none 0 0]) (t := 33) ?hr ?_; (case hd => rfl); (case hg => rfl); (case hr => first | (go_simp; done) | (go_simp; rfl))
        intro gb347 hg w39 hbox hb
        have BK347 := A_ (hbox)
        have GW347 := A_ (sz_ hg (hb3_ HB.out GE323.out GE324.out GE337.out))
        have GE347 := A_ (sz_ hg (hb3_ HB.out GE323.out GE324.out GE337.out))
        have NB323_347 := A_ (nl_ hg BK323.out)
        have NB347_323 := A_ (ng_ hg BK323.out)
        have NB324_347 := A_ (nl_ hg BK324.out)
        have NB347_324 := A_ (ng_ hg BK324.out)
        have NB337_347 := A_ (nl_ hg BK337.out)
        have NB347_337 := A_ (ng_ hg BK337.out)
        replace HO333 := A_ (Kd.R_below (kr_ HO333.out) hb)
        replace HO336 := A_ (Kd.R_below (kr_ HO336.out) hb)
        replace HO340 := A_ (Kd.R_below (kr_ HO340.out) hb)
        replace HO343 := A_ (Kd.R_below (kr_ HO343.out) hb)
        replace HO346 := A_ (Kd.V_below (Kd.V_elderB (kv_ HO346.out) gb347 (Nat.le_of_eq hg.symm)) hb)
        replace BK323 := A_ (bb_ BK323.out hb)
        replace BK324 := A_ (bb_ BK324.out hb)
        replace BK337 := A_ (bb_ BK337.out hb)
        replace HB := A_ (below_step (hb3_ HB.out GE323.out GE324.out GE337.out) hb);clear hb hbox hg
        refine hK.out _ _ ⟨bc_ BK323.out 0, bc_ BK323.out 1, bc_ BK323.out 2, bc_ BK323.out 3, bc_ BK337.out 0⟩ (fun hHeld => ?_)
        clear hK K
        refine norm_ (a' := ?_) ?_ ?_
        rotate_left
        ·show Act.put _ (some 6) _ = _
         simp only [Act.put, lI_, l0_, lS_, i64_w, i32_w]
         rfl
        exact norm_ pa_ (hJ2_4_8 (_, _, _, gb347) _ ⟨hHeld, (kr_ HO333.out), (kr_ HO336.out), (kr_ HO340.out), (kr_ HO343.out), (by (with_reducible repeat (first | apply Kd.V_alloc | apply Kd.V_drewN | apply Kd.V_drew)); exact Kd.V_mono HO346.out (fun _ hk => ⟨hk.1.1, ⟨hk.1.2.1, ⟨hk.1.2.2.1, ⟨hk.1.2.2.2.1, ⟨hk.1.2.2.2.2.1, ⟨hk.1.2.2.2.2.2, hk.2⟩⟩⟩⟩⟩⟩)), (bk_ BK323.out), (bk_ BK324.out), (bk_ BK337.out), (bk_ BK347.out), GW347.out, GE347.out, NB323_347.out, NB347_323.out, NB324_347.out, NB347_324.out, NB337_347.out, NB347_337.out, (hb4_ HB.out GE323.out GE324.out GE337.out GE347.out)⟩)
       ·skip
        refine box_step ?hg (N := 7) ?hd (cs := #[.slice none 0 0]) (t := 33) ?hr ?_; (case hd => rfl); (case hg => rfl); (case hr => first | (go_simp; done) | (go_simp; rfl))
        intro gb348 hg w39 hbox hb
        have BK348 := A_ (hbox)
        have GW348 := A_ (sz_ hg (hb3_ HB.out GE323.out GE324.out GE337.out))
        have GE348 := A_ (sz_ hg (hb3_ HB.out GE323.out GE324.out GE337.out))
        have NB323_348 := A_ (nl_ hg BK323.out)
        have NB348_323 := A_ (ng_ hg BK323.out)
        have NB324_348 := A_ (nl_ hg BK324.out)
        have NB348_324 := A_ (ng_ hg BK324.out)
        have NB337_348 := A_ (nl_ hg BK337.out)
        have NB348_337 := A_ (ng_ hg BK337.out)
        replace HO333 := A_ (Kd.R_below (kr_ HO333.out) hb)
        replace HO336 := A_ (Kd.R_below (kr_ HO336.out) hb)
        replace HO340 := A_ (Kd.R_below (kr_ HO340.out) hb)
        replace HO343 := A_ (Kd.R_below (kr_ HO343.out) hb)
        replace HO346 := A_ (Kd.V_below (Kd.V_elderB (kv_ HO346.out) gb348 (Nat.le_of_eq hg.symm)) hb)
        replace BK323 := A_ (bb_ BK323.out hb)
        replace BK324 := A_ (bb_ BK324.out hb)
        replace BK337 := A_ (bb_ BK337.out hb)
        replace HB := A_ (below_step (hb3_ HB.out GE323.out GE324.out GE337.out) hb);clear hb hbox hg
        refine hK.out _ _ ⟨bc_ BK323.out 0, bc_ BK323.out 1, bc_ BK323.out 2, bc_ BK323.out 3, bc_ BK337.out 0⟩ (fun hHeld => ?_)
        clear hK K
        refine norm_ (a' := ?_) ?_ ?_
        rotate_left
        ·show Act.put _ (some 7) _ = _
         simp only [Act.put, lI_, l0_, lS_, i64_w, i32_w]
         rfl
        exact norm_ pa_ (hJ2_4_9 (_, _, _, gb348) _ ⟨hHeld, (kr_ HO333.out), (kr_ HO336.out), (kr_ HO340.out), (kr_ HO343.out), (by (with_reducible repeat (first | apply Kd.V_alloc | apply Kd.V_drewN | apply Kd.V_drew)); exact Kd.V_mono HO346.out (fun _ hk => ⟨hk.1.1, ⟨hk.1.2.1, ⟨hk.1.2.2.1, ⟨hk.1.2.2.2.1, ⟨hk.1.2.2.2.2.1, ⟨hk.1.2.2.2.2.2, hk.2⟩⟩⟩⟩⟩⟩)), (bk_ BK323.out), (bk_ BK324.out), (bk_ BK337.out), (bk_ BK348.out), GW348.out, GE348.out, NB323_348.out, NB348_323.out, NB324_348.out, NB348_324.out, NB337_348.out, NB348_337.out, (hb4_ HB.out GE323.out GE324.out GE337.out GE348.out)⟩)
     ·skip
      rintro ⟨v339, gb347, gb348⟩ w38 ⟨hS_, h0_, h1_, h2_, h3_, h4_, h5_, h6_, h7_, h8_, h9_, h10_, h11_, h12_, h13_, h14_, h15_, h16_, h17_, h18_, h19_, h20_, h21_, h22_, h23_, h24_, h25_, h26_⟩
      have n0_ : Aside0 (Kd.R (Kd.int .u64) 22 w38 w.heap.size (fun k_ => some k_ ≠ (.slice Ao31 t334.length co31 : Value).ownBlock ∧ some k_ ≠ (v339 : Value).ownBlock) v332 t331) := ⟨h0_⟩
      have n1_ : Aside0 (Kd.R (Kd.int .u64) 22 w38 w.heap.size (fun k_ => some k_ ≠ (v332 : Value).ownBlock ∧ some k_ ≠ (v339 : Value).ownBlock) (.slice Ao31 t334.length co31) t334) := ⟨h1_⟩
      have n2_ : Aside0 (Kd.R (Kd.int .u64) 22 w38 w.heap.size (fun k_ => some k_ ≠ (v332 : Value).ownBlock ∧ some k_ ≠ (.slice Ao31 t334.length co31 : Value).ownBlock) v339 t338) := ⟨h2_⟩
      have n3_ : Aside0 (w38.heap[gb323]? = some (.cells #[.bool a0_0, .int .i64 a0_1, .int .i64 a0_2, .int .u64 a0_3] 30 (0, 0))) := ⟨h3_⟩
      have n4_ : Aside0 (w38.heap[gb324]? = some (.cells #[.slice none 0 0] 33 (0, 0))) := ⟨h4_⟩
      have n5_ : Aside0 (w38.heap[gb337]? = some (.cells #[.slice Ao31 t334.length co31] 33 (0, 0))) := ⟨h5_⟩
      have n6_ : Aside0 (w38.heap[gb347]? = some (.cells #[.slice none 0 0] 33 (0, 0))) := ⟨h6_⟩
      have n7_ : Aside0 (w38.heap[gb348]? = some (.cells #[.slice none 0 0] 33 (0, 0))) := ⟨h7_⟩
      have n8_ : Aside0 (w.heap.size ≤ gb347) := ⟨h8_⟩
      have n9_ : Aside0 (w.heap.size ≤ gb347) := ⟨h9_⟩
      have n10_ : Aside0 (gb323 ≠ gb347) := ⟨h10_⟩
      have n11_ : Aside0 (gb347 ≠ gb323) := ⟨h11_⟩
      have n12_ : Aside0 (gb324 ≠ gb347) := ⟨h12_⟩
      have n13_ : Aside0 (gb347 ≠ gb324) := ⟨h13_⟩
      have n14_ : Aside0 (gb337 ≠ gb347) := ⟨h14_⟩
      have n15_ : Aside0 (gb347 ≠ gb337) := ⟨h15_⟩
      have n16_ : Aside0 (gb348 ≠ gb347) := ⟨h16_⟩
      have n17_ : Aside0 (gb347 ≠ gb348) := ⟨h17_⟩
      have n18_ : Aside0 (w.heap.size ≤ gb348) := ⟨h18_⟩
      have n19_ : Aside0 (w.heap.size ≤ gb348) := ⟨h19_⟩
      have n20_ : Aside0 (gb323 ≠ gb348) := ⟨h20_⟩
      have n21_ : Aside0 (gb348 ≠ gb323) := ⟨h21_⟩
      have n22_ : Aside0 (gb324 ≠ gb348) := ⟨h22_⟩
      have n23_ : Aside0 (gb348 ≠ gb324) := ⟨h23_⟩
      have n24_ : Aside0 (gb337 ≠ gb348) := ⟨h24_⟩
      have n25_ : Aside0 (gb348 ≠ gb337) := ⟨h25_⟩
      have n26_ : Aside0 (Below w.heap.size w w38) := ⟨h26_⟩
      clear HO333;clear HO336;clear BK323;clear BK324;clear BK337;clear HB;clear h0_ h1_ h2_ h3_ h4_ h5_ h6_ h7_ h8_ h9_ h10_ h11_ h12_ h13_ h14_ h15_ h16_ h17_ h18_ h19_ h20_ h21_ h22_ h23_ h24_ h25_ h26_;have HO333 := n0_;have HO336 := n1_;have HO340 := n2_;have BK323 := n3_;have BK324 := n4_;have BK337 := n5_;have BK347 := n6_;have BK348 := n7_;have GW347 := n8_;have GE347 := n9_;have NB323_347 := n10_;have NB347_323 := n11_;have NB324_347 := n12_;have NB347_324 := n13_;have NB337_347 := n14_;have NB347_337 := n15_;have NB348_347 := n16_;have NB347_348 := n17_;have GW348 := n18_;have GE348 := n19_;have NB323_348 := n20_;have NB348_323 := n21_;have NB324_348 := n22_;have NB348_324 := n23_;have NB337_348 := n24_;have NB348_337 := n25_;have HB := n26_;clear n0_ n1_ n2_ n3_ n4_ n5_ n6_ n7_ n8_ n9_ n10_ n11_ n12_ n13_ n14_ n15_ n16_ n17_ n18_ n19_ n20_ n21_ n22_ n23_ n24_ n25_ n26_
      have hHeld : w38.cell? ⟨gb323, 0, none⟩ = some (.bool a0_0) ∧ w38.cell? ⟨gb323, 1, none⟩ = some (.int .i64 a0_1) ∧ w38.cell? ⟨gb323, 2, none⟩ = some (.int .i64 a0_2) ∧ w38.cell? ⟨gb323, 3, none⟩ = some (.int .u64 a0_3) ∧ w38.cell? ⟨gb337, 0, none⟩ = some (.slice Ao31 t334.length co31) := hS_
      obtain ⟨Ao39, co39, eo39⟩ := Kd.R_slice HO340.out
      (first | subst eo39 | (injection eo39 with f1_ f2_ f3_; have f4_ := f1_.symm; have f5_ := f3_.symm; clear f1_ f2_ f3_; subst f4_; subst f5_))
      refine norm_ (a' := ?_) ?_ ?_
      rotate_left
      ·simp only [putAll, Act.put, lI_, l0_, lS_]
       rfl
      refine one_ (i := 4) (N := some 27) #[true, true, true, true, true, false, false, false, true, true, false, false] rfl rfl (one_of HT_.out (by kernel_rfl)) (by decide) (fun K hK => ?_)
      refine goes_ Try.func45 (by kernel_rfl) rfl #[.agg #[.slice Ao39 t338.length co39], .agg #[.slice Ao31 t334.length co31]] (by rfl) rfl rfl mp_ ?_
      with_reducible refine (r1_Div.calls k (fun k_ => some k_ = (.slice Ao39 t338.length co39 : Value).ownBlock) _ _ t338 _ _ t334 t341 t344 _ ?side1 ?side2 ?side3 A18.out).mono ?_
      (case side1 => exact Kd.R_V (Kd.R_tight rfl (Kd.R_types (Kd.R_types (Kd.R_types (Kd.R_types (Kd.R_types (HO340.out) BK323.out (by decide)) BK324.out (by decide)) BK337.out (by decide)) BK347.out (by decide)) BK348.out (by decide))))
      (case side2 => exact cs_ ((Kd.R_reads' HO336.out).2.2))
      (case side3 => exact (Kd.R_reads' HO336.out).2.1)
      rintro e w40 ⟨v342, v345, rfl, ho0, ho1, hb⟩
      refine ⟨_, rfl, ?_⟩
      have HO343 := A_ (Kd.R_lower (Kd.R_new' (Kd.R_new' (Kd.R_new' (Kd.R_mono (ok' := fun k_ => True) ho0 (fun _ hk_ => trivial)) (Kd.R_lt (kr_ HO333.out))) (Kd.R_lt (kr_ HO336.out))) (Kd.R_lt (kr_ HO340.out))) (below_size (by repeat (first | (with_reducible first | exact HB.out | apply below_alloc | apply pw_below_drewN | apply below_drew1 | refine below_set ?_ GE323.out | refine below_set ?_ GE324.out | refine below_set ?_ GE337.out | refine below_set ?_ GE347.out | refine below_set ?_ GE348.out) | exact HB.out))))
      have HO346 := A_ (Kd.V_lower (Kd.V_mono (ok' := fun k_ => some k_ ≠ (v342 : Value).ownBlock ∧ some k_ ≠ (v332 : Value).ownBlock ∧ some k_ ≠ (.slice Ao31 t334.length co31 : Value).ownBlock ∧ k_ ≠ gb323 ∧ k_ ≠ gb324 ∧ k_ ≠ gb337 ∧ k_ ≠ gb347 ∧ k_ ≠ gb348) ho1 (fun k_ hk_ => ⟨hk_.2, Or.elim hk_.1 (fun hs_ => ((Kd.R_types (Kd.R_types (Kd.R_types (Kd.R_types (Kd.R_types (HO340.out) BK323.out (by decide)) BK324.out (by decide)) BK337.out (by decide)) BK347.out (by decide)) BK348.out (by decide)).1 k_ hs_.symm).1.1.1.1.1.1) (fun hn_ => (Kd.fresh' (Kd.R_lt (kr_ HO333.out)) k_ hn_)), Or.elim hk_.1 (fun hs_ => ((Kd.R_types (Kd.R_types (Kd.R_types (Kd.R_types (Kd.R_types (HO340.out) BK323.out (by decide)) BK324.out (by decide)) BK337.out (by decide)) BK347.out (by decide)) BK348.out (by decide)).1 k_ hs_.symm).1.1.1.1.1.2) (fun hn_ => (Kd.fresh' (Kd.R_lt (kr_ HO336.out)) k_ hn_)), Or.elim hk_.1 (fun hs_ => ((Kd.R_types (Kd.R_types (Kd.R_types (Kd.R_types (Kd.R_types (HO340.out) BK323.out (by decide)) BK324.out (by decide)) BK337.out (by decide)) BK347.out (by decide)) BK348.out (by decide)).1 k_ hs_.symm).1.1.1.1.2) (fun hn_ => (Kd.freshB (g := gb323) (o := .cells #[.bool a0_0, .int .i64 a0_1, .int .i64 a0_2, .int .u64 a0_3] 30 (0, 0)) (bk_ BK323.out) k_ hn_)), Or.elim hk_.1 (fun hs_ => ((Kd.R_types (Kd.R_types (Kd.R_types (Kd.R_types (Kd.R_types (HO340.out) BK323.out (by decide)) BK324.out (by decide)) BK337.out (by decide)) BK347.out (by decide)) BK348.out (by decide)).1 k_ hs_.symm).1.1.1.2) (fun hn_ => (Kd.freshB (g := gb324) (o := .cells #[.slice none 0 0] 33 (0, 0)) (bk_ BK324.out) k_ hn_)), Or.elim hk_.1 (fun hs_ => ((Kd.R_types (Kd.R_types (Kd.R_types (Kd.R_types (Kd.R_types (HO340.out) BK323.out (by decide)) BK324.out (by decide)) BK337.out (by decide)) BK347.out (by decide)) BK348.out (by decide)).1 k_ hs_.symm).1.1.2) (fun hn_ => (Kd.freshB (g := gb337) (o := .cells #[.slice Ao31 t334.length co31] 33 (0, 0)) (bk_ BK337.out) k_ hn_)), Or.elim hk_.1 (fun hs_ => ((Kd.R_types (Kd.R_types (Kd.R_types (Kd.R_types (Kd.R_types (HO340.out) BK323.out (by decide)) BK324.out (by decide)) BK337.out (by decide)) BK347.out (by decide)) BK348.out (by decide)).1 k_ hs_.symm).1.2) (fun hn_ => (Kd.freshB (g := gb347) (o := .cells #[.slice none 0 0] 33 (0, 0)) (bk_ BK347.out) k_ hn_)), Or.elim hk_.1 (fun hs_ => ((Kd.R_types (Kd.R_types (Kd.R_types (Kd.R_types (Kd.R_types (HO340.out) BK323.out (by decide)) BK324.out (by decide)) BK337.out (by decide)) BK347.out (by decide)) BK348.out (by decide)).1 k_ hs_.symm).2) (fun hn_ => (Kd.freshB (g := gb348) (o := .cells #[.slice none 0 0] 33 (0, 0)) (bk_ BK348.out) k_ hn_))⟩)) (below_size (by repeat (first | (with_reducible first | exact HB.out | apply below_alloc | apply pw_below_drewN | apply below_drew1 | refine below_set ?_ GE323.out | refine below_set ?_ GE324.out | refine below_set ?_ GE337.out | refine below_set ?_ GE347.out | refine below_set ?_ GE348.out) | exact HB.out))))
      replace HO333 := A_ (Kd.R_elder' (kr_ HO333.out) (Kd.R_base ho0) hb)
      replace HO336 := A_ (Kd.R_elder' (kr_ HO336.out) (Kd.R_base ho0) hb)
      replace HO340 := A_ (Kd.R_elder' (kr_ HO340.out) (Kd.R_base ho0) hb)
      replace BK323 := A_ (bb_ BK323.out hb)
      replace BK324 := A_ (bb_ BK324.out hb)
      replace BK337 := A_ (bb_ BK337.out hb)
      replace BK347 := A_ (bb_ BK347.out hb)
      replace BK348 := A_ (bb_ BK348.out hb)
      replace HB := A_ (below_step (by repeat (first | (with_reducible first | exact HB.out | apply below_alloc | apply pw_below_drewN | apply below_drew1 | refine below_set ?_ GE323.out | refine below_set ?_ GE324.out | refine below_set ?_ GE337.out | refine below_set ?_ GE347.out | refine below_set ?_ GE348.out) | exact HB.out)) hb);(try clear hb);(try clear hb2);(try clear hk);(try clear hi);(try clear ho0);(try clear ho1)
      refine hK.out _ _ ⟨bc_ BK323.out 0, bc_ BK323.out 1, bc_ BK323.out 2, bc_ BK323.out 3, bc_ BK337.out 0⟩ (fun hHeld => ?_)
      clear hK K
      refine norm_ (a' := ?_) ?_ ?_
      rotate_left
      ·show Act.put _ (some 27) _ = _
       simp only [Act.put, lI_, l0_, lS_, i64_w, i32_w]
       rfl
      refine pu_ 5 (some 22) #[true, true, true, true, true, true, false, false, true, true, false, false] rfl rfl (any_of HT_.out (by kernel_rfl)) ?_
      refine pu_ 6 (some 28) #[true, true, true, true, true, true, true, false, true, true, false, false] rfl rfl (any_of HT_.out (by kernel_rfl)) ?_
      refine pu_ 7 (some 29) #[true, true, true, true, true, true, true, true, true, true, false, false] rfl rfl (any_of HT_.out (by kernel_rfl)) ?_
      exact norm_ pa_ (hJ2_4_8_9 (.slice Ao39 t338.length co39, _, _, gb347, gb348) _ ⟨hHeld, (by (with_reducible repeat (first | apply Kd.R_alloc | apply Kd.R_drewN | apply Kd.R_drew)); exact Kd.R_mono HO333.out (fun _ hk => ⟨hk.1.1, ⟨hk.1.2, hk.2⟩⟩)), (by (with_reducible repeat (first | apply Kd.R_alloc | apply Kd.R_drewN | apply Kd.R_drew)); exact Kd.R_mono HO336.out (fun _ hk => ⟨hk.1.1, ⟨hk.1.2, hk.2⟩⟩)), (by (with_reducible repeat (first | apply Kd.R_alloc | apply Kd.R_drewN | apply Kd.R_drew)); exact Kd.R_mono HO340.out (fun _ hk => ⟨hk.1.1, ⟨hk.1.2, hk.2⟩⟩)), (by (with_reducible repeat (first | apply Kd.R_alloc | apply Kd.R_drewN | apply Kd.R_drew)); exact Kd.R_mono HO343.out (fun _ hk => ⟨hk.1.1.2, ⟨hk.1.2, hk.2⟩⟩)), (by (with_reducible repeat (first | apply Kd.V_alloc | apply Kd.V_drewN | apply Kd.V_drew)); exact Kd.V_mono HO346.out (fun _ hk => ⟨hk.2.1, ⟨hk.2.2.1, ⟨hk.1, ⟨hk.2.2.2.1, ⟨hk.2.2.2.2.1, ⟨hk.2.2.2.2.2.1, ⟨hk.2.2.2.2.2.2.1, hk.2.2.2.2.2.2.2⟩⟩⟩⟩⟩⟩⟩)), (bk_ BK323.out), (bk_ BK324.out), (bk_ BK337.out), (bk_ BK347.out), (bk_ BK348.out), GW347.out, GE347.out, NB323_347.out, NB347_323.out, NB324_347.out, NB347_324.out, NB337_347.out, NB347_337.out, NB348_347.out, NB347_348.out, GW348.out, GE348.out, NB323_348.out, NB348_323.out, NB324_348.out, NB348_324.out, NB337_348.out, NB348_337.out, (by repeat (first | (with_reducible first | exact HB.out | apply below_alloc | apply pw_below_drewN | apply below_drew1 | refine below_set ?_ GE323.out | refine below_set ?_ GE324.out | refine below_set ?_ GE337.out | refine below_set ?_ GE347.out | refine below_set ?_ GE348.out) | exact HB.out))⟩)
    ·skip
     rintro ⟨v339, v342, v345, gb348⟩ w39 ⟨hS_, h0_, h1_, h2_, h3_, h4_, h5_, h6_, h7_, h8_, h9_, h10_, h11_, h12_, h13_, h14_, h15_, h16_, h17_⟩
     have n0_ : Aside0 (Kd.R (Kd.int .u64) 22 w39 w.heap.size (fun k_ => some k_ ≠ (.slice Ao31 t334.length co31 : Value).ownBlock ∧ some k_ ≠ (v339 : Value).ownBlock ∧ some k_ ≠ (v342 : Value).ownBlock) v332 t331) := ⟨h0_⟩
     have n1_ : Aside0 (Kd.R (Kd.int .u64) 22 w39 w.heap.size (fun k_ => some k_ ≠ (v332 : Value).ownBlock ∧ some k_ ≠ (v339 : Value).ownBlock ∧ some k_ ≠ (v342 : Value).ownBlock) (.slice Ao31 t334.length co31) t334) := ⟨h1_⟩
     have n2_ : Aside0 (Kd.R (Kd.int .u64) 22 w39 w.heap.size (fun k_ => some k_ ≠ (v332 : Value).ownBlock ∧ some k_ ≠ (.slice Ao31 t334.length co31 : Value).ownBlock ∧ some k_ ≠ (v342 : Value).ownBlock) v339 t338) := ⟨h2_⟩
     have n3_ : Aside0 (Kd.R (Kd.int .u64) 22 w39 w.heap.size (fun k_ => some k_ ≠ (v332 : Value).ownBlock ∧ some k_ ≠ (.slice Ao31 t334.length co31 : Value).ownBlock ∧ some k_ ≠ (v339 : Value).ownBlock) v342 t341) := ⟨h3_⟩
     have n4_ : Aside0 (Kd.V (Kd.int .u64) 22 w39 w.heap.size (fun k_ => some k_ ≠ (v332 : Value).ownBlock ∧ some k_ ≠ (.slice Ao31 t334.length co31 : Value).ownBlock ∧ some k_ ≠ (v342 : Value).ownBlock ∧ k_ ≠ gb323 ∧ k_ ≠ gb324 ∧ k_ ≠ gb337 ∧ k_ ≠ gb348) v345 t344) := ⟨h4_⟩
     have n5_ : Aside0 (w39.heap[gb323]? = some (.cells #[.bool a0_0, .int .i64 a0_1, .int .i64 a0_2, .int .u64 a0_3] 30 (0, 0))) := ⟨h5_⟩
     have n6_ : Aside0 (w39.heap[gb324]? = some (.cells #[.slice none 0 0] 33 (0, 0))) := ⟨h6_⟩
     have n7_ : Aside0 (w39.heap[gb337]? = some (.cells #[.slice Ao31 t334.length co31] 33 (0, 0))) := ⟨h7_⟩
     have n8_ : Aside0 (w39.heap[gb348]? = some (.cells #[.slice none 0 0] 33 (0, 0))) := ⟨h8_⟩
     have n9_ : Aside0 (w.heap.size ≤ gb348) := ⟨h9_⟩
     have n10_ : Aside0 (w.heap.size ≤ gb348) := ⟨h10_⟩
     have n11_ : Aside0 (gb323 ≠ gb348) := ⟨h11_⟩
     have n12_ : Aside0 (gb348 ≠ gb323) := ⟨h12_⟩
     have n13_ : Aside0 (gb324 ≠ gb348) := ⟨h13_⟩
     have n14_ : Aside0 (gb348 ≠ gb324) := ⟨h14_⟩
     have n15_ : Aside0 (gb337 ≠ gb348) := ⟨h15_⟩
     have n16_ : Aside0 (gb348 ≠ gb337) := ⟨h16_⟩
     have n17_ : Aside0 (Below w.heap.size w w39) := ⟨h17_⟩
     clear HO333;clear HO336;clear BK323;clear BK324;clear BK337;clear HB;clear h0_ h1_ h2_ h3_ h4_ h5_ h6_ h7_ h8_ h9_ h10_ h11_ h12_ h13_ h14_ h15_ h16_ h17_;have HO333 := n0_;have HO336 := n1_;have HO340 := n2_;have HO343 := n3_;have HO346 := n4_;have BK323 := n5_;have BK324 := n6_;have BK337 := n7_;have BK348 := n8_;have GW348 := n9_;have GE348 := n10_;have NB323_348 := n11_;have NB348_323 := n12_;have NB324_348 := n13_;have NB348_324 := n14_;have NB337_348 := n15_;have NB348_337 := n16_;have HB := n17_;clear n0_ n1_ n2_ n3_ n4_ n5_ n6_ n7_ n8_ n9_ n10_ n11_ n12_ n13_ n14_ n15_ n16_ n17_
     have hHeld : w39.cell? ⟨gb323, 0, none⟩ = some (.bool a0_0) ∧ w39.cell? ⟨gb323, 1, none⟩ = some (.int .i64 a0_1) ∧ w39.cell? ⟨gb323, 2, none⟩ = some (.int .i64 a0_2) ∧ w39.cell? ⟨gb323, 3, none⟩ = some (.int .u64 a0_3) ∧ w39.cell? ⟨gb337, 0, none⟩ = some (.slice Ao31 t334.length co31) := hS_
     refine norm_ (a' := ?_) ?_ ?_
     rotate_left
     ·simp only [putAll, Act.put, lI_, l0_, lS_]
      rfl
     refine one_ (i := 8) (N := some 6) #[true, true, true, true, true, true, true, true, true, true, false, false] rfl rfl (one_of HT_.out (by kernel_rfl)) (by decide) (fun K hK => ?_)
     refine box_step ?hg (N := 6) ?hd (cs := #[.slice none 0 0]) (t := 33) ?hr ?_; (case hd => rfl); (case hg => rfl); (case hr => first | (go_simp; done) | (go_simp; rfl))
     intro gb347 hg w40 hbox hb
     have BK347 := A_ (hbox)
     have GW347 := A_ (sz_ hg (hb4_ HB.out GE323.out GE324.out GE337.out GE348.out))
     have GE347 := A_ (sz_ hg (hb4_ HB.out GE323.out GE324.out GE337.out GE348.out))
     have NB323_347 := A_ (nl_ hg BK323.out)
     have NB347_323 := A_ (ng_ hg BK323.out)
     have NB324_347 := A_ (nl_ hg BK324.out)
     have NB347_324 := A_ (ng_ hg BK324.out)
     have NB337_347 := A_ (nl_ hg BK337.out)
     have NB347_337 := A_ (ng_ hg BK337.out)
     have NB348_347 := A_ (nl_ hg BK348.out)
     have NB347_348 := A_ (ng_ hg BK348.out)
     replace HO333 := A_ (Kd.R_below (kr_ HO333.out) hb)
     replace HO336 := A_ (Kd.R_below (kr_ HO336.out) hb)
     replace HO340 := A_ (Kd.R_below (kr_ HO340.out) hb)
     replace HO343 := A_ (Kd.R_below (kr_ HO343.out) hb)
     replace HO346 := A_ (Kd.V_below (Kd.V_elderB (kv_ HO346.out) gb347 (Nat.le_of_eq hg.symm)) hb)
     replace BK323 := A_ (bb_ BK323.out hb)
     replace BK324 := A_ (bb_ BK324.out hb)
     replace BK337 := A_ (bb_ BK337.out hb)
     replace BK348 := A_ (bb_ BK348.out hb)
     replace HB := A_ (below_step (hb4_ HB.out GE323.out GE324.out GE337.out GE348.out) hb);clear hb hbox hg
     refine hK.out _ _ ⟨bc_ BK323.out 0, bc_ BK323.out 1, bc_ BK323.out 2, bc_ BK323.out 3, bc_ BK337.out 0⟩ (fun hHeld => ?_)
     clear hK K
     refine norm_ (a' := ?_) ?_ ?_
     rotate_left
     ·show Act.put _ (some 6) _ = _
      simp only [Act.put, lI_, l0_, lS_, i64_w, i32_w]
      rfl
     exact norm_ pa_ (hJ2_4_8_9 (_, _, _, gb347, gb348) _ ⟨hHeld, (kr_ HO333.out), (kr_ HO336.out), (kr_ HO340.out), (kr_ HO343.out), (by (with_reducible repeat (first | apply Kd.V_alloc | apply Kd.V_drewN | apply Kd.V_drew)); exact Kd.V_mono HO346.out (fun _ hk => ⟨hk.1.1, ⟨hk.1.2.1, ⟨hk.1.2.2.1, ⟨hk.1.2.2.2.1, ⟨hk.1.2.2.2.2.1, ⟨hk.1.2.2.2.2.2.1, ⟨hk.2, hk.1.2.2.2.2.2.2⟩⟩⟩⟩⟩⟩⟩)), (bk_ BK323.out), (bk_ BK324.out), (bk_ BK337.out), (bk_ BK347.out), (bk_ BK348.out), GW347.out, GE347.out, NB323_347.out, NB347_323.out, NB324_347.out, NB347_324.out, NB337_347.out, NB347_337.out, NB348_347.out, NB347_348.out, GW348.out, GE348.out, NB323_348.out, NB348_323.out, NB324_348.out, NB348_324.out, NB337_348.out, NB348_337.out, (by repeat (first | (with_reducible first | exact HB.out | apply below_alloc | apply pw_below_drewN | apply below_drew1 | refine below_set ?_ GE323.out | refine below_set ?_ GE324.out | refine below_set ?_ GE337.out | refine below_set ?_ GE348.out | refine below_set ?_ GE347.out) | exact HB.out))⟩)
   ·skip
    rintro ⟨v339, v342, v345, gb347⟩ w39 ⟨hS_, h0_, h1_, h2_, h3_, h4_, h5_, h6_, h7_, h8_, h9_, h10_, h11_, h12_, h13_, h14_, h15_, h16_, h17_⟩
    have n0_ : Aside0 (Kd.R (Kd.int .u64) 22 w39 w.heap.size (fun k_ => some k_ ≠ (.slice Ao31 t334.length co31 : Value).ownBlock ∧ some k_ ≠ (v339 : Value).ownBlock ∧ some k_ ≠ (v342 : Value).ownBlock) v332 t331) := ⟨h0_⟩
    have n1_ : Aside0 (Kd.R (Kd.int .u64) 22 w39 w.heap.size (fun k_ => some k_ ≠ (v332 : Value).ownBlock ∧ some k_ ≠ (v339 : Value).ownBlock ∧ some k_ ≠ (v342 : Value).ownBlock) (.slice Ao31 t334.length co31) t334) := ⟨h1_⟩
    have n2_ : Aside0 (Kd.R (Kd.int .u64) 22 w39 w.heap.size (fun k_ => some k_ ≠ (v332 : Value).ownBlock ∧ some k_ ≠ (.slice Ao31 t334.length co31 : Value).ownBlock ∧ some k_ ≠ (v342 : Value).ownBlock) v339 t338) := ⟨h2_⟩
    have n3_ : Aside0 (Kd.R (Kd.int .u64) 22 w39 w.heap.size (fun k_ => some k_ ≠ (v332 : Value).ownBlock ∧ some k_ ≠ (.slice Ao31 t334.length co31 : Value).ownBlock ∧ some k_ ≠ (v339 : Value).ownBlock) v342 t341) := ⟨h3_⟩
    have n4_ : Aside0 (Kd.V (Kd.int .u64) 22 w39 w.heap.size (fun k_ => some k_ ≠ (v332 : Value).ownBlock ∧ some k_ ≠ (.slice Ao31 t334.length co31 : Value).ownBlock ∧ some k_ ≠ (v342 : Value).ownBlock ∧ k_ ≠ gb323 ∧ k_ ≠ gb324 ∧ k_ ≠ gb337 ∧ k_ ≠ gb347) v345 t344) := ⟨h4_⟩
    have n5_ : Aside0 (w39.heap[gb323]? = some (.cells #[.bool a0_0, .int .i64 a0_1, .int .i64 a0_2, .int .u64 a0_3] 30 (0, 0))) := ⟨h5_⟩
    have n6_ : Aside0 (w39.heap[gb324]? = some (.cells #[.slice none 0 0] 33 (0, 0))) := ⟨h6_⟩
    have n7_ : Aside0 (w39.heap[gb337]? = some (.cells #[.slice Ao31 t334.length co31] 33 (0, 0))) := ⟨h7_⟩
    have n8_ : Aside0 (w39.heap[gb347]? = some (.cells #[.slice none 0 0] 33 (0, 0))) := ⟨h8_⟩
    have n9_ : Aside0 (w.heap.size ≤ gb347) := ⟨h9_⟩
    have n10_ : Aside0 (w.heap.size ≤ gb347) := ⟨h10_⟩
    have n11_ : Aside0 (gb323 ≠ gb347) := ⟨h11_⟩
    have n12_ : Aside0 (gb347 ≠ gb323) := ⟨h12_⟩
    have n13_ : Aside0 (gb324 ≠ gb347) := ⟨h13_⟩
    have n14_ : Aside0 (gb347 ≠ gb324) := ⟨h14_⟩
    have n15_ : Aside0 (gb337 ≠ gb347) := ⟨h15_⟩
    have n16_ : Aside0 (gb347 ≠ gb337) := ⟨h16_⟩
    have n17_ : Aside0 (Below w.heap.size w w39) := ⟨h17_⟩
    clear HO333;clear HO336;clear BK323;clear BK324;clear BK337;clear HB;clear h0_ h1_ h2_ h3_ h4_ h5_ h6_ h7_ h8_ h9_ h10_ h11_ h12_ h13_ h14_ h15_ h16_ h17_;have HO333 := n0_;have HO336 := n1_;have HO340 := n2_;have HO343 := n3_;have HO346 := n4_;have BK323 := n5_;have BK324 := n6_;have BK337 := n7_;have BK347 := n8_;have GW347 := n9_;have GE347 := n10_;have NB323_347 := n11_;have NB347_323 := n12_;have NB324_347 := n13_;have NB347_324 := n14_;have NB337_347 := n15_;have NB347_337 := n16_;have HB := n17_;clear n0_ n1_ n2_ n3_ n4_ n5_ n6_ n7_ n8_ n9_ n10_ n11_ n12_ n13_ n14_ n15_ n16_ n17_
    have hHeld : w39.cell? ⟨gb323, 0, none⟩ = some (.bool a0_0) ∧ w39.cell? ⟨gb323, 1, none⟩ = some (.int .i64 a0_1) ∧ w39.cell? ⟨gb323, 2, none⟩ = some (.int .i64 a0_2) ∧ w39.cell? ⟨gb323, 3, none⟩ = some (.int .u64 a0_3) ∧ w39.cell? ⟨gb337, 0, none⟩ = some (.slice Ao31 t334.length co31) := hS_
    refine norm_ (a' := ?_) ?_ ?_
    rotate_left
    ·simp only [putAll, Act.put, lI_, l0_, lS_]
     rfl
    refine one_ (i := 9) (N := some 7) #[true, true, true, true, true, true, true, true, true, true, false, false] rfl rfl (one_of HT_.out (by kernel_rfl)) (by decide) (fun K hK => ?_)
    refine box_step ?hg (N := 7) ?hd (cs := #[.slice none 0 0]) (t := 33) ?hr ?_; (case hd => rfl); (case hg => rfl); (case hr => first | (go_simp; done) | (go_simp; rfl))
    intro gb348 hg w40 hbox hb
    have BK348 := A_ (hbox)
    have GW348 := A_ (sz_ hg (hb4_ HB.out GE323.out GE324.out GE337.out GE347.out))
    have GE348 := A_ (sz_ hg (hb4_ HB.out GE323.out GE324.out GE337.out GE347.out))
    have NB323_348 := A_ (nl_ hg BK323.out)
    have NB348_323 := A_ (ng_ hg BK323.out)
    have NB324_348 := A_ (nl_ hg BK324.out)
    have NB348_324 := A_ (ng_ hg BK324.out)
    have NB337_348 := A_ (nl_ hg BK337.out)
    have NB348_337 := A_ (ng_ hg BK337.out)
    have NB347_348 := A_ (nl_ hg BK347.out)
    have NB348_347 := A_ (ng_ hg BK347.out)
    replace HO333 := A_ (Kd.R_below (kr_ HO333.out) hb)
    replace HO336 := A_ (Kd.R_below (kr_ HO336.out) hb)
    replace HO340 := A_ (Kd.R_below (kr_ HO340.out) hb)
    replace HO343 := A_ (Kd.R_below (kr_ HO343.out) hb)
    replace HO346 := A_ (Kd.V_below (Kd.V_elderB (kv_ HO346.out) gb348 (Nat.le_of_eq hg.symm)) hb)
    replace BK323 := A_ (bb_ BK323.out hb)
    replace BK324 := A_ (bb_ BK324.out hb)
    replace BK337 := A_ (bb_ BK337.out hb)
    replace BK347 := A_ (bb_ BK347.out hb)
    replace HB := A_ (below_step (hb4_ HB.out GE323.out GE324.out GE337.out GE347.out) hb);clear hb hbox hg
    refine hK.out _ _ ⟨bc_ BK323.out 0, bc_ BK323.out 1, bc_ BK323.out 2, bc_ BK323.out 3, bc_ BK337.out 0⟩ (fun hHeld => ?_)
    clear hK K
    refine norm_ (a' := ?_) ?_ ?_
    rotate_left
    ·show Act.put _ (some 7) _ = _
     simp only [Act.put, lI_, l0_, lS_, i64_w, i32_w]
     rfl
    exact norm_ pa_ (hJ2_4_8_9 (_, _, _, gb347, gb348) _ ⟨hHeld, (kr_ HO333.out), (kr_ HO336.out), (kr_ HO340.out), (kr_ HO343.out), (by (with_reducible repeat (first | apply Kd.V_alloc | apply Kd.V_drewN | apply Kd.V_drew)); exact Kd.V_mono HO346.out (fun _ hk => ⟨hk.1.1, ⟨hk.1.2.1, ⟨hk.1.2.2.1, ⟨hk.1.2.2.2.1, ⟨hk.1.2.2.2.2.1, ⟨hk.1.2.2.2.2.2.1, ⟨hk.1.2.2.2.2.2.2, hk.2⟩⟩⟩⟩⟩⟩⟩)), (bk_ BK323.out), (bk_ BK324.out), (bk_ BK337.out), (bk_ BK347.out), (bk_ BK348.out), GW347.out, GE347.out, NB323_347.out, NB347_323.out, NB324_347.out, NB347_324.out, NB337_347.out, NB347_337.out, NB348_347.out, NB347_348.out, GW348.out, GE348.out, NB323_348.out, NB348_323.out, NB324_348.out, NB348_324.out, NB337_348.out, NB348_337.out, (by repeat (first | (with_reducible first | exact HB.out | apply below_alloc | apply pw_below_drewN | apply below_drew1 | refine below_set ?_ GE323.out | refine below_set ?_ GE324.out | refine below_set ?_ GE337.out | refine below_set ?_ GE347.out | refine below_set ?_ GE348.out) | exact HB.out))⟩)
  rintro ⟨v339, v342, v345, gb347, gb348⟩ w40 ⟨hS_, h0_, h1_, h2_, h3_, h4_, h5_, h6_, h7_, h8_, h9_, h10_, h11_, h12_, h13_, h14_, h15_, h16_, h17_, h18_, h19_, h20_, h21_, h22_, h23_, h24_, h25_, h26_, h27_, h28_⟩
  have n0_ : Aside0 (Kd.R (Kd.int .u64) 22 w40 w.heap.size (fun k_ => some k_ ≠ (.slice Ao31 t334.length co31 : Value).ownBlock ∧ some k_ ≠ (v339 : Value).ownBlock ∧ some k_ ≠ (v342 : Value).ownBlock) v332 t331) := ⟨h0_⟩
  have n1_ : Aside0 (Kd.R (Kd.int .u64) 22 w40 w.heap.size (fun k_ => some k_ ≠ (v332 : Value).ownBlock ∧ some k_ ≠ (v339 : Value).ownBlock ∧ some k_ ≠ (v342 : Value).ownBlock) (.slice Ao31 t334.length co31) t334) := ⟨h1_⟩
  have n2_ : Aside0 (Kd.R (Kd.int .u64) 22 w40 w.heap.size (fun k_ => some k_ ≠ (v332 : Value).ownBlock ∧ some k_ ≠ (.slice Ao31 t334.length co31 : Value).ownBlock ∧ some k_ ≠ (v342 : Value).ownBlock) v339 t338) := ⟨h2_⟩
  have n3_ : Aside0 (Kd.R (Kd.int .u64) 22 w40 w.heap.size (fun k_ => some k_ ≠ (v332 : Value).ownBlock ∧ some k_ ≠ (.slice Ao31 t334.length co31 : Value).ownBlock ∧ some k_ ≠ (v339 : Value).ownBlock) v342 t341) := ⟨h3_⟩
  have n4_ : Aside0 (Kd.V (Kd.int .u64) 22 w40 w.heap.size (fun k_ => some k_ ≠ (v332 : Value).ownBlock ∧ some k_ ≠ (.slice Ao31 t334.length co31 : Value).ownBlock ∧ some k_ ≠ (v342 : Value).ownBlock ∧ k_ ≠ gb323 ∧ k_ ≠ gb324 ∧ k_ ≠ gb337 ∧ k_ ≠ gb347 ∧ k_ ≠ gb348) v345 t344) := ⟨h4_⟩
  have n5_ : Aside0 (w40.heap[gb323]? = some (.cells #[.bool a0_0, .int .i64 a0_1, .int .i64 a0_2, .int .u64 a0_3] 30 (0, 0))) := ⟨h5_⟩
  have n6_ : Aside0 (w40.heap[gb324]? = some (.cells #[.slice none 0 0] 33 (0, 0))) := ⟨h6_⟩
  have n7_ : Aside0 (w40.heap[gb337]? = some (.cells #[.slice Ao31 t334.length co31] 33 (0, 0))) := ⟨h7_⟩
  have n8_ : Aside0 (w40.heap[gb347]? = some (.cells #[.slice none 0 0] 33 (0, 0))) := ⟨h8_⟩
  have n9_ : Aside0 (w40.heap[gb348]? = some (.cells #[.slice none 0 0] 33 (0, 0))) := ⟨h9_⟩
  have n10_ : Aside0 (w.heap.size ≤ gb347) := ⟨h10_⟩
  have n11_ : Aside0 (w.heap.size ≤ gb347) := ⟨h11_⟩
  have n12_ : Aside0 (gb323 ≠ gb347) := ⟨h12_⟩
  have n13_ : Aside0 (gb347 ≠ gb323) := ⟨h13_⟩
  have n14_ : Aside0 (gb324 ≠ gb347) := ⟨h14_⟩
  have n15_ : Aside0 (gb347 ≠ gb324) := ⟨h15_⟩
  have n16_ : Aside0 (gb337 ≠ gb347) := ⟨h16_⟩
  have n17_ : Aside0 (gb347 ≠ gb337) := ⟨h17_⟩
  have n18_ : Aside0 (gb348 ≠ gb347) := ⟨h18_⟩
  have n19_ : Aside0 (gb347 ≠ gb348) := ⟨h19_⟩
  have n20_ : Aside0 (w.heap.size ≤ gb348) := ⟨h20_⟩
  have n21_ : Aside0 (w.heap.size ≤ gb348) := ⟨h21_⟩
  have n22_ : Aside0 (gb323 ≠ gb348) := ⟨h22_⟩
  have n23_ : Aside0 (gb348 ≠ gb323) := ⟨h23_⟩
  have n24_ : Aside0 (gb324 ≠ gb348) := ⟨h24_⟩
  have n25_ : Aside0 (gb348 ≠ gb324) := ⟨h25_⟩
  have n26_ : Aside0 (gb337 ≠ gb348) := ⟨h26_⟩
  have n27_ : Aside0 (gb348 ≠ gb337) := ⟨h27_⟩
  have n28_ : Aside0 (Below w.heap.size w w40) := ⟨h28_⟩
  clear HO333;clear HO336;clear BK323;clear BK324;clear BK337;clear HB;clear h0_ h1_ h2_ h3_ h4_ h5_ h6_ h7_ h8_ h9_ h10_ h11_ h12_ h13_ h14_ h15_ h16_ h17_ h18_ h19_ h20_ h21_ h22_ h23_ h24_ h25_ h26_ h27_ h28_;have HO333 := n0_;have HO336 := n1_;have HO340 := n2_;have HO343 := n3_;have HO346 := n4_;have BK323 := n5_;have BK324 := n6_;have BK337 := n7_;have BK347 := n8_;have BK348 := n9_;have GW347 := n10_;have GE347 := n11_;have NB323_347 := n12_;have NB347_323 := n13_;have NB324_347 := n14_;have NB347_324 := n15_;have NB337_347 := n16_;have NB347_337 := n17_;have NB348_347 := n18_;have NB347_348 := n19_;have GW348 := n20_;have GE348 := n21_;have NB323_348 := n22_;have NB348_323 := n23_;have NB324_348 := n24_;have NB348_324 := n25_;have NB337_348 := n26_;have NB348_337 := n27_;have HB := n28_;clear n0_ n1_ n2_ n3_ n4_ n5_ n6_ n7_ n8_ n9_ n10_ n11_ n12_ n13_ n14_ n15_ n16_ n17_ n18_ n19_ n20_ n21_ n22_ n23_ n24_ n25_ n26_ n27_ n28_
  have hHeld : w40.cell? ⟨gb323, 0, none⟩ = some (.bool a0_0) ∧ w40.cell? ⟨gb323, 1, none⟩ = some (.int .i64 a0_1) ∧ w40.cell? ⟨gb323, 2, none⟩ = some (.int .i64 a0_2) ∧ w40.cell? ⟨gb323, 3, none⟩ = some (.int .u64 a0_3) ∧ w40.cell? ⟨gb337, 0, none⟩ = some (.slice Ao31 t334.length co31) := hS_
  obtain ⟨Ao41, co41, eo41⟩ := Kd.R_slice HO343.out
  (first | subst eo41 | (injection eo41 with f1_ f2_ f3_; have f4_ := f1_.symm; have f5_ := f3_.symm; clear f1_ f2_ f3_; subst f4_; subst f5_))
  obtain ⟨Ao43, co43, eo43⟩ := Kd.V_slice HO346.out
  (first | subst eo43 | (injection eo43 with f1_ f2_ f3_; have f4_ := f1_.symm; have f5_ := f3_.symm; clear f1_ f2_ f3_; subst f4_; subst f5_))
  refine norm_ (a' := ?_) ?_ ?_
  rotate_left
  ·simp only [putAll, Act.put, lI_, l0_, lS_]
   rfl
  refine one_ (i := 10) (N := none) #[true, true, true, true, true, true, true, true, true, true, true, false] rfl rfl (one_of HT_.out (by kernel_rfl)) (by decide) (fun K hK => ?_)
  have hs42 : w40.cell? ⟨gb347, 0, none⟩ = some (.slice none 0 0) := bc_ BK347.out 0
  have hfs42 := blk_frozen BK347.out 0
  have hns42_0 := NB323_347.out
  have hns42_1 := NB324_347.out
  have hns42_2 := NB337_347.out
  have hns42_4 := NB348_347.out
  have hms42_0 := NB347_323.out
  have hms42_1 := NB347_324.out
  have hms42_2 := NB347_337.out
  have hms42_4 := NB347_348.out
  refine skip_ (w1 := ?_) (by rfl) rfl ?_ ?_
  rotate_left
  ·go_simp
   rfl
  refine hK.out _ _ ⟨((cell_far (p := ⟨gb347, _, none⟩) NB323_347.out _).trans (hHeld.1)), ((cell_far (p := ⟨gb347, _, none⟩) NB323_347.out _).trans (hHeld.2.1)), ((cell_far (p := ⟨gb347, _, none⟩) NB323_347.out _).trans (hHeld.2.2.1)), ((cell_far (p := ⟨gb347, _, none⟩) NB323_347.out _).trans (hHeld.2.2.2.1)), ((cell_far (p := ⟨gb347, _, none⟩) NB337_347.out _).trans (hHeld.2.2.2.2))⟩ (fun hHeld => ?_)
  clear hK K
  refine one_ (i := 11) (N := none) #[true, true, true, true, true, true, true, true, true, true, true, true] rfl rfl (one_of HT_.out (by kernel_rfl)) (by decide) (fun K hK => ?_)
  have hs44 : w40.cell? ⟨gb348, 0, none⟩ = some (.slice none 0 0) := bc_ BK348.out 0
  have hfs44 := blk_frozen BK348.out 0
  have hns44_0 := NB323_348.out
  have hns44_1 := NB324_348.out
  have hns44_2 := NB337_348.out
  have hns44_3 := NB347_348.out
  have hms44_0 := NB348_323.out
  have hms44_1 := NB348_324.out
  have hms44_2 := NB348_337.out
  have hms44_3 := NB348_347.out
  refine skip_ (w1 := ?_) (by rfl) rfl ?_ ?_
  rotate_left
  ·go_simp
   rfl
  refine hK.out _ _ ⟨((cell_far (p := ⟨gb348, _, none⟩) NB323_348.out _).trans (hHeld.1)), ((cell_far (p := ⟨gb348, _, none⟩) NB323_348.out _).trans (hHeld.2.1)), ((cell_far (p := ⟨gb348, _, none⟩) NB323_348.out _).trans (hHeld.2.2.1)), ((cell_far (p := ⟨gb348, _, none⟩) NB323_348.out _).trans (hHeld.2.2.2.1)), ((cell_far (p := ⟨gb348, _, none⟩) NB337_348.out _).trans (hHeld.2.2.2.2))⟩ (fun hHeld => ?_)
  clear hK K
  refine done_ (done_of HT_.out (by kernel_rfl)) ?_
  try go_wp2
  have n0_ : Aside0 (Kd.R (Kd.int .u64) 22 ((w40.setCell ⟨gb347, 0, none⟩ (.slice Ao41 t341.length co41)).setCell ⟨gb348, 0, none⟩ (.slice Ao43 t344.length co43)) w.heap.size (fun k_ => some k_ ≠ (.slice Ao31 t334.length co31 : Value).ownBlock ∧ some k_ ≠ (v339 : Value).ownBlock ∧ some k_ ≠ (.slice Ao41 t341.length co41 : Value).ownBlock) v332 t331) := ⟨by (with_reducible repeat (first | apply Kd.R_alloc | apply Kd.R_drewN | apply Kd.R_drew)); exact Kd.R_mono (Kd.R_far (p := ⟨gb348, 0, none⟩) (Kd.R_far (p := ⟨gb347, 0, none⟩) (Kd.R_types (Kd.R_types HO333.out BK347.out (by decide)) BK348.out (by decide)) (fun _ hk => hk.1.2) (.slice Ao41 t341.length co41)) (fun _ hk => hk.2) (.slice Ao43 t344.length co43)) (fun _ hk => ⟨hk.1.1.1, ⟨hk.1.1.2.1, hk.1.1.2.2⟩⟩)⟩
  have n1_ : Aside0 (Kd.R (Kd.int .u64) 22 ((w40.setCell ⟨gb347, 0, none⟩ (.slice Ao41 t341.length co41)).setCell ⟨gb348, 0, none⟩ (.slice Ao43 t344.length co43)) w.heap.size (fun k_ => some k_ ≠ (v332 : Value).ownBlock ∧ some k_ ≠ (v339 : Value).ownBlock ∧ some k_ ≠ (.slice Ao41 t341.length co41 : Value).ownBlock) (.slice Ao31 t334.length co31) t334) := ⟨by (with_reducible repeat (first | apply Kd.R_alloc | apply Kd.R_drewN | apply Kd.R_drew)); exact Kd.R_mono (Kd.R_far (p := ⟨gb348, 0, none⟩) (Kd.R_far (p := ⟨gb347, 0, none⟩) (Kd.R_types (Kd.R_types HO336.out BK347.out (by decide)) BK348.out (by decide)) (fun _ hk => hk.1.2) (.slice Ao41 t341.length co41)) (fun _ hk => hk.2) (.slice Ao43 t344.length co43)) (fun _ hk => ⟨hk.1.1.1, ⟨hk.1.1.2.1, hk.1.1.2.2⟩⟩)⟩
  have n2_ : Aside0 (Kd.R (Kd.int .u64) 22 ((w40.setCell ⟨gb347, 0, none⟩ (.slice Ao41 t341.length co41)).setCell ⟨gb348, 0, none⟩ (.slice Ao43 t344.length co43)) w.heap.size (fun k_ => some k_ ≠ (v332 : Value).ownBlock ∧ some k_ ≠ (.slice Ao31 t334.length co31 : Value).ownBlock ∧ some k_ ≠ (.slice Ao41 t341.length co41 : Value).ownBlock) v339 t338) := ⟨by (with_reducible repeat (first | apply Kd.R_alloc | apply Kd.R_drewN | apply Kd.R_drew)); exact Kd.R_mono (Kd.R_far (p := ⟨gb348, 0, none⟩) (Kd.R_far (p := ⟨gb347, 0, none⟩) (Kd.R_types (Kd.R_types HO340.out BK347.out (by decide)) BK348.out (by decide)) (fun _ hk => hk.1.2) (.slice Ao41 t341.length co41)) (fun _ hk => hk.2) (.slice Ao43 t344.length co43)) (fun _ hk => ⟨hk.1.1.1, ⟨hk.1.1.2.1, hk.1.1.2.2⟩⟩)⟩
  have n3_ : Aside0 (Kd.R (Kd.int .u64) 22 ((w40.setCell ⟨gb347, 0, none⟩ (.slice Ao41 t341.length co41)).setCell ⟨gb348, 0, none⟩ (.slice Ao43 t344.length co43)) w.heap.size (fun k_ => some k_ ≠ (v332 : Value).ownBlock ∧ some k_ ≠ (.slice Ao31 t334.length co31 : Value).ownBlock ∧ some k_ ≠ (v339 : Value).ownBlock) (.slice Ao41 t341.length co41) t341) := ⟨by (with_reducible repeat (first | apply Kd.R_alloc | apply Kd.R_drewN | apply Kd.R_drew)); exact Kd.R_mono (Kd.R_far (p := ⟨gb348, 0, none⟩) (Kd.R_far (p := ⟨gb347, 0, none⟩) (Kd.R_types (Kd.R_types HO343.out BK347.out (by decide)) BK348.out (by decide)) (fun _ hk => hk.1.2) (.slice Ao41 t341.length co41)) (fun _ hk => hk.2) (.slice Ao43 t344.length co43)) (fun _ hk => ⟨hk.1.1.1, ⟨hk.1.1.2.1, hk.1.1.2.2⟩⟩)⟩
  have n4_ : Aside0 (Kd.V (Kd.int .u64) 22 ((w40.setCell ⟨gb347, 0, none⟩ (.slice Ao41 t341.length co41)).setCell ⟨gb348, 0, none⟩ (.slice Ao43 t344.length co43)) w.heap.size (fun k_ => some k_ ≠ (v332 : Value).ownBlock ∧ some k_ ≠ (.slice Ao31 t334.length co31 : Value).ownBlock ∧ some k_ ≠ (.slice Ao41 t341.length co41 : Value).ownBlock ∧ k_ ≠ gb323 ∧ k_ ≠ gb324 ∧ k_ ≠ gb337 ∧ k_ ≠ gb347 ∧ k_ ≠ gb348) (.slice Ao43 t344.length co43) t344) := ⟨by (with_reducible repeat (first | apply Kd.V_alloc | apply Kd.V_drewN | apply Kd.V_drew)); exact Kd.V_mono (Kd.V_far (p := ⟨gb348, 0, none⟩) (Kd.V_far (p := ⟨gb347, 0, none⟩) (Kd.V_mono (Kd.V_mono HO346.out (fun k_ hk => (⟨hk, hk.2.2.2.2.2.2.1⟩ : _ ∧ k_ ≠ gb347))) (fun k_ hk => (⟨hk, hk.1.2.2.2.2.2.2.2⟩ : _ ∧ k_ ≠ gb348))) (fun _ hk => hk.1.2) (.slice Ao41 t341.length co41)) (fun _ hk => hk.2) (.slice Ao43 t344.length co43)) (fun _ hk => ⟨hk.1.1.1, ⟨hk.1.1.2.1, ⟨hk.1.1.2.2.1, ⟨hk.1.1.2.2.2.1, ⟨hk.1.1.2.2.2.2.1, ⟨hk.1.1.2.2.2.2.2.1, ⟨hk.1.1.2.2.2.2.2.2.1, hk.1.1.2.2.2.2.2.2.2⟩⟩⟩⟩⟩⟩⟩)⟩
  have n5_ : Aside0 (((w40.setCell ⟨gb347, 0, none⟩ (.slice Ao41 t341.length co41)).setCell ⟨gb348, 0, none⟩ (.slice Ao43 t344.length co43)).heap[gb323]? = some (.cells #[.bool a0_0, .int .i64 a0_1, .int .i64 a0_2, .int .u64 a0_3] 30 (0, 0))) := ⟨bf2_ BK323.out NB323_348.out NB323_347.out⟩
  have n6_ : Aside0 (((w40.setCell ⟨gb347, 0, none⟩ (.slice Ao41 t341.length co41)).setCell ⟨gb348, 0, none⟩ (.slice Ao43 t344.length co43)).heap[gb324]? = some (.cells #[.slice none 0 0] 33 (0, 0))) := ⟨bf2_ BK324.out NB324_348.out NB324_347.out⟩
  have n7_ : Aside0 (((w40.setCell ⟨gb347, 0, none⟩ (.slice Ao41 t341.length co41)).setCell ⟨gb348, 0, none⟩ (.slice Ao43 t344.length co43)).heap[gb337]? = some (.cells #[.slice Ao31 t334.length co31] 33 (0, 0))) := ⟨bf2_ BK337.out NB337_348.out NB337_347.out⟩
  have n8_ : Aside0 (((w40.setCell ⟨gb347, 0, none⟩ (.slice Ao41 t341.length co41)).setCell ⟨gb348, 0, none⟩ (.slice Ao43 t344.length co43)).heap[gb347]? = some (.cells #[.slice Ao41 t341.length co41] 33 (0, 0))) := ⟨by (with_reducible repeat (first | refine blk_drewN ?_ _ | refine blk_drew ?_ | refine blk_alloc ?_ _)); refine blk_far ?_ NB347_348.out _; (with_reducible repeat (first | refine blk_drewN ?_ _ | refine blk_drew ?_ | refine blk_alloc ?_ _)); refine blk_put (cs := #[.slice none 0 0]) ?_ 0 _ rfl; (with_reducible repeat (first | refine blk_drewN ?_ _ | refine blk_drew ?_ | refine blk_alloc ?_ _)); exact BK347.out⟩
  have n9_ : Aside0 (((w40.setCell ⟨gb347, 0, none⟩ (.slice Ao41 t341.length co41)).setCell ⟨gb348, 0, none⟩ (.slice Ao43 t344.length co43)).heap[gb348]? = some (.cells #[.slice Ao43 t344.length co43] 33 (0, 0))) := ⟨by (with_reducible repeat (first | refine blk_drewN ?_ _ | refine blk_drew ?_ | refine blk_alloc ?_ _)); refine blk_put (cs := #[.slice none 0 0]) ?_ 0 _ rfl; (with_reducible repeat (first | refine blk_drewN ?_ _ | refine blk_drew ?_ | refine blk_alloc ?_ _)); refine blk_far ?_ NB348_347.out _; (with_reducible repeat (first | refine blk_drewN ?_ _ | refine blk_drew ?_ | refine blk_alloc ?_ _)); exact BK348.out⟩
  have n10_ : Aside0 (Below w.heap.size w ((w40.setCell ⟨gb347, 0, none⟩ (.slice Ao41 t341.length co41)).setCell ⟨gb348, 0, none⟩ (.slice Ao43 t344.length co43))) := ⟨by repeat (first | (with_reducible first | exact HB.out | apply below_alloc | apply pw_below_drewN | apply below_drew1 | refine below_set ?_ GE323.out | refine below_set ?_ GE324.out | refine below_set ?_ GE337.out | refine below_set ?_ GE347.out | refine below_set ?_ GE348.out) | exact HB.out)⟩
  (try clear HO333);(try clear HO336);(try clear HO340);(try clear HO343);(try clear HO346);(try clear BK323);(try clear BK324);(try clear BK337);(try clear BK347);(try clear BK348);(try clear HB)
  generalize ((w40.setCell ⟨gb347, 0, none⟩ (.slice Ao41 t341.length co41)).setCell ⟨gb348, 0, none⟩ (.slice Ao43 t344.length co43)) = w45 at n0_ n1_ n2_ n3_ n4_ n5_ n6_ n7_ n8_ n9_ n10_ ⊢
  have HO333 := n0_;have HO336 := n1_;have HO340 := n2_;have HO343 := n3_;have HO346 := n4_;have BK323 := n5_;have BK324 := n6_;have BK337 := n7_;have BK347 := n8_;have BK348 := n9_;have HB := n10_;clear n0_ n1_ n2_ n3_ n4_ n5_ n6_ n7_ n8_ n9_ n10_
  replace HO333 := A_ (Kd.R_drew HO333.out)
  replace HO336 := A_ (Kd.R_drew HO336.out)
  replace HO340 := A_ (Kd.R_drew HO340.out)
  replace HO343 := A_ (Kd.R_drew HO343.out)
  replace HO346 := A_ (Kd.V_drew HO346.out)
  replace BK323 := A_ (blk_drew BK323.out)
  replace BK324 := A_ (blk_drew BK324.out)
  replace BK337 := A_ (blk_drew BK337.out)
  replace BK347 := A_ (blk_drew BK347.out)
  replace BK348 := A_ (blk_drew BK348.out)
  replace HB := A_ (below_drew1 HB.out)
  refine start_ (n := 12) (S := fun w' => w'.cell? ⟨gb347, 0, none⟩ = some (.slice Ao41 t341.length co41) ∧ w'.cell? ⟨gb348, 0, none⟩ = some (.slice Ao43 t344.length co43) ∧ w'.cell? ⟨gb337, 0, none⟩ = some (.slice Ao31 t334.length co31)) (ds := []) #[false, false, false, false, false, false, false, false, false, false, false, false] (by kernel_rfl) rfl rfl ⟨bc_ BK347.out 0, bc_ BK348.out 0, bc_ BK337.out 0⟩ (fun hHeld => ?_); refine with_tabW r9_Down.tab5 r9_Down.bits5 (fun HT_ HW_ => ?_)
  generalize w45.drew = w46 at HO333 HO336 HO340 HO343 HO346 BK323 BK324 BK337 BK347 BK348 HB hHeld ⊢
  refine pu_ 5 (some 35) #[false, false, false, false, false, true, false, false, false, false, false, false] rfl rfl (any_of HT_.out (by kernel_rfl)) ?_
  refine tk3_ 0 (some 30) #[true, false, false, false, false, true, false, false, false, false, false, false] rfl rfl (take_ofW HT_.out HW_.out (by kernel_rfl)) hHeld ?_
  refine tk3_ 1 (some 31) #[true, true, false, false, false, true, false, false, false, false, false, false] rfl rfl (take_ofW HT_.out HW_.out (by kernel_rfl)) hHeld ?_
  refine tk3_ 3 (some 33) #[true, true, false, true, false, true, false, false, false, false, false, false] rfl rfl (take_ofW HT_.out HW_.out (by kernel_rfl)) hHeld ?_
  refine tk3_ 6 (some 36) #[true, true, false, true, false, true, true, false, false, false, false, false] rfl rfl (take_ofW HT_.out HW_.out (by kernel_rfl)) hHeld ?_
  refine pu_ 7 (some 37) #[true, true, false, true, false, true, true, true, false, false, false, false] rfl rfl (any_of HT_.out (by kernel_rfl)) ?_
  refine pu_ 8 (some 38) #[true, true, false, true, false, true, true, true, true, false, false, false] rfl rfl (any_of HT_.out (by kernel_rfl)) ?_
  refine one_ (i := 2) (N := some 32) #[true, true, true, true, false, true, true, true, true, false, false, false] rfl rfl (one_of HT_.out (by kernel_rfl)) (by decide) (fun K hK => ?_)
  refine goes_ Try.func44 (by kernel_rfl) rfl #[.agg #[.slice Ao43 t344.length co43], .int .i64 1] (by rfl) rfl rfl mp_ ?_
  with_reducible refine (r1_Shl.calls k _ _ t344 1 t349 _ ?side1 ?side2 A19.out).mono ?_
  (case side1 => exact cs_ ((Kd.V_reads' HO346.out).2.2))
  (case side2 => exact (Kd.V_reads' HO346.out).2.1)
  rintro e w47 ⟨v350, rfl, ho0, hb⟩
  refine ⟨_, rfl, ?_⟩
  have HO351 := A_ (Kd.R_lower (Kd.R_new' (Kd.R_new' (Kd.R_new' (Kd.R_new' ho0 (Kd.R_lt (kr_ HO333.out))) (Kd.R_lt (kr_ HO336.out))) (Kd.R_lt (kr_ HO340.out))) (Kd.R_lt (kr_ HO343.out))) (below_size (by repeat (first | (with_reducible first | exact HB.out | apply below_alloc | apply pw_below_drewN | apply below_drew1 | refine below_set ?_ GE323.out | refine below_set ?_ GE324.out | refine below_set ?_ GE337.out | refine below_set ?_ GE347.out | refine below_set ?_ GE348.out) | exact HB.out))))
  replace HO333 := A_ (Kd.R_elder' (kr_ HO333.out) (Kd.R_base ho0) hb)
  replace HO336 := A_ (Kd.R_elder' (kr_ HO336.out) (Kd.R_base ho0) hb)
  replace HO340 := A_ (Kd.R_elder' (kr_ HO340.out) (Kd.R_base ho0) hb)
  replace HO343 := A_ (Kd.R_elder' (kr_ HO343.out) (Kd.R_base ho0) hb)
  replace HO346 := A_ (Kd.V_elder' (kv_ HO346.out) (Kd.R_base ho0) hb)
  replace BK323 := A_ (bb_ BK323.out hb)
  replace BK324 := A_ (bb_ BK324.out hb)
  replace BK337 := A_ (bb_ BK337.out hb)
  replace BK347 := A_ (bb_ BK347.out hb)
  replace BK348 := A_ (bb_ BK348.out hb)
  replace HB := A_ (below_step (by repeat (first | (with_reducible first | exact HB.out | apply below_alloc | apply pw_below_drewN | apply below_drew1 | refine below_set ?_ GE323.out | refine below_set ?_ GE324.out | refine below_set ?_ GE337.out | refine below_set ?_ GE347.out | refine below_set ?_ GE348.out) | exact HB.out)) hb);(try clear hb);(try clear hb2);(try clear hk);(try clear hi);(try clear ho0)
  obtain ⟨Ao48, co48, eo48⟩ := Kd.R_slice HO351.out
  (first | subst eo48 | (injection eo48 with f1_ f2_ f3_; have f4_ := f1_.symm; have f5_ := f3_.symm; clear f1_ f2_ f3_; subst f4_; subst f5_))
  refine hK.out _ _ ⟨bc_ BK347.out 0, bc_ BK348.out 0, bc_ BK337.out 0⟩ (fun hHeld => ?_)
  clear hK K
  refine norm_ (a' := ?_) ?_ ?_
  rotate_left
  ·show Act.put _ (some 32) _ = _
   simp only [Act.put, lI_, l0_, lS_, i64_w, i32_w]
   rfl
  refine one_ (i := 4) (N := some 34) #[true, true, true, true, true, true, true, true, true, false, false, false] rfl rfl (one_of HT_.out (by kernel_rfl)) (by decide) (fun K hK => ?_)
  refine goes_ Try.func46 (by kernel_rfl) rfl #[.agg #[.slice Ao48 t349.length co48], .agg #[.slice Ao31 t334.length co31]] (by rfl) rfl rfl mp_ ?_
  with_reducible refine (r1_Cmp.calls k _ _ t349 _ _ t334 t352 _ ?side1 ?side2 ?side3 ?side4 A20.out).mono ?_
  (case side1 => exact cs_ ((Kd.R_reads' HO351.out).2.2))
  (case side2 => exact (Kd.R_reads' HO351.out).2.1)
  (case side3 => exact cs_ ((Kd.R_reads' HO336.out).2.2))
  (case side4 => exact (Kd.R_reads' HO336.out).2.1)
  rintro e w49 ⟨rfl, hb⟩
  refine ⟨_, rfl, ?_⟩
  replace HO333 := A_ (Kd.R_below (kr_ HO333.out) hb)
  replace HO336 := A_ (Kd.R_below (kr_ HO336.out) hb)
  replace HO340 := A_ (Kd.R_below (kr_ HO340.out) hb)
  replace HO343 := A_ (Kd.R_below (kr_ HO343.out) hb)
  replace HO346 := A_ (Kd.V_below (kv_ HO346.out) hb)
  replace HO351 := A_ (Kd.R_below (kr_ HO351.out) hb)
  replace BK323 := A_ (bb_ BK323.out hb)
  replace BK324 := A_ (bb_ BK324.out hb)
  replace BK337 := A_ (bb_ BK337.out hb)
  replace BK347 := A_ (bb_ BK347.out hb)
  replace BK348 := A_ (bb_ BK348.out hb)
  replace HB := A_ (below_step (by repeat (first | (with_reducible first | exact HB.out | apply below_alloc | apply pw_below_drewN | apply below_drew1 | refine below_set ?_ GE323.out | refine below_set ?_ GE324.out | refine below_set ?_ GE337.out | refine below_set ?_ GE347.out | refine below_set ?_ GE348.out) | exact HB.out)) hb);(try clear hb);(try clear hb2);(try clear hk);(try clear hi)
  refine hK.out _ _ ⟨bc_ BK347.out 0, bc_ BK348.out 0, bc_ BK337.out 0⟩ (fun hHeld => ?_)
  clear hK K
  refine norm_ (a' := ?_) ?_ ?_
  rotate_left
  ·show Act.put _ (some 34) _ = _
   simp only [Act.put, lI_, l0_, lS_, i64_w, i32_w]
   rfl
  refine one_ (i := 9) (N := none) #[true, true, true, true, true, true, true, true, true, true, false, false] rfl rfl (one_of HT_.out (by kernel_rfl)) (by decide) (fun K hK => ?_)
  have hs50 : w49.cell? ⟨gb324, 0, none⟩ = some (.slice none 0 0) := bc_ BK324.out 0
  have hfs50 := blk_frozen BK324.out 0
  have hns50_0 := NB323_324.out
  have hns50_2 := NB337_324.out
  have hns50_3 := NB347_324.out
  have hns50_4 := NB348_324.out
  have hms50_0 := NB324_323.out
  have hms50_2 := NB324_337.out
  have hms50_3 := NB324_347.out
  have hms50_4 := NB324_348.out
  refine skip_ (w1 := ?_) (by rfl) rfl ?_ ?_
  rotate_left
  ·go_simp
   rfl
  refine hK.out _ _ ⟨((cell_far (p := ⟨gb324, _, none⟩) NB347_324.out _).trans (hHeld.1)), ((cell_far (p := ⟨gb324, _, none⟩) NB348_324.out _).trans (hHeld.2.1)), ((cell_far (p := ⟨gb324, _, none⟩) NB337_324.out _).trans (hHeld.2.2))⟩ (fun hHeld => ?_)
  clear hK K
  refine pu_ 10 (some 3) #[true, true, true, true, true, true, true, true, true, true, true, false] rfl rfl (any_of HT_.out (by kernel_rfl)) ?_
  refine pu_ 11 (some 4) #[true, true, true, true, true, true, true, true, true, true, true, true] rfl rfl (any_of HT_.out (by kernel_rfl)) ?_
  refine done_ (done_of HT_.out (by kernel_rfl)) ?_
  try go_wp2
  refine bodyPost_ret (results_ctt rfl _ _ gb324 33 #[.slice Ao41 t341.length co41] (0, 0) _ rfl (by (with_reducible repeat (first | refine blk_drewN ?_ _ | refine blk_drew ?_ | refine blk_alloc ?_ _)); refine blk_put (cs := #[.slice none 0 0]) ?_ 0 _ rfl; (with_reducible repeat (first | refine blk_drewN ?_ _ | refine blk_drew ?_ | refine blk_alloc ?_ _)); exact BK324.out) Try.underlying33 rfl (by kernel_rfl)) rfl ?_
  exact ⟨_, by first | rfl | (simp [errW_none, errW_some] <;> rfl) | (simp [*, errW_none, errW_some] <;> rfl), by (with_reducible repeat (first | apply Kd.R_alloc | apply Kd.R_drewN | apply Kd.R_drew)); exact Kd.R_mono (Kd.R_far (p := ⟨gb324, 0, none⟩) (Kd.R_types HO343.out BK324.out (by decide)) (fun _ hk => hk.2) (.slice Ao41 t341.length co41)) (fun _ hk => trivial), by repeat (first | (with_reducible first | exact HB.out | apply below_alloc | apply pw_below_drewN | apply below_drew1 | refine below_set ?_ GE323.out | refine below_set ?_ GE324.out | refine below_set ?_ GE337.out | refine below_set ?_ GE347.out | refine below_set ?_ GE348.out) | exact HB.out)⟩
end Go.Proofs.Ythdeeoallfbjmaa.PA
