/- What the Go functions that the statement ChopTraps reaches compute, and the mathematics on it, in the order in which one leans on the other; for every input. -/
import Derived.Test.YtjjehbedpgdhgaaVChopTraps0
import Derived.Test.YtjjehbedpgdhgaaMChopTraps0
import Derived.Test.YtjjehbedpgdhgaaMChopTraps2
import Derived.Test.YtjjehbedpgdhgaaMChopTraps4
namespace Go.Proofs.Ytjjehbedpgdhgaa.PA
open Go.RowKit Go.Proofs.YtjjehbedpgdhgaaW.PrintWords Go.Proofs.YtjjehbedpgdhgaaW.PrintLast Go.Proofs.YtjjehbedpgdhgaaW.PrintMore
attribute [local go_sem] max2_int min2_int max_two min_two max_three min_three max_four min_four   -- for this text's walks alone
set_option linter.unusedVariables false
set_option linter.unusedSimpArgs false
set_option maxHeartbeats 8000000
set_option maxRecDepth 100000
def r9_Down.f (k : Nat) (a0_0 : Bool) (a0_1 : Int) (a0_2 : Int) (a0_3 : Int) : Option (List Int × Int × Bool) := if a0_2 ≥ 0 then ((r1_Of.f k a0_3).bind fun t507 => ((r1_Shl.f k t507 a0_2).bind fun t510 => (some (t510, (-1), false)))) else ((r1_Of.f k 1).bind fun t513 => ((r1_Shl.f k t513 (wrap64 (-a0_2))).bind fun t516 => ((r1_Of.f k a0_3).bind fun t520 => ((r1_Div.f k t520 t516).bind fun bt523 => ((r1_Shl.f k bt523.2 1).bind fun t531 => ((r1_Cmp.f k t531 t516).bind fun t534 => (some (bt523.1, t534, decide ((bt523.2.length : Int) > 0)))))))))
theorem r9_Down.mono : ∀ a0 a1 a2 a3 k, LeO (r9_Down.f k a0 a1 a2 a3) (r9_Down.f (k + 1) a0 a1 a2 a3) := by
 intro a0 a1 a2 a3 k
 unfold r9_Down.f
 repeat' first
   | (with_reducible exact r1_Cmp.mono _ _ _)
   | (with_reducible exact r1_Div.mono _ _ _)
   | (with_reducible exact r1_Of.mono _ _)
   | (with_reducible exact r1_Shl.mono _ _ _)
   | (with_reducible exact LeO.refl _)
   | (with_reducible exact LeO.none _)
   | (with_reducible refine LeO.ite ?_ ?_)
   | (with_reducible refine LeO.bind ?_ (fun _ => ?_))
   | exact r1_Cmp.mono _ _ _
   | exact r1_Div.mono _ _ _
   | exact r1_Of.mono _ _
   | exact r1_Shl.mono _ _ _
   | exact LeO.none _
   | refine LeO.ite ?_ ?_
   | refine LeO.bind ?_ (fun _ => ?_)
def r9_Down.T2 : Bool × List (List Nat × List Nat) := (true, [([], []), ([0], [0]), ([1], [1]), ([], []), ([3], [3]), ([2, 4, 2], [2, 4]), ([5, 5, 0, 1, 2, 3, 4, 5], [5]), ([6, 0, 1, 2, 3, 4, 5, 6], []), ([7, 0, 1, 2, 3, 4, 5, 6, 7], [])])
def r9_Down.B2 : List Nat := [0, 1, 3, 0, 8, 31, 63, 127, 255]
theorem r9_Down.tab2 : rtab .any (opsOf Try.f65 2) = r9_Down.T2 := by kernel_rfl
theorem r9_Down.bits2 : waitsOk r9_Down.T2.2 r9_Down.B2 = true := by kernel_rfl
def r9_Down.T4 : Bool × List (List Nat × List Nat) := (true, [([], []), ([0], [0]), ([1], [1]), ([], []), ([2, 3, 2], [2, 3]), ([4], [4]), ([5], [5]), ([5], [5]), ([], []), ([], []), ([8, 6, 4, 0, 1, 2, 3, 4, 5, 6, 8, 9], [6, 8]), ([9, 7, 10, 0, 1, 2, 3, 4, 5, 6, 7, 8, 9, 10], [7, 9])])
def r9_Down.B4 : List Nat := [0, 1, 3, 0, 15, 31, 63, 63, 0, 0, 895, 2047]
theorem r9_Down.tab4 : rtab .any (opsOf Try.f65 4) = r9_Down.T4 := by kernel_rfl
theorem r9_Down.bits4 : waitsOk r9_Down.T4.2 r9_Down.B4 = true := by kernel_rfl
def r9_Down.T5 : Bool × List (List Nat × List Nat) := (true, [([], []), ([], []), ([1], [1]), ([], []), ([2, 3, 2], [2, 3]), ([], []), ([5], [5]), ([6], [6]), ([7], [7]), ([0, 4, 0], [0]), ([4, 9, 0, 1, 2, 3, 4, 9], [4]), ([8, 10, 0, 1, 2, 3, 4, 5, 6, 7, 8, 9, 10], [8])])
def r9_Down.B5 : List Nat := [0, 0, 2, 0, 14, 0, 32, 96, 224, 31, 543, 2047]
theorem r9_Down.tab5 : rtab .any (opsOf Try.f65 5) = r9_Down.T5 := by kernel_rfl
theorem r9_Down.bits5 : waitsOk r9_Down.T5.2 r9_Down.B5 = true := by kernel_rfl
theorem r9_Down.calls (k : Nat) (a0_0 : Bool) (a0_1 : Int) (a0_2 : Int) (a0_3 : Int) (r1 : List Int) (r2 : Int) (r3 : Bool) (w : World) (h : r9_Down.f k a0_0 a0_1 a0_2 a0_3 = some (r1, r2, r3)) :
  Calls Try.prog 65 #[.agg #[.bool a0_0, .int .i64 a0_1, .int .i64 a0_2, .int .u64 a0_3]] w fun e w' => ∃ v0_ : Value, e = .returned (.tuple #[.agg #[v0_], .int .i64 r2, .bool r3]) ∧ Kd.R (Kd.int .u64) 22 w' w.heap.size (fun _ => True) v0_ r1 ∧ Below w.heap.size w w' := by
 have hu67 := Try.underlying67
 have hu53 := Try.underlying53
 have HB := A_ (Below.refl w.heap.size w)
 have H : (if a0_2 ≥ 0 then ((r1_Of.f k a0_3).bind fun t507 => ((r1_Shl.f k t507 a0_2).bind fun t510 => (some (t510, (-1), false)))) else ((r1_Of.f k 1).bind fun t513 => ((r1_Shl.f k t513 (wrap64 (-a0_2))).bind fun t516 => ((r1_Of.f k a0_3).bind fun t520 => ((r1_Div.f k t520 t516).bind fun bt523 => ((r1_Shl.f k bt523.2 1).bind fun t531 => ((r1_Cmp.f k t531 t516).bind fun t534 => (some (bt523.1, t534, decide ((bt523.2.length : Int) > 0)))))))))) = some (r1, r2, r3) := h
 clear h
 by_cases c2 : a0_2 ≥ 0
 ·rw [if_pos c2] at H
  have c2b0 : decide (0 ≤ a0_2) = true := decide_eq_true c2
  clear c2
  replace H := ob_ H
  obtain ⟨t507, A30, H⟩ := H
  replace H : ((r1_Shl.f k t507 a0_2).bind fun t510 => (some (t510, (-1), false))) = some (r1, r2, r3) := H
  have A3 := A_ A30;clear A30
  replace H := ob_ H
  obtain ⟨t510, A40, H⟩ := H
  replace H : (some (t510, (-1), false)) = some (r1, r2, r3) := H
  have A4 := A_ A40;clear A40
  simp only [Option.some.injEq, Prod.mk.injEq] at H
  obtain ⟨rfl, rfl, rfl⟩ := H
  go_enter Try.func65, Try.ntmps65
  try go_wp2_with (first | ((with_reducible refine gate_dst (N := 1) rfl ?_); refine be_ 1 #[.bool a0_0, .int .i64 a0_1, .int .i64 a0_2, .int .u64 a0_3] 67 ?_; intro gb505 hg w5 hbox hb; have BK505 := A_ (hbox); have GW505 := A_ (sz_ hg (hb_ HB.out)); have GE505 := A_ (sz_ hg (hb_ HB.out)); replace HB := A_ (below_step (hb_ HB.out) hb); clear hb hbox hg) | ((with_reducible refine gate_dst (N := 2) rfl ?_); refine be_ 2 #[.slice none 0 0] 53 ?_; intro gb506 hg w6 hbox hb; have BK506 := A_ (hbox); have GW506 := A_ (sz_ hg (hb1_ HB.out GE505.out)); have GE506 := A_ (sz_ hg (hb1_ HB.out GE505.out)); have NB505_506 := A_ (nl_ hg BK505.out); have NB506_505 := A_ (ng_ hg BK505.out); replace BK505 := A_ (bb_ BK505.out hb); replace HB := A_ (below_step (hb1_ HB.out GE505.out) hb); clear hb hbox hg; have hnb7 := NB505_506.out; have hnc7 := NB506_505.out; have hcz8_0 := bv_ BK505.out 0; have hcz8_1 := bv_ BK505.out 1; have hcz8_2 := bv_ BK505.out 2; have hcz8_3 := bv_ BK505.out 3; have hfz8_0 := blk_frozen BK505.out 0; have hfz8_1 := blk_frozen BK505.out 1; have hfz8_2 := blk_frozen BK505.out 2; have hfz8_3 := blk_frozen BK505.out 3))
  replace BK505 := A_ (blk_drew BK505.out)
  replace BK506 := A_ (blk_drew BK506.out)
  replace HB := A_ (below_drew1 HB.out)
  refine start_ (n := 9) (S := fun w' => w'.cell? ⟨gb505, 0, none⟩ = some (.bool a0_0) ∧ w'.cell? ⟨gb505, 1, none⟩ = some (.int .i64 a0_1) ∧ w'.cell? ⟨gb505, 2, none⟩ = some (.int .i64 a0_2) ∧ w'.cell? ⟨gb505, 3, none⟩ = some (.int .u64 a0_3)) (ds := []) #[false, false, false, false, false, false, false, false, false] (by kernel_rfl) rfl rfl ⟨bc_ BK505.out 0, bc_ BK505.out 1, bc_ BK505.out 2, bc_ BK505.out 3⟩ (fun hHeld => ?_); refine with_tabW r9_Down.tab2 r9_Down.bits2 (fun HT_ HW_ => ?_)
  generalize w6.drew = w9 at BK505 BK506 HB hHeld ⊢
  refine pu_ 0 (some 11) #[true, false, false, false, false, false, false, false, false] rfl rfl (any_of HT_.out (by kernel_rfl)) ?_
  refine pu_ 3 (some 14) #[true, false, false, true, false, false, false, false, false] rfl rfl (any_of HT_.out (by kernel_rfl)) ?_
  refine tk4_ 1 (some 12) #[true, true, false, true, false, false, false, false, false] rfl rfl (take_ofW HT_.out HW_.out (by kernel_rfl)) hHeld ?_
  refine tk4_ 4 (some 15) #[true, true, false, true, true, false, false, false, false] rfl rfl (take_ofW HT_.out HW_.out (by kernel_rfl)) hHeld ?_
  refine one_ (i := 2) (N := some 13) #[true, true, true, true, true, false, false, false, false] rfl rfl (one_of HT_.out (by kernel_rfl)) (by decide) (fun K hK => ?_)
  refine goes_ Try.func33 (by kernel_rfl) rfl #[.int .u64 a0_3] (by rfl) rfl rfl mp_ ?_
  with_reducible refine (r1_Of.calls k a0_3 t507 _ A3.out).mono ?_
  rintro e w10 ⟨v508, rfl, ho0, hb⟩
  refine ⟨_, rfl, ?_⟩
  have HO509 := A_ (Kd.R_lower ho0 (below_size (hb2_ HB.out GE505.out GE506.out)))
  replace BK505 := A_ (bb_ BK505.out hb)
  replace BK506 := A_ (bb_ BK506.out hb)
  replace HB := A_ (below_step (hb2_ HB.out GE505.out GE506.out) hb);(try clear hb);(try clear hb2);(try clear hk);(try clear hi);(try clear ho0)
  obtain ⟨Ao11, co11, eo11⟩ := Kd.R_slice HO509.out
  (first | subst eo11 | (injection eo11 with f1_ f2_ f3_; have f4_ := f1_.symm; have f5_ := f3_.symm; clear f1_ f2_ f3_; subst f4_; subst f5_))
  refine hK.out _ _ ⟨bc_ BK505.out 0, bc_ BK505.out 1, bc_ BK505.out 2, bc_ BK505.out 3⟩ (fun hHeld => ?_)
  clear hK K
  refine norm_ (a' := ?_) ?_ ?_
  rotate_left
  ·show Act.put _ (some 13) _ = _
   simp only [Act.put, lI_, l0_, lS_, i64_w, i32_w]
   rfl
  refine one_ (i := 5) (N := some 16) #[true, true, true, true, true, true, false, false, false] rfl rfl (one_of HT_.out (by kernel_rfl)) (by decide) (fun K hK => ?_)
  refine goes_ Try.func32 (by kernel_rfl) rfl #[.agg #[.slice Ao11 t507.length co11], .int .i64 a0_2] (by rfl) rfl rfl mp_ ?_
  with_reducible refine (r1_Shl.calls k _ _ t507 a0_2 t510 _ ?side1 ?side2 A4.out).mono ?_
  (case side1 => exact cs_ ((Kd.R_reads' HO509.out).2.2))
  (case side2 => exact (Kd.R_reads' HO509.out).2.1)
  rintro e w12 ⟨v511, rfl, ho0, hb⟩
  refine ⟨_, rfl, ?_⟩
  have HO512 := A_ (Kd.R_lower (Kd.R_new' ho0 (Kd.R_lt (kr_ HO509.out))) (below_size (hb2_ HB.out GE505.out GE506.out)))
  replace HO509 := A_ (Kd.R_elder' (kr_ HO509.out) (Kd.R_base ho0) hb)
  replace BK505 := A_ (bb_ BK505.out hb)
  replace BK506 := A_ (bb_ BK506.out hb)
  replace HB := A_ (below_step (hb2_ HB.out GE505.out GE506.out) hb);(try clear hb);(try clear hb2);(try clear hk);(try clear hi);(try clear ho0)
  obtain ⟨Ao13, co13, eo13⟩ := Kd.R_slice HO512.out
  (first | subst eo13 | (injection eo13 with f1_ f2_ f3_; have f4_ := f1_.symm; have f5_ := f3_.symm; clear f1_ f2_ f3_; subst f4_; subst f5_))
  refine hK.out _ _ ⟨bc_ BK505.out 0, bc_ BK505.out 1, bc_ BK505.out 2, bc_ BK505.out 3⟩ (fun hHeld => ?_)
  clear hK K
  refine norm_ (a' := ?_) ?_ ?_
  rotate_left
  ·show Act.put _ (some 16) _ = _
   simp only [Act.put, lI_, l0_, lS_, i64_w, i32_w]
   rfl
  refine one_ (i := 6) (N := none) #[true, true, true, true, true, true, true, false, false] rfl rfl (one_of HT_.out (by kernel_rfl)) (by decide) (fun K hK => ?_)
  have hs14 : w12.cell? ⟨gb506, 0, none⟩ = some (.slice none 0 0) := bc_ BK506.out 0
  have hfs14 := blk_frozen BK506.out 0
  have hns14_0 := NB505_506.out
  have hms14_0 := NB506_505.out
  refine skip_ (w1 := ?_) (by rfl) rfl ?_ ?_
  rotate_left
  ·go_simp
   rfl
  refine hK.out _ _ ⟨((cell_far (p := ⟨gb506, _, none⟩) NB505_506.out _).trans (hHeld.1)), ((cell_far (p := ⟨gb506, _, none⟩) NB505_506.out _).trans (hHeld.2.1)), ((cell_far (p := ⟨gb506, _, none⟩) NB505_506.out _).trans (hHeld.2.2.1)), ((cell_far (p := ⟨gb506, _, none⟩) NB505_506.out _).trans (hHeld.2.2.2))⟩ (fun hHeld => ?_)
  clear hK K
  refine pu_ 7 (some 3) #[true, true, true, true, true, true, true, true, false] rfl rfl (any_of HT_.out (by kernel_rfl)) ?_
  refine pu_ 8 (some 4) #[true, true, true, true, true, true, true, true, true] rfl rfl (any_of HT_.out (by kernel_rfl)) ?_
  refine done_ (done_of HT_.out (by kernel_rfl)) ?_
  try go_wp2
  refine bodyPost_ret (results_ctt rfl _ _ gb506 53 #[.slice Ao13 t510.length co13] (0, 0) _ rfl (by (with_reducible repeat (first | refine blk_drewN ?_ _ | refine blk_drew ?_ | refine blk_alloc ?_ _)); refine blk_put (cs := #[.slice none 0 0]) ?_ 0 _ rfl; (with_reducible repeat (first | refine blk_drewN ?_ _ | refine blk_drew ?_ | refine blk_alloc ?_ _)); exact BK506.out) Try.underlying53 rfl (by kernel_rfl)) rfl ?_
  exact ⟨_, by first | rfl | (simp [errW_none, errW_some] <;> rfl) | (simp [*, errW_none, errW_some] <;> rfl), by (with_reducible repeat (first | apply Kd.R_alloc | apply Kd.R_drewN | apply Kd.R_drew)); exact Kd.R_mono (Kd.R_far (p := ⟨gb506, 0, none⟩) (Kd.R_types HO512.out BK506.out (by decide)) (fun _ hk => hk.2) (.slice Ao13 t510.length co13)) (fun _ hk => trivial), hb2_ HB.out GE505.out GE506.out⟩
 ·rw [if_neg c2] at H
  have c2b0 : decide (0 ≤ a0_2) = false := decide_eq_false c2
  clear c2
  replace H := ob_ H
  obtain ⟨t513, A150, H⟩ := H
  replace H : ((r1_Shl.f k t513 (wrap64 (-a0_2))).bind fun t516 => ((r1_Of.f k a0_3).bind fun t520 => ((r1_Div.f k t520 t516).bind fun bt523 => ((r1_Shl.f k bt523.2 1).bind fun t531 => ((r1_Cmp.f k t531 t516).bind fun t534 => (some (bt523.1, t534, decide ((bt523.2.length : Int) > 0)))))))) = some (r1, r2, r3) := H
  have A15 := A_ A150;clear A150
  replace H := ob_ H
  obtain ⟨t516, A160, H⟩ := H
  replace H : ((r1_Of.f k a0_3).bind fun t520 => ((r1_Div.f k t520 t516).bind fun bt523 => ((r1_Shl.f k bt523.2 1).bind fun t531 => ((r1_Cmp.f k t531 t516).bind fun t534 => (some (bt523.1, t534, decide ((bt523.2.length : Int) > 0))))))) = some (r1, r2, r3) := H
  have A16 := A_ A160;clear A160
  replace H := ob_ H
  obtain ⟨t520, A170, H⟩ := H
  replace H : ((r1_Div.f k t520 t516).bind fun bt523 => ((r1_Shl.f k bt523.2 1).bind fun t531 => ((r1_Cmp.f k t531 t516).bind fun t534 => (some (bt523.1, t534, decide ((bt523.2.length : Int) > 0)))))) = some (r1, r2, r3) := H
  have A17 := A_ A170;clear A170
  replace H := ob_ H
  obtain ⟨⟨t523, t526⟩, A180, H⟩ := H
  replace H : ((r1_Shl.f k t526 1).bind fun t531 => ((r1_Cmp.f k t531 t516).bind fun t534 => (some (t523, t534, decide ((t526.length : Int) > 0))))) = some (r1, r2, r3) := H
  have A18 := A_ A180;clear A180
  replace H := ob_ H
  obtain ⟨t531, A190, H⟩ := H
  replace H : ((r1_Cmp.f k t531 t516).bind fun t534 => (some (t523, t534, decide ((t526.length : Int) > 0)))) = some (r1, r2, r3) := H
  have A19 := A_ A190;clear A190
  replace H := ob_ H
  obtain ⟨t534, A200, H⟩ := H
  replace H : (some (t523, t534, decide ((t526.length : Int) > 0))) = some (r1, r2, r3) := H
  have A20 := A_ A200;clear A200
  simp only [Option.some.injEq, Prod.mk.injEq] at H
  obtain ⟨rfl, rfl, rfl⟩ := H
  go_enter Try.func65, Try.ntmps65
  try go_wp2_with (first | ((with_reducible refine gate_dst (N := 1) rfl ?_); refine be_ 1 #[.bool a0_0, .int .i64 a0_1, .int .i64 a0_2, .int .u64 a0_3] 67 ?_; intro gb505 hg w21 hbox hb; have BK505 := A_ (hbox); have GW505 := A_ (sz_ hg (hb_ HB.out)); have GE505 := A_ (sz_ hg (hb_ HB.out)); replace HB := A_ (below_step (hb_ HB.out) hb); clear hb hbox hg) | ((with_reducible refine gate_dst (N := 2) rfl ?_); refine be_ 2 #[.slice none 0 0] 53 ?_; intro gb506 hg w22 hbox hb; have BK506 := A_ (hbox); have GW506 := A_ (sz_ hg (hb1_ HB.out GE505.out)); have GE506 := A_ (sz_ hg (hb1_ HB.out GE505.out)); have NB505_506 := A_ (nl_ hg BK505.out); have NB506_505 := A_ (ng_ hg BK505.out); replace BK505 := A_ (bb_ BK505.out hb); replace HB := A_ (below_step (hb1_ HB.out GE505.out) hb); clear hb hbox hg; have hnb23 := NB505_506.out; have hnc23 := NB506_505.out; have hcz24_0 := bv_ BK505.out 0; have hcz24_1 := bv_ BK505.out 1; have hcz24_2 := bv_ BK505.out 2; have hcz24_3 := bv_ BK505.out 3; have hfz24_0 := blk_frozen BK505.out 0; have hfz24_1 := blk_frozen BK505.out 1; have hfz24_2 := blk_frozen BK505.out 2; have hfz24_3 := blk_frozen BK505.out 3))
  replace BK505 := A_ (blk_drew BK505.out)
  replace BK506 := A_ (blk_drew BK506.out)
  replace HB := A_ (below_drew1 HB.out)
  refine start_ (n := 7) (S := fun w' => w'.cell? ⟨gb505, 0, none⟩ = some (.bool a0_0) ∧ w'.cell? ⟨gb505, 1, none⟩ = some (.int .i64 a0_1) ∧ w'.cell? ⟨gb505, 2, none⟩ = some (.int .i64 a0_2) ∧ w'.cell? ⟨gb505, 3, none⟩ = some (.int .u64 a0_3)) (ds := []) #[false, false, false, false, false, false, false] (by kernel_rfl) rfl rfl ⟨bc_ BK505.out 0, bc_ BK505.out 1, bc_ BK505.out 2, bc_ BK505.out 3⟩ (fun hHeld => ?_)
  generalize w22.drew = w25 at BK505 BK506 HB hHeld ⊢
  refine pu_ 1 (some 18) #[false, true, false, false, false, false, false] rfl rfl (by kernel_rfl) ?_
  refine tk4_ 2 (some 19) #[false, true, true, false, false, false, false] rfl rfl (by kernel_rfl) hHeld ?_
  refine pu_ 3 (some 20) #[false, true, true, true, false, false, false] rfl rfl (by kernel_rfl) ?_
  refine join_ (σ := Value × Value × Nat) 1 #[true, true, true, true, true, true, false] (fun s_ => [(17, .agg #[s_.1]), (21, .agg #[s_.2.1]), (5, .pointer (some ⟨s_.2.2, 0, none⟩))]) (fun s_ w' => (w'.cell? ⟨gb505, 0, none⟩ = some (.bool a0_0) ∧ w'.cell? ⟨gb505, 1, none⟩ = some (.int .i64 a0_1) ∧ w'.cell? ⟨gb505, 2, none⟩ = some (.int .i64 a0_2) ∧ w'.cell? ⟨gb505, 3, none⟩ = some (.int .u64 a0_3)) ∧ (Kd.R (Kd.int .u64) 22 w' w.heap.size (fun k_ => some k_ ≠ (s_.2.1 : Value).ownBlock) s_.1 t513) ∧ (Kd.R (Kd.int .u64) 22 w' w.heap.size (fun k_ => some k_ ≠ (s_.1 : Value).ownBlock) s_.2.1 t516) ∧ (w'.heap[gb505]? = some (.cells #[.bool a0_0, .int .i64 a0_1, .int .i64 a0_2, .int .u64 a0_3] 67 (0, 0))) ∧ (w'.heap[gb506]? = some (.cells #[.slice none 0 0] 53 (0, 0))) ∧ (w'.heap[s_.2.2]? = some (.cells #[.slice none 0 0] 53 (0, 0))) ∧ (w.heap.size ≤ s_.2.2) ∧ (w.heap.size ≤ s_.2.2) ∧ (gb505 ≠ s_.2.2) ∧ (s_.2.2 ≠ gb505) ∧ (gb506 ≠ s_.2.2) ∧ (s_.2.2 ≠ gb506) ∧ (Below w.heap.size w w')) ?_ ?_
  rotate_left
  ·intro hCont
   refine two_ (i := 0) (j := 5) (Ni := some 17) (Nj := some 5) #[true, true, true, true, false, false, false] #[false, true, true, true, false, true, false] rfl rfl rfl rfl (by kernel_rfl) (by decide) (by decide) (fun K hK => ?_) (fun K hK => ?_)
   ·skip
    refine goes_ Try.func33 (by kernel_rfl) rfl #[.int .u64 1] (by rfl) rfl rfl mp_ ?_
    with_reducible refine (r1_Of.calls k 1 t513 _ A15.out).mono ?_
    rintro e w26 ⟨v514, rfl, ho0, hb⟩
    refine ⟨_, rfl, ?_⟩
    have HO515 := A_ (Kd.R_lower ho0 (below_size (hb2_ HB.out GE505.out GE506.out)))
    replace BK505 := A_ (bb_ BK505.out hb)
    replace BK506 := A_ (bb_ BK506.out hb)
    replace HB := A_ (below_step (hb2_ HB.out GE505.out GE506.out) hb);(try clear hb);(try clear hb2);(try clear hk);(try clear hi);(try clear ho0)
    obtain ⟨Ao27, co27, eo27⟩ := Kd.R_slice HO515.out
    (first | subst eo27 | (injection eo27 with f1_ f2_ f3_; have f4_ := f1_.symm; have f5_ := f3_.symm; clear f1_ f2_ f3_; subst f4_; subst f5_))
    refine hK.out _ _ ⟨bc_ BK505.out 0, bc_ BK505.out 1, bc_ BK505.out 2, bc_ BK505.out 3⟩ (fun hHeld => ?_)
    clear hK K
    refine norm_ (a' := ?_) ?_ ?_
    rotate_left
    ·show Act.put _ (some 17) _ = _
     simp only [Act.put, lI_, l0_, lS_, i64_w, i32_w]
     rfl
    refine two_ (i := 4) (j := 5) (Ni := some 21) (Nj := some 5) #[true, true, true, true, true, false, false] #[true, true, true, true, false, true, false] rfl rfl rfl rfl (by kernel_rfl) (by decide) (by decide) (fun K hK => ?_) (fun K hK => ?_)
    ·skip
     refine goes_ Try.func32 (by kernel_rfl) rfl #[.agg #[.slice Ao27 t513.length co27], .int .i64 (wrap64 (-a0_2))] (by rfl) rfl rfl mp_ ?_
     with_reducible refine (r1_Shl.calls k _ _ t513 (wrap64 (-a0_2)) t516 _ ?side1 ?side2 A16.out).mono ?_
     (case side1 => exact cs_ ((Kd.R_reads' HO515.out).2.2))
     (case side2 => exact (Kd.R_reads' HO515.out).2.1)
     rintro e w28 ⟨v517, rfl, ho0, hb⟩
     refine ⟨_, rfl, ?_⟩
     have HO518 := A_ (Kd.R_lower (Kd.R_new' ho0 (Kd.R_lt (kr_ HO515.out))) (below_size (hb2_ HB.out GE505.out GE506.out)))
     replace HO515 := A_ (Kd.R_elder' (kr_ HO515.out) (Kd.R_base ho0) hb)
     replace BK505 := A_ (bb_ BK505.out hb)
     replace BK506 := A_ (bb_ BK506.out hb)
     replace HB := A_ (below_step (hb2_ HB.out GE505.out GE506.out) hb);(try clear hb);(try clear hb2);(try clear hk);(try clear hi);(try clear ho0)
     refine hK.out _ _ ⟨bc_ BK505.out 0, bc_ BK505.out 1, bc_ BK505.out 2, bc_ BK505.out 3⟩ (fun hHeld => ?_)
     clear hK K
     refine norm_ (a' := ?_) ?_ ?_
     rotate_left
     ·show Act.put _ (some 21) _ = _
      simp only [Act.put, lI_, l0_, lS_, i64_w, i32_w]
      rfl
     refine one_ (i := 5) (N := some 5) #[true, true, true, true, true, true, false] rfl rfl (by kernel_rfl) (by decide) (fun K hK => ?_)
     refine box_step ?hg (N := 5) ?hd (cs := #[.slice none 0 0]) (t := 53) ?hr ?_; (case hd => rfl); (case hg => rfl); (case hr => first | (go_simp; done) | (go_simp; rfl))
     intro gb519 hg w29 hbox hb
     have BK519 := A_ (hbox)
     have GW519 := A_ (sz_ hg (hb2_ HB.out GE505.out GE506.out))
     have GE519 := A_ (sz_ hg (hb2_ HB.out GE505.out GE506.out))
     have NB505_519 := A_ (nl_ hg BK505.out)
     have NB519_505 := A_ (ng_ hg BK505.out)
     have NB506_519 := A_ (nl_ hg BK506.out)
     have NB519_506 := A_ (ng_ hg BK506.out)
     replace HO515 := A_ (Kd.R_below (kr_ HO515.out) hb)
     replace HO518 := A_ (Kd.R_below (kr_ HO518.out) hb)
     replace BK505 := A_ (bb_ BK505.out hb)
     replace BK506 := A_ (bb_ BK506.out hb)
     replace HB := A_ (below_step (hb2_ HB.out GE505.out GE506.out) hb);clear hb hbox hg
     refine hK.out _ _ ⟨bc_ BK505.out 0, bc_ BK505.out 1, bc_ BK505.out 2, bc_ BK505.out 3⟩ (fun hHeld => ?_)
     clear hK K
     refine norm_ (a' := ?_) ?_ ?_
     rotate_left
     ·show Act.put _ (some 5) _ = _
      simp only [Act.put, lI_, l0_, lS_, i64_w, i32_w]
      rfl
     exact norm_ (by simp only [putAll, Act.put, lI_, l0_, lS_]) (hCont (.slice Ao27 t513.length co27, v517, gb519) _ ⟨hHeld, (by (with_reducible repeat (first | apply Kd.R_alloc | apply Kd.R_drewN | apply Kd.R_drew)); exact Kd.R_mono HO515.out (fun _ hk => hk.2)), (by (with_reducible repeat (first | apply Kd.R_alloc | apply Kd.R_drewN | apply Kd.R_drew)); exact Kd.R_mono HO518.out (fun _ hk => hk.2)), (bk_ BK505.out), (bk_ BK506.out), (bk_ BK519.out), GW519.out, GE519.out, NB505_519.out, NB519_505.out, NB506_519.out, NB519_506.out, (hb3_ HB.out GE505.out GE506.out GE519.out)⟩)
    ·skip
     refine box_step ?hg (N := 5) ?hd (cs := #[.slice none 0 0]) (t := 53) ?hr ?_; (case hd => rfl); (case hg => rfl); (case hr => first | (go_simp; done) | (go_simp; rfl))
     intro gb519 hg w27 hbox hb
     have BK519 := A_ (hbox)
     have GW519 := A_ (sz_ hg (hb2_ HB.out GE505.out GE506.out))
     have GE519 := A_ (sz_ hg (hb2_ HB.out GE505.out GE506.out))
     have NB505_519 := A_ (nl_ hg BK505.out)
     have NB519_505 := A_ (ng_ hg BK505.out)
     have NB506_519 := A_ (nl_ hg BK506.out)
     have NB519_506 := A_ (ng_ hg BK506.out)
     replace HO515 := A_ (Kd.R_below (kr_ HO515.out) hb)
     replace BK505 := A_ (bb_ BK505.out hb)
     replace BK506 := A_ (bb_ BK506.out hb)
     replace HB := A_ (below_step (hb2_ HB.out GE505.out GE506.out) hb);clear hb hbox hg
     obtain ⟨Ao28, co28, eo28⟩ := Kd.R_slice HO515.out
     (first | subst eo28 | (injection eo28 with f1_ f2_ f3_; have f4_ := f1_.symm; have f5_ := f3_.symm; clear f1_ f2_ f3_; subst f4_; subst f5_))
     refine hK.out _ _ ⟨bc_ BK505.out 0, bc_ BK505.out 1, bc_ BK505.out 2, bc_ BK505.out 3⟩ (fun hHeld => ?_)
     clear hK K
     refine norm_ (a' := ?_) ?_ ?_
     rotate_left
     ·show Act.put _ (some 5) _ = _
      simp only [Act.put, lI_, l0_, lS_, i64_w, i32_w]
      rfl
     refine one_ (i := 4) (N := some 21) #[true, true, true, true, true, true, false] rfl rfl (by kernel_rfl) (by decide) (fun K hK => ?_)
     refine goes_ Try.func32 (by kernel_rfl) rfl #[.agg #[.slice Ao28 t513.length co28], .int .i64 (wrap64 (-a0_2))] (by rfl) rfl rfl mp_ ?_
     with_reducible refine (r1_Shl.calls k _ _ t513 (wrap64 (-a0_2)) t516 _ ?side1 ?side2 A16.out).mono ?_
     (case side1 => exact cs_ ((Kd.R_reads' HO515.out).2.2))
     (case side2 => exact (Kd.R_reads' HO515.out).2.1)
     rintro e w29 ⟨v517, rfl, ho0, hb⟩
     refine ⟨_, rfl, ?_⟩
     have HO518 := A_ (Kd.R_lower (Kd.R_new' ho0 (Kd.R_lt (kr_ HO515.out))) (below_size (hb3_ HB.out GE505.out GE506.out GE519.out)))
     replace HO515 := A_ (Kd.R_elder' (kr_ HO515.out) (Kd.R_base ho0) hb)
     replace BK505 := A_ (bb_ BK505.out hb)
     replace BK506 := A_ (bb_ BK506.out hb)
     replace BK519 := A_ (bb_ BK519.out hb)
     replace HB := A_ (below_step (hb3_ HB.out GE505.out GE506.out GE519.out) hb);(try clear hb);(try clear hb2);(try clear hk);(try clear hi);(try clear ho0)
     refine hK.out _ _ ⟨bc_ BK505.out 0, bc_ BK505.out 1, bc_ BK505.out 2, bc_ BK505.out 3⟩ (fun hHeld => ?_)
     clear hK K
     refine norm_ (a' := ?_) ?_ ?_
     rotate_left
     ·show Act.put _ (some 21) _ = _
      simp only [Act.put, lI_, l0_, lS_, i64_w, i32_w]
      rfl
     exact norm_ (by simp only [putAll, Act.put, lI_, l0_, lS_]) (hCont (.slice Ao28 t513.length co28, v517, gb519) _ ⟨hHeld, (by (with_reducible repeat (first | apply Kd.R_alloc | apply Kd.R_drewN | apply Kd.R_drew)); exact Kd.R_mono HO515.out (fun _ hk => hk.2)), (by (with_reducible repeat (first | apply Kd.R_alloc | apply Kd.R_drewN | apply Kd.R_drew)); exact Kd.R_mono HO518.out (fun _ hk => hk.2)), (bk_ BK505.out), (bk_ BK506.out), (bk_ BK519.out), GW519.out, GE519.out, NB505_519.out, NB519_505.out, NB506_519.out, NB519_506.out, (hb3_ HB.out GE505.out GE506.out GE519.out)⟩)
   ·skip
    refine box_step ?hg (N := 5) ?hd (cs := #[.slice none 0 0]) (t := 53) ?hr ?_; (case hd => rfl); (case hg => rfl); (case hr => first | (go_simp; done) | (go_simp; rfl))
    intro gb519 hg w26 hbox hb
    have BK519 := A_ (hbox)
    have GW519 := A_ (sz_ hg (hb2_ HB.out GE505.out GE506.out))
    have GE519 := A_ (sz_ hg (hb2_ HB.out GE505.out GE506.out))
    have NB505_519 := A_ (nl_ hg BK505.out)
    have NB519_505 := A_ (ng_ hg BK505.out)
    have NB506_519 := A_ (nl_ hg BK506.out)
    have NB519_506 := A_ (ng_ hg BK506.out)
    replace BK505 := A_ (bb_ BK505.out hb)
    replace BK506 := A_ (bb_ BK506.out hb)
    replace HB := A_ (below_step (hb2_ HB.out GE505.out GE506.out) hb);clear hb hbox hg
    refine hK.out _ _ ⟨bc_ BK505.out 0, bc_ BK505.out 1, bc_ BK505.out 2, bc_ BK505.out 3⟩ (fun hHeld => ?_)
    clear hK K
    refine norm_ (a' := ?_) ?_ ?_
    rotate_left
    ·show Act.put _ (some 5) _ = _
     simp only [Act.put, lI_, l0_, lS_, i64_w, i32_w]
     rfl
    refine one_ (i := 0) (N := some 17) #[true, true, true, true, false, true, false] rfl rfl (by kernel_rfl) (by decide) (fun K hK => ?_)
    refine goes_ Try.func33 (by kernel_rfl) rfl #[.int .u64 1] (by rfl) rfl rfl mp_ ?_
    with_reducible refine (r1_Of.calls k 1 t513 _ A15.out).mono ?_
    rintro e w27 ⟨v514, rfl, ho0, hb⟩
    refine ⟨_, rfl, ?_⟩
    have HO515 := A_ (Kd.R_lower ho0 (below_size (hb3_ HB.out GE505.out GE506.out GE519.out)))
    replace BK505 := A_ (bb_ BK505.out hb)
    replace BK506 := A_ (bb_ BK506.out hb)
    replace BK519 := A_ (bb_ BK519.out hb)
    replace HB := A_ (below_step (hb3_ HB.out GE505.out GE506.out GE519.out) hb);(try clear hb);(try clear hb2);(try clear hk);(try clear hi);(try clear ho0)
    obtain ⟨Ao28, co28, eo28⟩ := Kd.R_slice HO515.out
    (first | subst eo28 | (injection eo28 with f1_ f2_ f3_; have f4_ := f1_.symm; have f5_ := f3_.symm; clear f1_ f2_ f3_; subst f4_; subst f5_))
    refine hK.out _ _ ⟨bc_ BK505.out 0, bc_ BK505.out 1, bc_ BK505.out 2, bc_ BK505.out 3⟩ (fun hHeld => ?_)
    clear hK K
    refine norm_ (a' := ?_) ?_ ?_
    rotate_left
    ·show Act.put _ (some 17) _ = _
     simp only [Act.put, lI_, l0_, lS_, i64_w, i32_w]
     rfl
    refine one_ (i := 4) (N := some 21) #[true, true, true, true, true, true, false] rfl rfl (by kernel_rfl) (by decide) (fun K hK => ?_)
    refine goes_ Try.func32 (by kernel_rfl) rfl #[.agg #[.slice Ao28 t513.length co28], .int .i64 (wrap64 (-a0_2))] (by rfl) rfl rfl mp_ ?_
    with_reducible refine (r1_Shl.calls k _ _ t513 (wrap64 (-a0_2)) t516 _ ?side1 ?side2 A16.out).mono ?_
    (case side1 => exact cs_ ((Kd.R_reads' HO515.out).2.2))
    (case side2 => exact (Kd.R_reads' HO515.out).2.1)
    rintro e w29 ⟨v517, rfl, ho0, hb⟩
    refine ⟨_, rfl, ?_⟩
    have HO518 := A_ (Kd.R_lower (Kd.R_new' ho0 (Kd.R_lt (kr_ HO515.out))) (below_size (hb3_ HB.out GE505.out GE506.out GE519.out)))
    replace HO515 := A_ (Kd.R_elder' (kr_ HO515.out) (Kd.R_base ho0) hb)
    replace BK505 := A_ (bb_ BK505.out hb)
    replace BK506 := A_ (bb_ BK506.out hb)
    replace BK519 := A_ (bb_ BK519.out hb)
    replace HB := A_ (below_step (hb3_ HB.out GE505.out GE506.out GE519.out) hb);(try clear hb);(try clear hb2);(try clear hk);(try clear hi);(try clear ho0)
    refine hK.out _ _ ⟨bc_ BK505.out 0, bc_ BK505.out 1, bc_ BK505.out 2, bc_ BK505.out 3⟩ (fun hHeld => ?_)
    clear hK K
    refine norm_ (a' := ?_) ?_ ?_
    rotate_left
    ·show Act.put _ (some 21) _ = _
     simp only [Act.put, lI_, l0_, lS_, i64_w, i32_w]
     rfl
    exact norm_ (by simp only [putAll, Act.put, lI_, l0_, lS_]) (hCont (.slice Ao28 t513.length co28, v517, gb519) _ ⟨hHeld, (by (with_reducible repeat (first | apply Kd.R_alloc | apply Kd.R_drewN | apply Kd.R_drew)); exact Kd.R_mono HO515.out (fun _ hk => hk.2)), (by (with_reducible repeat (first | apply Kd.R_alloc | apply Kd.R_drewN | apply Kd.R_drew)); exact Kd.R_mono HO518.out (fun _ hk => hk.2)), (bk_ BK505.out), (bk_ BK506.out), (bk_ BK519.out), GW519.out, GE519.out, NB505_519.out, NB519_505.out, NB506_519.out, NB519_506.out, (hb3_ HB.out GE505.out GE506.out GE519.out)⟩)
  rintro ⟨v514, v517, gb519⟩ w30 ⟨hS_, h0_, h1_, h2_, h3_, h4_, h5_, h6_, h7_, h8_, h9_, h10_, h11_⟩
  have n0_ : Aside0 (Kd.R (Kd.int .u64) 22 w30 w.heap.size (fun k_ => some k_ ≠ (v517 : Value).ownBlock) v514 t513) := ⟨h0_⟩
  have n1_ : Aside0 (Kd.R (Kd.int .u64) 22 w30 w.heap.size (fun k_ => some k_ ≠ (v514 : Value).ownBlock) v517 t516) := ⟨h1_⟩
  have n2_ : Aside0 (w30.heap[gb505]? = some (.cells #[.bool a0_0, .int .i64 a0_1, .int .i64 a0_2, .int .u64 a0_3] 67 (0, 0))) := ⟨h2_⟩
  have n3_ : Aside0 (w30.heap[gb506]? = some (.cells #[.slice none 0 0] 53 (0, 0))) := ⟨h3_⟩
  have n4_ : Aside0 (w30.heap[gb519]? = some (.cells #[.slice none 0 0] 53 (0, 0))) := ⟨h4_⟩
  have n5_ : Aside0 (w.heap.size ≤ gb519) := ⟨h5_⟩
  have n6_ : Aside0 (w.heap.size ≤ gb519) := ⟨h6_⟩
  have n7_ : Aside0 (gb505 ≠ gb519) := ⟨h7_⟩
  have n8_ : Aside0 (gb519 ≠ gb505) := ⟨h8_⟩
  have n9_ : Aside0 (gb506 ≠ gb519) := ⟨h9_⟩
  have n10_ : Aside0 (gb519 ≠ gb506) := ⟨h10_⟩
  have n11_ : Aside0 (Below w.heap.size w w30) := ⟨h11_⟩
  clear BK505;clear BK506;clear HB;clear h0_ h1_ h2_ h3_ h4_ h5_ h6_ h7_ h8_ h9_ h10_ h11_;have HO515 := n0_;have HO518 := n1_;have BK505 := n2_;have BK506 := n3_;have BK519 := n4_;have GW519 := n5_;have GE519 := n6_;have NB505_519 := n7_;have NB519_505 := n8_;have NB506_519 := n9_;have NB519_506 := n10_;have HB := n11_;clear n0_ n1_ n2_ n3_ n4_ n5_ n6_ n7_ n8_ n9_ n10_ n11_
  have hHeld : w30.cell? ⟨gb505, 0, none⟩ = some (.bool a0_0) ∧ w30.cell? ⟨gb505, 1, none⟩ = some (.int .i64 a0_1) ∧ w30.cell? ⟨gb505, 2, none⟩ = some (.int .i64 a0_2) ∧ w30.cell? ⟨gb505, 3, none⟩ = some (.int .u64 a0_3) := hS_
  obtain ⟨Ao31, co31, eo31⟩ := Kd.R_slice HO518.out
  (first | subst eo31 | (injection eo31 with f1_ f2_ f3_; have f4_ := f1_.symm; have f5_ := f3_.symm; clear f1_ f2_ f3_; subst f4_; subst f5_))
  refine norm_ (a' := ?_) ?_ ?_
  rotate_left
  ·simp only [putAll, Act.put, lI_, l0_, lS_]
   rfl
  refine one_ (i := 6) (N := none) #[true, true, true, true, true, true, true] rfl rfl (by kernel_rfl) (by decide) (fun K hK => ?_)
  have hs32 : w30.cell? ⟨gb519, 0, none⟩ = some (.slice none 0 0) := bc_ BK519.out 0
  have hfs32 := blk_frozen BK519.out 0
  have hns32_0 := NB505_519.out
  have hns32_1 := NB506_519.out
  have hms32_0 := NB519_505.out
  have hms32_1 := NB519_506.out
  refine skip_ (w1 := ?_) (by rfl) rfl ?_ ?_
  rotate_left
  ·go_simp
   rfl
  refine hK.out _ _ ⟨((cell_far (p := ⟨gb519, _, none⟩) NB505_519.out _).trans (hHeld.1)), ((cell_far (p := ⟨gb519, _, none⟩) NB505_519.out _).trans (hHeld.2.1)), ((cell_far (p := ⟨gb519, _, none⟩) NB505_519.out _).trans (hHeld.2.2.1)), ((cell_far (p := ⟨gb519, _, none⟩) NB505_519.out _).trans (hHeld.2.2.2))⟩ (fun hHeld => ?_)
  clear hK K
  refine done_ (by kernel_rfl) ?_
  try go_wp2
  have n0_ : Aside0 (Kd.R (Kd.int .u64) 22 (w30.setCell ⟨gb519, 0, none⟩ (.slice Ao31 t516.length co31)) w.heap.size (fun k_ => some k_ ≠ (.slice Ao31 t516.length co31 : Value).ownBlock) v514 t513) := ⟨by (with_reducible repeat (first | apply Kd.R_alloc | apply Kd.R_drewN | apply Kd.R_drew)); exact Kd.R_mono (Kd.R_far (p := ⟨gb519, 0, none⟩) (Kd.R_types HO515.out BK519.out (by decide)) (fun _ hk => hk.2) (.slice Ao31 t516.length co31)) (fun _ hk => hk.1)⟩
  have n1_ : Aside0 (Kd.R (Kd.int .u64) 22 (w30.setCell ⟨gb519, 0, none⟩ (.slice Ao31 t516.length co31)) w.heap.size (fun k_ => some k_ ≠ (v514 : Value).ownBlock) (.slice Ao31 t516.length co31) t516) := ⟨by (with_reducible repeat (first | apply Kd.R_alloc | apply Kd.R_drewN | apply Kd.R_drew)); exact Kd.R_mono (Kd.R_far (p := ⟨gb519, 0, none⟩) (Kd.R_types HO518.out BK519.out (by decide)) (fun _ hk => hk.2) (.slice Ao31 t516.length co31)) (fun _ hk => hk.1)⟩
  have n2_ : Aside0 ((w30.setCell ⟨gb519, 0, none⟩ (.slice Ao31 t516.length co31)).heap[gb505]? = some (.cells #[.bool a0_0, .int .i64 a0_1, .int .i64 a0_2, .int .u64 a0_3] 67 (0, 0))) := ⟨bf1_ BK505.out NB505_519.out⟩
  have n3_ : Aside0 ((w30.setCell ⟨gb519, 0, none⟩ (.slice Ao31 t516.length co31)).heap[gb506]? = some (.cells #[.slice none 0 0] 53 (0, 0))) := ⟨bf1_ BK506.out NB506_519.out⟩
  have n4_ : Aside0 ((w30.setCell ⟨gb519, 0, none⟩ (.slice Ao31 t516.length co31)).heap[gb519]? = some (.cells #[.slice Ao31 t516.length co31] 53 (0, 0))) := ⟨by (with_reducible repeat (first | refine blk_drewN ?_ _ | refine blk_drew ?_ | refine blk_alloc ?_ _)); refine blk_put (cs := #[.slice none 0 0]) ?_ 0 _ rfl; (with_reducible repeat (first | refine blk_drewN ?_ _ | refine blk_drew ?_ | refine blk_alloc ?_ _)); exact BK519.out⟩
  have n5_ : Aside0 (Below w.heap.size w (w30.setCell ⟨gb519, 0, none⟩ (.slice Ao31 t516.length co31))) := ⟨hb3_ HB.out GE505.out GE506.out GE519.out⟩
  (try clear HO515);(try clear HO518);(try clear BK505);(try clear BK506);(try clear BK519);(try clear HB)
  generalize (w30.setCell ⟨gb519, 0, none⟩ (.slice Ao31 t516.length co31)) = w33 at n0_ n1_ n2_ n3_ n4_ n5_ ⊢
  have HO515 := n0_;have HO518 := n1_;have BK505 := n2_;have BK506 := n3_;have BK519 := n4_;have HB := n5_;clear n0_ n1_ n2_ n3_ n4_ n5_
  replace HO515 := A_ (Kd.R_drew HO515.out)
  replace HO518 := A_ (Kd.R_drew HO518.out)
  replace BK505 := A_ (blk_drew BK505.out)
  replace BK506 := A_ (blk_drew BK506.out)
  replace BK519 := A_ (blk_drew BK519.out)
  replace HB := A_ (below_drew1 HB.out)
  refine start_ (n := 12) (S := fun w' => w'.cell? ⟨gb505, 0, none⟩ = some (.bool a0_0) ∧ w'.cell? ⟨gb505, 1, none⟩ = some (.int .i64 a0_1) ∧ w'.cell? ⟨gb505, 2, none⟩ = some (.int .i64 a0_2) ∧ w'.cell? ⟨gb505, 3, none⟩ = some (.int .u64 a0_3) ∧ w'.cell? ⟨gb519, 0, none⟩ = some (.slice Ao31 t516.length co31)) (ds := []) #[false, false, false, false, false, false, false, false, false, false, false, false] (by kernel_rfl) rfl rfl ⟨bc_ BK505.out 0, bc_ BK505.out 1, bc_ BK505.out 2, bc_ BK505.out 3, bc_ BK519.out 0⟩ (fun hHeld => ?_); refine with_tabW r9_Down.tab4 r9_Down.bits4 (fun HT_ HW_ => ?_)
  generalize w33.drew = w34 at HO515 HO518 BK505 BK506 BK519 HB hHeld ⊢
  refine pu_ 0 (some 23) #[true, false, false, false, false, false, false, false, false, false, false, false] rfl rfl (any_of HT_.out (by kernel_rfl)) ?_
  refine tk5_ 1 (some 24) #[true, true, false, false, false, false, false, false, false, false, false, false] rfl rfl (take_ofW HT_.out HW_.out (by kernel_rfl)) hHeld ?_
  refine tk5_ 3 (some 26) #[true, true, false, true, false, false, false, false, false, false, false, false] rfl rfl (take_ofW HT_.out HW_.out (by kernel_rfl)) hHeld ?_
  refine join_ (σ := Value × Value × Value × Nat × Nat) 2 #[true, true, true, true, true, true, true, true, true, true, false, false] (fun s_ => [(25, .agg #[s_.1]), (27, .tuple #[.agg #[s_.2.1], .agg #[s_.2.2.1]]), (6, .pointer (some ⟨s_.2.2.2.1, 0, none⟩)), (7, .pointer (some ⟨s_.2.2.2.2, 0, none⟩)), (22, .tuple #[.agg #[s_.2.1], .agg #[s_.2.2.1]]), (28, .agg #[s_.2.1]), (29, .agg #[s_.2.2.1])]) (fun s_ w' => (w'.cell? ⟨gb505, 0, none⟩ = some (.bool a0_0) ∧ w'.cell? ⟨gb505, 1, none⟩ = some (.int .i64 a0_1) ∧ w'.cell? ⟨gb505, 2, none⟩ = some (.int .i64 a0_2) ∧ w'.cell? ⟨gb505, 3, none⟩ = some (.int .u64 a0_3) ∧ w'.cell? ⟨gb519, 0, none⟩ = some (.slice Ao31 t516.length co31)) ∧ (Kd.R (Kd.int .u64) 22 w' w.heap.size (fun k_ => some k_ ≠ (.slice Ao31 t516.length co31 : Value).ownBlock ∧ some k_ ≠ (s_.1 : Value).ownBlock ∧ some k_ ≠ (s_.2.1 : Value).ownBlock) v514 t513) ∧ (Kd.R (Kd.int .u64) 22 w' w.heap.size (fun k_ => some k_ ≠ (v514 : Value).ownBlock ∧ some k_ ≠ (s_.1 : Value).ownBlock ∧ some k_ ≠ (s_.2.1 : Value).ownBlock) (.slice Ao31 t516.length co31) t516) ∧ (Kd.R (Kd.int .u64) 22 w' w.heap.size (fun k_ => some k_ ≠ (v514 : Value).ownBlock ∧ some k_ ≠ (.slice Ao31 t516.length co31 : Value).ownBlock ∧ some k_ ≠ (s_.2.1 : Value).ownBlock) s_.1 t520) ∧ (Kd.R (Kd.int .u64) 22 w' w.heap.size (fun k_ => some k_ ≠ (v514 : Value).ownBlock ∧ some k_ ≠ (.slice Ao31 t516.length co31 : Value).ownBlock ∧ some k_ ≠ (s_.1 : Value).ownBlock) s_.2.1 t523) ∧ (Kd.V (Kd.int .u64) 22 w' w.heap.size (fun k_ => some k_ ≠ (v514 : Value).ownBlock ∧ some k_ ≠ (.slice Ao31 t516.length co31 : Value).ownBlock ∧ some k_ ≠ (s_.2.1 : Value).ownBlock ∧ k_ ≠ gb505 ∧ k_ ≠ gb506 ∧ k_ ≠ gb519 ∧ k_ ≠ s_.2.2.2.1 ∧ k_ ≠ s_.2.2.2.2) s_.2.2.1 t526) ∧ (w'.heap[gb505]? = some (.cells #[.bool a0_0, .int .i64 a0_1, .int .i64 a0_2, .int .u64 a0_3] 67 (0, 0))) ∧ (w'.heap[gb506]? = some (.cells #[.slice none 0 0] 53 (0, 0))) ∧ (w'.heap[gb519]? = some (.cells #[.slice Ao31 t516.length co31] 53 (0, 0))) ∧ (w'.heap[s_.2.2.2.1]? = some (.cells #[.slice none 0 0] 53 (0, 0))) ∧ (w'.heap[s_.2.2.2.2]? = some (.cells #[.slice none 0 0] 53 (0, 0))) ∧ (w.heap.size ≤ s_.2.2.2.1) ∧ (w.heap.size ≤ s_.2.2.2.1) ∧ (gb505 ≠ s_.2.2.2.1) ∧ (s_.2.2.2.1 ≠ gb505) ∧ (gb506 ≠ s_.2.2.2.1) ∧ (s_.2.2.2.1 ≠ gb506) ∧ (gb519 ≠ s_.2.2.2.1) ∧ (s_.2.2.2.1 ≠ gb519) ∧ (s_.2.2.2.2 ≠ s_.2.2.2.1) ∧ (s_.2.2.2.1 ≠ s_.2.2.2.2) ∧ (w.heap.size ≤ s_.2.2.2.2) ∧ (w.heap.size ≤ s_.2.2.2.2) ∧ (gb505 ≠ s_.2.2.2.2) ∧ (s_.2.2.2.2 ≠ gb505) ∧ (gb506 ≠ s_.2.2.2.2) ∧ (s_.2.2.2.2 ≠ gb506) ∧ (gb519 ≠ s_.2.2.2.2) ∧ (s_.2.2.2.2 ≠ gb519) ∧ (Below w.heap.size w w')) ?_ ?_
  rotate_left
  ·intro hJ2_4_8_9
   refine join_ (σ := Value × Value × Value × Nat) 3 #[true, true, true, true, true, true, true, true, true, false, false, false] (fun s_ => [(25, .agg #[s_.1]), (27, .tuple #[.agg #[s_.2.1], .agg #[s_.2.2.1]]), (6, .pointer (some ⟨s_.2.2.2, 0, none⟩)), (22, .tuple #[.agg #[s_.2.1], .agg #[s_.2.2.1]]), (28, .agg #[s_.2.1]), (29, .agg #[s_.2.2.1])]) (fun s_ w' => (w'.cell? ⟨gb505, 0, none⟩ = some (.bool a0_0) ∧ w'.cell? ⟨gb505, 1, none⟩ = some (.int .i64 a0_1) ∧ w'.cell? ⟨gb505, 2, none⟩ = some (.int .i64 a0_2) ∧ w'.cell? ⟨gb505, 3, none⟩ = some (.int .u64 a0_3) ∧ w'.cell? ⟨gb519, 0, none⟩ = some (.slice Ao31 t516.length co31)) ∧ (Kd.R (Kd.int .u64) 22 w' w.heap.size (fun k_ => some k_ ≠ (.slice Ao31 t516.length co31 : Value).ownBlock ∧ some k_ ≠ (s_.1 : Value).ownBlock ∧ some k_ ≠ (s_.2.1 : Value).ownBlock) v514 t513) ∧ (Kd.R (Kd.int .u64) 22 w' w.heap.size (fun k_ => some k_ ≠ (v514 : Value).ownBlock ∧ some k_ ≠ (s_.1 : Value).ownBlock ∧ some k_ ≠ (s_.2.1 : Value).ownBlock) (.slice Ao31 t516.length co31) t516) ∧ (Kd.R (Kd.int .u64) 22 w' w.heap.size (fun k_ => some k_ ≠ (v514 : Value).ownBlock ∧ some k_ ≠ (.slice Ao31 t516.length co31 : Value).ownBlock ∧ some k_ ≠ (s_.2.1 : Value).ownBlock) s_.1 t520) ∧ (Kd.R (Kd.int .u64) 22 w' w.heap.size (fun k_ => some k_ ≠ (v514 : Value).ownBlock ∧ some k_ ≠ (.slice Ao31 t516.length co31 : Value).ownBlock ∧ some k_ ≠ (s_.1 : Value).ownBlock) s_.2.1 t523) ∧ (Kd.V (Kd.int .u64) 22 w' w.heap.size (fun k_ => some k_ ≠ (v514 : Value).ownBlock ∧ some k_ ≠ (.slice Ao31 t516.length co31 : Value).ownBlock ∧ some k_ ≠ (s_.2.1 : Value).ownBlock ∧ k_ ≠ gb505 ∧ k_ ≠ gb506 ∧ k_ ≠ gb519 ∧ k_ ≠ s_.2.2.2) s_.2.2.1 t526) ∧ (w'.heap[gb505]? = some (.cells #[.bool a0_0, .int .i64 a0_1, .int .i64 a0_2, .int .u64 a0_3] 67 (0, 0))) ∧ (w'.heap[gb506]? = some (.cells #[.slice none 0 0] 53 (0, 0))) ∧ (w'.heap[gb519]? = some (.cells #[.slice Ao31 t516.length co31] 53 (0, 0))) ∧ (w'.heap[s_.2.2.2]? = some (.cells #[.slice none 0 0] 53 (0, 0))) ∧ (w.heap.size ≤ s_.2.2.2) ∧ (w.heap.size ≤ s_.2.2.2) ∧ (gb505 ≠ s_.2.2.2) ∧ (s_.2.2.2 ≠ gb505) ∧ (gb506 ≠ s_.2.2.2) ∧ (s_.2.2.2 ≠ gb506) ∧ (gb519 ≠ s_.2.2.2) ∧ (s_.2.2.2 ≠ gb519) ∧ (Below w.heap.size w w')) ?_ ?_
   rotate_left
   ·intro hJ2_4_8
    refine join_ (σ := Value × Value × Value × Nat) 3 #[true, true, true, true, true, true, true, true, false, true, false, false] (fun s_ => [(25, .agg #[s_.1]), (27, .tuple #[.agg #[s_.2.1], .agg #[s_.2.2.1]]), (7, .pointer (some ⟨s_.2.2.2, 0, none⟩)), (22, .tuple #[.agg #[s_.2.1], .agg #[s_.2.2.1]]), (28, .agg #[s_.2.1]), (29, .agg #[s_.2.2.1])]) (fun s_ w' => (w'.cell? ⟨gb505, 0, none⟩ = some (.bool a0_0) ∧ w'.cell? ⟨gb505, 1, none⟩ = some (.int .i64 a0_1) ∧ w'.cell? ⟨gb505, 2, none⟩ = some (.int .i64 a0_2) ∧ w'.cell? ⟨gb505, 3, none⟩ = some (.int .u64 a0_3) ∧ w'.cell? ⟨gb519, 0, none⟩ = some (.slice Ao31 t516.length co31)) ∧ (Kd.R (Kd.int .u64) 22 w' w.heap.size (fun k_ => some k_ ≠ (.slice Ao31 t516.length co31 : Value).ownBlock ∧ some k_ ≠ (s_.1 : Value).ownBlock ∧ some k_ ≠ (s_.2.1 : Value).ownBlock) v514 t513) ∧ (Kd.R (Kd.int .u64) 22 w' w.heap.size (fun k_ => some k_ ≠ (v514 : Value).ownBlock ∧ some k_ ≠ (s_.1 : Value).ownBlock ∧ some k_ ≠ (s_.2.1 : Value).ownBlock) (.slice Ao31 t516.length co31) t516) ∧ (Kd.R (Kd.int .u64) 22 w' w.heap.size (fun k_ => some k_ ≠ (v514 : Value).ownBlock ∧ some k_ ≠ (.slice Ao31 t516.length co31 : Value).ownBlock ∧ some k_ ≠ (s_.2.1 : Value).ownBlock) s_.1 t520) ∧ (Kd.R (Kd.int .u64) 22 w' w.heap.size (fun k_ => some k_ ≠ (v514 : Value).ownBlock ∧ some k_ ≠ (.slice Ao31 t516.length co31 : Value).ownBlock ∧ some k_ ≠ (s_.1 : Value).ownBlock) s_.2.1 t523) ∧ (Kd.V (Kd.int .u64) 22 w' w.heap.size (fun k_ => some k_ ≠ (v514 : Value).ownBlock ∧ some k_ ≠ (.slice Ao31 t516.length co31 : Value).ownBlock ∧ some k_ ≠ (s_.2.1 : Value).ownBlock ∧ k_ ≠ gb505 ∧ k_ ≠ gb506 ∧ k_ ≠ gb519 ∧ k_ ≠ s_.2.2.2) s_.2.2.1 t526) ∧ (w'.heap[gb505]? = some (.cells #[.bool a0_0, .int .i64 a0_1, .int .i64 a0_2, .int .u64 a0_3] 67 (0, 0))) ∧ (w'.heap[gb506]? = some (.cells #[.slice none 0 0] 53 (0, 0))) ∧ (w'.heap[gb519]? = some (.cells #[.slice Ao31 t516.length co31] 53 (0, 0))) ∧ (w'.heap[s_.2.2.2]? = some (.cells #[.slice none 0 0] 53 (0, 0))) ∧ (w.heap.size ≤ s_.2.2.2) ∧ (w.heap.size ≤ s_.2.2.2) ∧ (gb505 ≠ s_.2.2.2) ∧ (s_.2.2.2 ≠ gb505) ∧ (gb506 ≠ s_.2.2.2) ∧ (s_.2.2.2 ≠ gb506) ∧ (gb519 ≠ s_.2.2.2) ∧ (s_.2.2.2 ≠ gb519) ∧ (Below w.heap.size w w')) ?_ ?_
    rotate_left
    ·intro hJ2_4_9
     refine join_ (σ := Value × Nat × Nat) 6 #[true, true, true, true, false, false, false, false, true, true, false, false] (fun s_ => [(25, .agg #[s_.1]), (6, .pointer (some ⟨s_.2.1, 0, none⟩)), (7, .pointer (some ⟨s_.2.2, 0, none⟩))]) (fun s_ w' => (w'.cell? ⟨gb505, 0, none⟩ = some (.bool a0_0) ∧ w'.cell? ⟨gb505, 1, none⟩ = some (.int .i64 a0_1) ∧ w'.cell? ⟨gb505, 2, none⟩ = some (.int .i64 a0_2) ∧ w'.cell? ⟨gb505, 3, none⟩ = some (.int .u64 a0_3) ∧ w'.cell? ⟨gb519, 0, none⟩ = some (.slice Ao31 t516.length co31)) ∧ (Kd.R (Kd.int .u64) 22 w' w.heap.size (fun k_ => some k_ ≠ (.slice Ao31 t516.length co31 : Value).ownBlock ∧ some k_ ≠ (s_.1 : Value).ownBlock) v514 t513) ∧ (Kd.R (Kd.int .u64) 22 w' w.heap.size (fun k_ => some k_ ≠ (v514 : Value).ownBlock ∧ some k_ ≠ (s_.1 : Value).ownBlock) (.slice Ao31 t516.length co31) t516) ∧ (Kd.R (Kd.int .u64) 22 w' w.heap.size (fun k_ => some k_ ≠ (v514 : Value).ownBlock ∧ some k_ ≠ (.slice Ao31 t516.length co31 : Value).ownBlock) s_.1 t520) ∧ (w'.heap[gb505]? = some (.cells #[.bool a0_0, .int .i64 a0_1, .int .i64 a0_2, .int .u64 a0_3] 67 (0, 0))) ∧ (w'.heap[gb506]? = some (.cells #[.slice none 0 0] 53 (0, 0))) ∧ (w'.heap[gb519]? = some (.cells #[.slice Ao31 t516.length co31] 53 (0, 0))) ∧ (w'.heap[s_.2.1]? = some (.cells #[.slice none 0 0] 53 (0, 0))) ∧ (w'.heap[s_.2.2]? = some (.cells #[.slice none 0 0] 53 (0, 0))) ∧ (w.heap.size ≤ s_.2.1) ∧ (w.heap.size ≤ s_.2.1) ∧ (gb505 ≠ s_.2.1) ∧ (s_.2.1 ≠ gb505) ∧ (gb506 ≠ s_.2.1) ∧ (s_.2.1 ≠ gb506) ∧ (gb519 ≠ s_.2.1) ∧ (s_.2.1 ≠ gb519) ∧ (s_.2.2 ≠ s_.2.1) ∧ (s_.2.1 ≠ s_.2.2) ∧ (w.heap.size ≤ s_.2.2) ∧ (w.heap.size ≤ s_.2.2) ∧ (gb505 ≠ s_.2.2) ∧ (s_.2.2 ≠ gb505) ∧ (gb506 ≠ s_.2.2) ∧ (s_.2.2 ≠ gb506) ∧ (gb519 ≠ s_.2.2) ∧ (s_.2.2 ≠ gb519) ∧ (Below w.heap.size w w')) ?_ ?_
     rotate_left
     ·intro hJ2_8_9
      refine join_ (σ := Value × Value × Value) 4 #[true, true, true, true, true, true, true, true, false, false, false, false] (fun s_ => [(25, .agg #[s_.1]), (27, .tuple #[.agg #[s_.2.1], .agg #[s_.2.2]]), (22, .tuple #[.agg #[s_.2.1], .agg #[s_.2.2]]), (28, .agg #[s_.2.1]), (29, .agg #[s_.2.2])]) (fun s_ w' => (w'.cell? ⟨gb505, 0, none⟩ = some (.bool a0_0) ∧ w'.cell? ⟨gb505, 1, none⟩ = some (.int .i64 a0_1) ∧ w'.cell? ⟨gb505, 2, none⟩ = some (.int .i64 a0_2) ∧ w'.cell? ⟨gb505, 3, none⟩ = some (.int .u64 a0_3) ∧ w'.cell? ⟨gb519, 0, none⟩ = some (.slice Ao31 t516.length co31)) ∧ (Kd.R (Kd.int .u64) 22 w' w.heap.size (fun k_ => some k_ ≠ (.slice Ao31 t516.length co31 : Value).ownBlock ∧ some k_ ≠ (s_.1 : Value).ownBlock ∧ some k_ ≠ (s_.2.1 : Value).ownBlock) v514 t513) ∧ (Kd.R (Kd.int .u64) 22 w' w.heap.size (fun k_ => some k_ ≠ (v514 : Value).ownBlock ∧ some k_ ≠ (s_.1 : Value).ownBlock ∧ some k_ ≠ (s_.2.1 : Value).ownBlock) (.slice Ao31 t516.length co31) t516) ∧ (Kd.R (Kd.int .u64) 22 w' w.heap.size (fun k_ => some k_ ≠ (v514 : Value).ownBlock ∧ some k_ ≠ (.slice Ao31 t516.length co31 : Value).ownBlock ∧ some k_ ≠ (s_.2.1 : Value).ownBlock) s_.1 t520) ∧ (Kd.R (Kd.int .u64) 22 w' w.heap.size (fun k_ => some k_ ≠ (v514 : Value).ownBlock ∧ some k_ ≠ (.slice Ao31 t516.length co31 : Value).ownBlock ∧ some k_ ≠ (s_.1 : Value).ownBlock) s_.2.1 t523) ∧ (Kd.V (Kd.int .u64) 22 w' w.heap.size (fun k_ => some k_ ≠ (v514 : Value).ownBlock ∧ some k_ ≠ (.slice Ao31 t516.length co31 : Value).ownBlock ∧ some k_ ≠ (s_.2.1 : Value).ownBlock ∧ k_ ≠ gb505 ∧ k_ ≠ gb506 ∧ k_ ≠ gb519) s_.2.2 t526) ∧ (w'.heap[gb505]? = some (.cells #[.bool a0_0, .int .i64 a0_1, .int .i64 a0_2, .int .u64 a0_3] 67 (0, 0))) ∧ (w'.heap[gb506]? = some (.cells #[.slice none 0 0] 53 (0, 0))) ∧ (w'.heap[gb519]? = some (.cells #[.slice Ao31 t516.length co31] 53 (0, 0))) ∧ (Below w.heap.size w w')) ?_ ?_
      rotate_left
      ·intro hJ2_4
       refine join_ (σ := Value × Nat) 7 #[true, true, true, true, false, false, false, false, true, false, false, false] (fun s_ => [(25, .agg #[s_.1]), (6, .pointer (some ⟨s_.2, 0, none⟩))]) (fun s_ w' => (w'.cell? ⟨gb505, 0, none⟩ = some (.bool a0_0) ∧ w'.cell? ⟨gb505, 1, none⟩ = some (.int .i64 a0_1) ∧ w'.cell? ⟨gb505, 2, none⟩ = some (.int .i64 a0_2) ∧ w'.cell? ⟨gb505, 3, none⟩ = some (.int .u64 a0_3) ∧ w'.cell? ⟨gb519, 0, none⟩ = some (.slice Ao31 t516.length co31)) ∧ (Kd.R (Kd.int .u64) 22 w' w.heap.size (fun k_ => some k_ ≠ (.slice Ao31 t516.length co31 : Value).ownBlock ∧ some k_ ≠ (s_.1 : Value).ownBlock) v514 t513) ∧ (Kd.R (Kd.int .u64) 22 w' w.heap.size (fun k_ => some k_ ≠ (v514 : Value).ownBlock ∧ some k_ ≠ (s_.1 : Value).ownBlock) (.slice Ao31 t516.length co31) t516) ∧ (Kd.R (Kd.int .u64) 22 w' w.heap.size (fun k_ => some k_ ≠ (v514 : Value).ownBlock ∧ some k_ ≠ (.slice Ao31 t516.length co31 : Value).ownBlock) s_.1 t520) ∧ (w'.heap[gb505]? = some (.cells #[.bool a0_0, .int .i64 a0_1, .int .i64 a0_2, .int .u64 a0_3] 67 (0, 0))) ∧ (w'.heap[gb506]? = some (.cells #[.slice none 0 0] 53 (0, 0))) ∧ (w'.heap[gb519]? = some (.cells #[.slice Ao31 t516.length co31] 53 (0, 0))) ∧ (w'.heap[s_.2]? = some (.cells #[.slice none 0 0] 53 (0, 0))) ∧ (w.heap.size ≤ s_.2) ∧ (w.heap.size ≤ s_.2) ∧ (gb505 ≠ s_.2) ∧ (s_.2 ≠ gb505) ∧ (gb506 ≠ s_.2) ∧ (s_.2 ≠ gb506) ∧ (gb519 ≠ s_.2) ∧ (s_.2 ≠ gb519) ∧ (Below w.heap.size w w')) ?_ ?_
       rotate_left
       ·intro hJ2_8
        refine join_ (σ := Value × Nat) 7 #[true, true, true, true, false, false, false, false, false, true, false, false] (fun s_ => [(25, .agg #[s_.1]), (7, .pointer (some ⟨s_.2, 0, none⟩))]) (fun s_ w' => (w'.cell? ⟨gb505, 0, none⟩ = some (.bool a0_0) ∧ w'.cell? ⟨gb505, 1, none⟩ = some (.int .i64 a0_1) ∧ w'.cell? ⟨gb505, 2, none⟩ = some (.int .i64 a0_2) ∧ w'.cell? ⟨gb505, 3, none⟩ = some (.int .u64 a0_3) ∧ w'.cell? ⟨gb519, 0, none⟩ = some (.slice Ao31 t516.length co31)) ∧ (Kd.R (Kd.int .u64) 22 w' w.heap.size (fun k_ => some k_ ≠ (.slice Ao31 t516.length co31 : Value).ownBlock ∧ some k_ ≠ (s_.1 : Value).ownBlock) v514 t513) ∧ (Kd.R (Kd.int .u64) 22 w' w.heap.size (fun k_ => some k_ ≠ (v514 : Value).ownBlock ∧ some k_ ≠ (s_.1 : Value).ownBlock) (.slice Ao31 t516.length co31) t516) ∧ (Kd.R (Kd.int .u64) 22 w' w.heap.size (fun k_ => some k_ ≠ (v514 : Value).ownBlock ∧ some k_ ≠ (.slice Ao31 t516.length co31 : Value).ownBlock) s_.1 t520) ∧ (w'.heap[gb505]? = some (.cells #[.bool a0_0, .int .i64 a0_1, .int .i64 a0_2, .int .u64 a0_3] 67 (0, 0))) ∧ (w'.heap[gb506]? = some (.cells #[.slice none 0 0] 53 (0, 0))) ∧ (w'.heap[gb519]? = some (.cells #[.slice Ao31 t516.length co31] 53 (0, 0))) ∧ (w'.heap[s_.2]? = some (.cells #[.slice none 0 0] 53 (0, 0))) ∧ (w.heap.size ≤ s_.2) ∧ (w.heap.size ≤ s_.2) ∧ (gb505 ≠ s_.2) ∧ (s_.2 ≠ gb505) ∧ (gb506 ≠ s_.2) ∧ (s_.2 ≠ gb506) ∧ (gb519 ≠ s_.2) ∧ (s_.2 ≠ gb519) ∧ (Below w.heap.size w w')) ?_ ?_
        rotate_left
        ·intro hJ2_9
         refine join_ (σ := Nat × Nat) 7 #[true, true, false, true, false, false, false, false, true, true, false, false] (fun s_ => [(6, .pointer (some ⟨s_.1, 0, none⟩)), (7, .pointer (some ⟨s_.2, 0, none⟩))]) (fun s_ w' => (w'.cell? ⟨gb505, 0, none⟩ = some (.bool a0_0) ∧ w'.cell? ⟨gb505, 1, none⟩ = some (.int .i64 a0_1) ∧ w'.cell? ⟨gb505, 2, none⟩ = some (.int .i64 a0_2) ∧ w'.cell? ⟨gb505, 3, none⟩ = some (.int .u64 a0_3) ∧ w'.cell? ⟨gb519, 0, none⟩ = some (.slice Ao31 t516.length co31)) ∧ (Kd.R (Kd.int .u64) 22 w' w.heap.size (fun k_ => some k_ ≠ (.slice Ao31 t516.length co31 : Value).ownBlock) v514 t513) ∧ (Kd.R (Kd.int .u64) 22 w' w.heap.size (fun k_ => some k_ ≠ (v514 : Value).ownBlock) (.slice Ao31 t516.length co31) t516) ∧ (w'.heap[gb505]? = some (.cells #[.bool a0_0, .int .i64 a0_1, .int .i64 a0_2, .int .u64 a0_3] 67 (0, 0))) ∧ (w'.heap[gb506]? = some (.cells #[.slice none 0 0] 53 (0, 0))) ∧ (w'.heap[gb519]? = some (.cells #[.slice Ao31 t516.length co31] 53 (0, 0))) ∧ (w'.heap[s_.1]? = some (.cells #[.slice none 0 0] 53 (0, 0))) ∧ (w'.heap[s_.2]? = some (.cells #[.slice none 0 0] 53 (0, 0))) ∧ (w.heap.size ≤ s_.1) ∧ (w.heap.size ≤ s_.1) ∧ (gb505 ≠ s_.1) ∧ (s_.1 ≠ gb505) ∧ (gb506 ≠ s_.1) ∧ (s_.1 ≠ gb506) ∧ (gb519 ≠ s_.1) ∧ (s_.1 ≠ gb519) ∧ (s_.2 ≠ s_.1) ∧ (s_.1 ≠ s_.2) ∧ (w.heap.size ≤ s_.2) ∧ (w.heap.size ≤ s_.2) ∧ (gb505 ≠ s_.2) ∧ (s_.2 ≠ gb505) ∧ (gb506 ≠ s_.2) ∧ (s_.2 ≠ gb506) ∧ (gb519 ≠ s_.2) ∧ (s_.2 ≠ gb519) ∧ (Below w.heap.size w w')) ?_ ?_
         rotate_left
         ·intro hJ8_9
          refine join_ (σ := Value) 8 #[true, true, true, true, false, false, false, false, false, false, false, false] (fun s_ => [(25, .agg #[s_])]) (fun s_ w' => (w'.cell? ⟨gb505, 0, none⟩ = some (.bool a0_0) ∧ w'.cell? ⟨gb505, 1, none⟩ = some (.int .i64 a0_1) ∧ w'.cell? ⟨gb505, 2, none⟩ = some (.int .i64 a0_2) ∧ w'.cell? ⟨gb505, 3, none⟩ = some (.int .u64 a0_3) ∧ w'.cell? ⟨gb519, 0, none⟩ = some (.slice Ao31 t516.length co31)) ∧ (Kd.R (Kd.int .u64) 22 w' w.heap.size (fun k_ => some k_ ≠ (.slice Ao31 t516.length co31 : Value).ownBlock ∧ some k_ ≠ (s_ : Value).ownBlock) v514 t513) ∧ (Kd.R (Kd.int .u64) 22 w' w.heap.size (fun k_ => some k_ ≠ (v514 : Value).ownBlock ∧ some k_ ≠ (s_ : Value).ownBlock) (.slice Ao31 t516.length co31) t516) ∧ (Kd.R (Kd.int .u64) 22 w' w.heap.size (fun k_ => some k_ ≠ (v514 : Value).ownBlock ∧ some k_ ≠ (.slice Ao31 t516.length co31 : Value).ownBlock) s_ t520) ∧ (w'.heap[gb505]? = some (.cells #[.bool a0_0, .int .i64 a0_1, .int .i64 a0_2, .int .u64 a0_3] 67 (0, 0))) ∧ (w'.heap[gb506]? = some (.cells #[.slice none 0 0] 53 (0, 0))) ∧ (w'.heap[gb519]? = some (.cells #[.slice Ao31 t516.length co31] 53 (0, 0))) ∧ (Below w.heap.size w w')) ?_ ?_
          rotate_left
          ·intro hJ2
           refine join_ (σ := Nat) 8 #[true, true, false, true, false, false, false, false, true, false, false, false] (fun s_ => [(6, .pointer (some ⟨s_, 0, none⟩))]) (fun s_ w' => (w'.cell? ⟨gb505, 0, none⟩ = some (.bool a0_0) ∧ w'.cell? ⟨gb505, 1, none⟩ = some (.int .i64 a0_1) ∧ w'.cell? ⟨gb505, 2, none⟩ = some (.int .i64 a0_2) ∧ w'.cell? ⟨gb505, 3, none⟩ = some (.int .u64 a0_3) ∧ w'.cell? ⟨gb519, 0, none⟩ = some (.slice Ao31 t516.length co31)) ∧ (Kd.R (Kd.int .u64) 22 w' w.heap.size (fun k_ => some k_ ≠ (.slice Ao31 t516.length co31 : Value).ownBlock) v514 t513) ∧ (Kd.R (Kd.int .u64) 22 w' w.heap.size (fun k_ => some k_ ≠ (v514 : Value).ownBlock) (.slice Ao31 t516.length co31) t516) ∧ (w'.heap[gb505]? = some (.cells #[.bool a0_0, .int .i64 a0_1, .int .i64 a0_2, .int .u64 a0_3] 67 (0, 0))) ∧ (w'.heap[gb506]? = some (.cells #[.slice none 0 0] 53 (0, 0))) ∧ (w'.heap[gb519]? = some (.cells #[.slice Ao31 t516.length co31] 53 (0, 0))) ∧ (w'.heap[s_]? = some (.cells #[.slice none 0 0] 53 (0, 0))) ∧ (w.heap.size ≤ s_) ∧ (w.heap.size ≤ s_) ∧ (gb505 ≠ s_) ∧ (s_ ≠ gb505) ∧ (gb506 ≠ s_) ∧ (s_ ≠ gb506) ∧ (gb519 ≠ s_) ∧ (s_ ≠ gb519) ∧ (Below w.heap.size w w')) ?_ ?_
           rotate_left
           ·intro hJ8
            refine join_ (σ := Nat) 8 #[true, true, false, true, false, false, false, false, false, true, false, false] (fun s_ => [(7, .pointer (some ⟨s_, 0, none⟩))]) (fun s_ w' => (w'.cell? ⟨gb505, 0, none⟩ = some (.bool a0_0) ∧ w'.cell? ⟨gb505, 1, none⟩ = some (.int .i64 a0_1) ∧ w'.cell? ⟨gb505, 2, none⟩ = some (.int .i64 a0_2) ∧ w'.cell? ⟨gb505, 3, none⟩ = some (.int .u64 a0_3) ∧ w'.cell? ⟨gb519, 0, none⟩ = some (.slice Ao31 t516.length co31)) ∧ (Kd.R (Kd.int .u64) 22 w' w.heap.size (fun k_ => some k_ ≠ (.slice Ao31 t516.length co31 : Value).ownBlock) v514 t513) ∧ (Kd.R (Kd.int .u64) 22 w' w.heap.size (fun k_ => some k_ ≠ (v514 : Value).ownBlock) (.slice Ao31 t516.length co31) t516) ∧ (w'.heap[gb505]? = some (.cells #[.bool a0_0, .int .i64 a0_1, .int .i64 a0_2, .int .u64 a0_3] 67 (0, 0))) ∧ (w'.heap[gb506]? = some (.cells #[.slice none 0 0] 53 (0, 0))) ∧ (w'.heap[gb519]? = some (.cells #[.slice Ao31 t516.length co31] 53 (0, 0))) ∧ (w'.heap[s_]? = some (.cells #[.slice none 0 0] 53 (0, 0))) ∧ (w.heap.size ≤ s_) ∧ (w.heap.size ≤ s_) ∧ (gb505 ≠ s_) ∧ (s_ ≠ gb505) ∧ (gb506 ≠ s_) ∧ (s_ ≠ gb506) ∧ (gb519 ≠ s_) ∧ (s_ ≠ gb519) ∧ (Below w.heap.size w w')) ?_ ?_
            rotate_left
            ·intro hJ9
             refine three_ (i := 2) (j := 8) (k := 9) (Ni := some 25) (Nj := some 6) (Nk := some 7) #[true, true, true, true, false, false, false, false, false, false, false, false] #[true, true, false, true, false, false, false, false, true, false, false, false] #[true, true, false, true, false, false, false, false, false, true, false, false] rfl rfl rfl rfl rfl rfl (three_of HT_.out (by kernel_rfl)) (by decide) (by decide) (by decide) (fun K hK => ?_) (fun K hK => ?_) (fun K hK => ?_)
             ·skip
              refine goes_ Try.func33 (by kernel_rfl) rfl #[.int .u64 a0_3] (by rfl) rfl rfl mp_ ?_
              with_reducible refine (r1_Of.calls k a0_3 t520 _ A17.out).mono ?_
              rintro e w35 ⟨v521, rfl, ho0, hb⟩
              refine ⟨_, rfl, ?_⟩
              have HO522 := A_ (Kd.R_lower (Kd.R_new' (Kd.R_new' ho0 (Kd.R_lt (kr_ HO515.out))) (Kd.R_lt (kr_ HO518.out))) (below_size (hb3_ HB.out GE505.out GE506.out GE519.out)))
              replace HO515 := A_ (Kd.R_elder' (kr_ HO515.out) (Kd.R_base ho0) hb)
              replace HO518 := A_ (Kd.R_elder' (kr_ HO518.out) (Kd.R_base ho0) hb)
              replace BK505 := A_ (bb_ BK505.out hb)
              replace BK506 := A_ (bb_ BK506.out hb)
              replace BK519 := A_ (bb_ BK519.out hb)
              replace HB := A_ (below_step (hb3_ HB.out GE505.out GE506.out GE519.out) hb);(try clear hb);(try clear hb2);(try clear hk);(try clear hi);(try clear ho0)
              refine hK.out _ _ ⟨bc_ BK505.out 0, bc_ BK505.out 1, bc_ BK505.out 2, bc_ BK505.out 3, bc_ BK519.out 0⟩ (fun hHeld => ?_)
              clear hK K
              refine norm_ (a' := ?_) ?_ ?_
              rotate_left
              ·show Act.put _ (some 25) _ = _
               simp only [Act.put, lI_, l0_, lS_, i64_w, i32_w]
               rfl
              exact norm_ pa_ (hJ2 (_) _ ⟨hHeld, (kr_ HO515.out), (kr_ HO518.out), (by (with_reducible repeat (first | apply Kd.R_alloc | apply Kd.R_drewN | apply Kd.R_drew)); exact Kd.R_mono HO522.out (fun _ hk => ⟨hk.1.2, hk.2⟩)), (bk_ BK505.out), (bk_ BK506.out), (bk_ BK519.out), (hb3_ HB.out GE505.out GE506.out GE519.out)⟩)
             ·skip
              refine box_step ?hg (N := 6) ?hd (cs := #[.slice none 0 0]) (t := 53) ?hr ?_; (case hd => rfl); (case hg => rfl); (case hr => first | (go_simp; done) | (go_simp; rfl))
              intro gb529 hg w35 hbox hb
              have BK529 := A_ (hbox)
              have GW529 := A_ (sz_ hg (hb3_ HB.out GE505.out GE506.out GE519.out))
              have GE529 := A_ (sz_ hg (hb3_ HB.out GE505.out GE506.out GE519.out))
              have NB505_529 := A_ (nl_ hg BK505.out)
              have NB529_505 := A_ (ng_ hg BK505.out)
              have NB506_529 := A_ (nl_ hg BK506.out)
              have NB529_506 := A_ (ng_ hg BK506.out)
              have NB519_529 := A_ (nl_ hg BK519.out)
              have NB529_519 := A_ (ng_ hg BK519.out)
              replace HO515 := A_ (Kd.R_below (kr_ HO515.out) hb)
              replace HO518 := A_ (Kd.R_below (kr_ HO518.out) hb)
              replace BK505 := A_ (bb_ BK505.out hb)
              replace BK506 := A_ (bb_ BK506.out hb)
              replace BK519 := A_ (bb_ BK519.out hb)
              replace HB := A_ (below_step (hb3_ HB.out GE505.out GE506.out GE519.out) hb);clear hb hbox hg
              refine hK.out _ _ ⟨bc_ BK505.out 0, bc_ BK505.out 1, bc_ BK505.out 2, bc_ BK505.out 3, bc_ BK519.out 0⟩ (fun hHeld => ?_)
              clear hK K
              refine norm_ (a' := ?_) ?_ ?_
              rotate_left
              ·show Act.put _ (some 6) _ = _
               simp only [Act.put, lI_, l0_, lS_, i64_w, i32_w]
               rfl
              exact norm_ pa_ (hJ8 (gb529) _ ⟨hHeld, (kr_ HO515.out), (kr_ HO518.out), (bk_ BK505.out), (bk_ BK506.out), (bk_ BK519.out), (bk_ BK529.out), GW529.out, GE529.out, NB505_529.out, NB529_505.out, NB506_529.out, NB529_506.out, NB519_529.out, NB529_519.out, (hb4_ HB.out GE505.out GE506.out GE519.out GE529.out)⟩)
             ·skip
              refine box_step ?hg (N := 7) ?hd (cs := #[.slice none 0 0]) (t := 53) ?hr ?_; (case hd => rfl); (case hg => rfl); (case hr => first | (go_simp; done) | (go_simp; rfl))
              intro gb530 hg w35 hbox hb
              have BK530 := A_ (hbox)
              have GW530 := A_ (sz_ hg (hb3_ HB.out GE505.out GE506.out GE519.out))
              have GE530 := A_ (sz_ hg (hb3_ HB.out GE505.out GE506.out GE519.out))
              have NB505_530 := A_ (nl_ hg BK505.out)
              have NB530_505 := A_ (ng_ hg BK505.out)
              have NB506_530 := A_ (nl_ hg BK506.out)
              have NB530_506 := A_ (ng_ hg BK506.out)
              have NB519_530 := A_ (nl_ hg BK519.out)
              have NB530_519 := A_ (ng_ hg BK519.out)
              replace HO515 := A_ (Kd.R_below (kr_ HO515.out) hb)
              replace HO518 := A_ (Kd.R_below (kr_ HO518.out) hb)
              replace BK505 := A_ (bb_ BK505.out hb)
              replace BK506 := A_ (bb_ BK506.out hb)
              replace BK519 := A_ (bb_ BK519.out hb)
              replace HB := A_ (below_step (hb3_ HB.out GE505.out GE506.out GE519.out) hb);clear hb hbox hg
              refine hK.out _ _ ⟨bc_ BK505.out 0, bc_ BK505.out 1, bc_ BK505.out 2, bc_ BK505.out 3, bc_ BK519.out 0⟩ (fun hHeld => ?_)
              clear hK K
              refine norm_ (a' := ?_) ?_ ?_
              rotate_left
              ·show Act.put _ (some 7) _ = _
               simp only [Act.put, lI_, l0_, lS_, i64_w, i32_w]
               rfl
              exact norm_ pa_ (hJ9 (gb530) _ ⟨hHeld, (kr_ HO515.out), (kr_ HO518.out), (bk_ BK505.out), (bk_ BK506.out), (bk_ BK519.out), (bk_ BK530.out), GW530.out, GE530.out, NB505_530.out, NB530_505.out, NB506_530.out, NB530_506.out, NB519_530.out, NB530_519.out, (hb4_ HB.out GE505.out GE506.out GE519.out GE530.out)⟩)
            ·skip
             rintro gb530 w36 ⟨hS_, h0_, h1_, h2_, h3_, h4_, h5_, h6_, h7_, h8_, h9_, h10_, h11_, h12_, h13_, h14_⟩
             have n0_ : Aside0 (Kd.R (Kd.int .u64) 22 w36 w.heap.size (fun k_ => some k_ ≠ (.slice Ao31 t516.length co31 : Value).ownBlock) v514 t513) := ⟨h0_⟩
             have n1_ : Aside0 (Kd.R (Kd.int .u64) 22 w36 w.heap.size (fun k_ => some k_ ≠ (v514 : Value).ownBlock) (.slice Ao31 t516.length co31) t516) := ⟨h1_⟩
             have n2_ : Aside0 (w36.heap[gb505]? = some (.cells #[.bool a0_0, .int .i64 a0_1, .int .i64 a0_2, .int .u64 a0_3] 67 (0, 0))) := ⟨h2_⟩
             have n3_ : Aside0 (w36.heap[gb506]? = some (.cells #[.slice none 0 0] 53 (0, 0))) := ⟨h3_⟩
             have n4_ : Aside0 (w36.heap[gb519]? = some (.cells #[.slice Ao31 t516.length co31] 53 (0, 0))) := ⟨h4_⟩
             have n5_ : Aside0 (w36.heap[gb530]? = some (.cells #[.slice none 0 0] 53 (0, 0))) := ⟨h5_⟩
             have n6_ : Aside0 (w.heap.size ≤ gb530) := ⟨h6_⟩
             have n7_ : Aside0 (w.heap.size ≤ gb530) := ⟨h7_⟩
             have n8_ : Aside0 (gb505 ≠ gb530) := ⟨h8_⟩
             have n9_ : Aside0 (gb530 ≠ gb505) := ⟨h9_⟩
             have n10_ : Aside0 (gb506 ≠ gb530) := ⟨h10_⟩
             have n11_ : Aside0 (gb530 ≠ gb506) := ⟨h11_⟩
             have n12_ : Aside0 (gb519 ≠ gb530) := ⟨h12_⟩
             have n13_ : Aside0 (gb530 ≠ gb519) := ⟨h13_⟩
             have n14_ : Aside0 (Below w.heap.size w w36) := ⟨h14_⟩
             clear HO515;clear HO518;clear BK505;clear BK506;clear BK519;clear HB;clear h0_ h1_ h2_ h3_ h4_ h5_ h6_ h7_ h8_ h9_ h10_ h11_ h12_ h13_ h14_;have HO515 := n0_;have HO518 := n1_;have BK505 := n2_;have BK506 := n3_;have BK519 := n4_;have BK530 := n5_;have GW530 := n6_;have GE530 := n7_;have NB505_530 := n8_;have NB530_505 := n9_;have NB506_530 := n10_;have NB530_506 := n11_;have NB519_530 := n12_;have NB530_519 := n13_;have HB := n14_;clear n0_ n1_ n2_ n3_ n4_ n5_ n6_ n7_ n8_ n9_ n10_ n11_ n12_ n13_ n14_
             have hHeld : w36.cell? ⟨gb505, 0, none⟩ = some (.bool a0_0) ∧ w36.cell? ⟨gb505, 1, none⟩ = some (.int .i64 a0_1) ∧ w36.cell? ⟨gb505, 2, none⟩ = some (.int .i64 a0_2) ∧ w36.cell? ⟨gb505, 3, none⟩ = some (.int .u64 a0_3) ∧ w36.cell? ⟨gb519, 0, none⟩ = some (.slice Ao31 t516.length co31) := hS_
             refine norm_ (a' := ?_) ?_ ?_
             rotate_left
             ·simp only [putAll, Act.put, lI_, l0_, lS_]
              rfl
             refine two_ (i := 2) (j := 8) (Ni := some 25) (Nj := some 6) #[true, true, true, true, false, false, false, false, false, true, false, false] #[true, true, false, true, false, false, false, false, true, true, false, false] rfl rfl rfl rfl (two_of HT_.out (by kernel_rfl)) (by decide) (by decide) (fun K hK => ?_) (fun K hK => ?_)
             ·skip
              refine goes_ Try.func33 (by kernel_rfl) rfl #[.int .u64 a0_3] (by rfl) rfl rfl mp_ ?_
              with_reducible refine (r1_Of.calls k a0_3 t520 _ A17.out).mono ?_
              rintro e w37 ⟨v521, rfl, ho0, hb⟩
              refine ⟨_, rfl, ?_⟩
              have HO522 := A_ (Kd.R_lower (Kd.R_new' (Kd.R_new' ho0 (Kd.R_lt (kr_ HO515.out))) (Kd.R_lt (kr_ HO518.out))) (below_size (hb4_ HB.out GE505.out GE506.out GE519.out GE530.out)))
              replace HO515 := A_ (Kd.R_elder' (kr_ HO515.out) (Kd.R_base ho0) hb)
              replace HO518 := A_ (Kd.R_elder' (kr_ HO518.out) (Kd.R_base ho0) hb)
              replace BK505 := A_ (bb_ BK505.out hb)
              replace BK506 := A_ (bb_ BK506.out hb)
              replace BK519 := A_ (bb_ BK519.out hb)
              replace BK530 := A_ (bb_ BK530.out hb)
              replace HB := A_ (below_step (hb4_ HB.out GE505.out GE506.out GE519.out GE530.out) hb);(try clear hb);(try clear hb2);(try clear hk);(try clear hi);(try clear ho0)
              refine hK.out _ _ ⟨bc_ BK505.out 0, bc_ BK505.out 1, bc_ BK505.out 2, bc_ BK505.out 3, bc_ BK519.out 0⟩ (fun hHeld => ?_)
              clear hK K
              refine norm_ (a' := ?_) ?_ ?_
              rotate_left
              ·show Act.put _ (some 25) _ = _
               simp only [Act.put, lI_, l0_, lS_, i64_w, i32_w]
               rfl
              exact norm_ pa_ (hJ2_9 (_, gb530) _ ⟨hHeld, (kr_ HO515.out), (kr_ HO518.out), (by (with_reducible repeat (first | apply Kd.R_alloc | apply Kd.R_drewN | apply Kd.R_drew)); exact Kd.R_mono HO522.out (fun _ hk => ⟨hk.1.2, hk.2⟩)), (bk_ BK505.out), (bk_ BK506.out), (bk_ BK519.out), (bk_ BK530.out), GW530.out, GE530.out, NB505_530.out, NB530_505.out, NB506_530.out, NB530_506.out, NB519_530.out, NB530_519.out, (hb4_ HB.out GE505.out GE506.out GE519.out GE530.out)⟩)
             ·skip
              refine box_step ?hg (N := 6) ?hd (cs := #[.slice none 0 0]) (t := 53) ?hr ?_; (case hd => rfl); (case hg => rfl); (case hr => first | (go_simp; done) | (go_simp; rfl))
              intro gb529 hg w37 hbox hb
              have BK529 := A_ (hbox)
              have GW529 := A_ (sz_ hg (hb4_ HB.out GE505.out GE506.out GE519.out GE530.out))
              have GE529 := A_ (sz_ hg (hb4_ HB.out GE505.out GE506.out GE519.out GE530.out))
              have NB505_529 := A_ (nl_ hg BK505.out)
              have NB529_505 := A_ (ng_ hg BK505.out)
              have NB506_529 := A_ (nl_ hg BK506.out)
              have NB529_506 := A_ (ng_ hg BK506.out)
              have NB519_529 := A_ (nl_ hg BK519.out)
              have NB529_519 := A_ (ng_ hg BK519.out)
              have NB530_529 := A_ (nl_ hg BK530.out)
              have NB529_530 := A_ (ng_ hg BK530.out)
              replace HO515 := A_ (Kd.R_below (kr_ HO515.out) hb)
              replace HO518 := A_ (Kd.R_below (kr_ HO518.out) hb)
              replace BK505 := A_ (bb_ BK505.out hb)
              replace BK506 := A_ (bb_ BK506.out hb)
              replace BK519 := A_ (bb_ BK519.out hb)
              replace BK530 := A_ (bb_ BK530.out hb)
              replace HB := A_ (below_step (hb4_ HB.out GE505.out GE506.out GE519.out GE530.out) hb);clear hb hbox hg
              refine hK.out _ _ ⟨bc_ BK505.out 0, bc_ BK505.out 1, bc_ BK505.out 2, bc_ BK505.out 3, bc_ BK519.out 0⟩ (fun hHeld => ?_)
              clear hK K
              refine norm_ (a' := ?_) ?_ ?_
              rotate_left
              ·show Act.put _ (some 6) _ = _
               simp only [Act.put, lI_, l0_, lS_, i64_w, i32_w]
               rfl
              exact norm_ pa_ (hJ8_9 (gb529, gb530) _ ⟨hHeld, (kr_ HO515.out), (kr_ HO518.out), (bk_ BK505.out), (bk_ BK506.out), (bk_ BK519.out), (bk_ BK529.out), (bk_ BK530.out), GW529.out, GE529.out, NB505_529.out, NB529_505.out, NB506_529.out, NB529_506.out, NB519_529.out, NB529_519.out, NB530_529.out, NB529_530.out, GW530.out, GE530.out, NB505_530.out, NB530_505.out, NB506_530.out, NB530_506.out, NB519_530.out, NB530_519.out, (by repeat (first | (with_reducible first | exact HB.out | apply below_alloc | apply pw_below_drewN | apply below_drew1 | refine below_set ?_ GE505.out | refine below_set ?_ GE506.out | refine below_set ?_ GE519.out | refine below_set ?_ GE530.out | refine below_set ?_ GE529.out) | exact HB.out))⟩)
           ·skip
            rintro gb529 w36 ⟨hS_, h0_, h1_, h2_, h3_, h4_, h5_, h6_, h7_, h8_, h9_, h10_, h11_, h12_, h13_, h14_⟩
            have n0_ : Aside0 (Kd.R (Kd.int .u64) 22 w36 w.heap.size (fun k_ => some k_ ≠ (.slice Ao31 t516.length co31 : Value).ownBlock) v514 t513) := ⟨h0_⟩
            have n1_ : Aside0 (Kd.R (Kd.int .u64) 22 w36 w.heap.size (fun k_ => some k_ ≠ (v514 : Value).ownBlock) (.slice Ao31 t516.length co31) t516) := ⟨h1_⟩
            have n2_ : Aside0 (w36.heap[gb505]? = some (.cells #[.bool a0_0, .int .i64 a0_1, .int .i64 a0_2, .int .u64 a0_3] 67 (0, 0))) := ⟨h2_⟩
            have n3_ : Aside0 (w36.heap[gb506]? = some (.cells #[.slice none 0 0] 53 (0, 0))) := ⟨h3_⟩
            have n4_ : Aside0 (w36.heap[gb519]? = some (.cells #[.slice Ao31 t516.length co31] 53 (0, 0))) := ⟨h4_⟩
            have n5_ : Aside0 (w36.heap[gb529]? = some (.cells #[.slice none 0 0] 53 (0, 0))) := ⟨h5_⟩
            have n6_ : Aside0 (w.heap.size ≤ gb529) := ⟨h6_⟩
            have n7_ : Aside0 (w.heap.size ≤ gb529) := ⟨h7_⟩
            have n8_ : Aside0 (gb505 ≠ gb529) := ⟨h8_⟩
            have n9_ : Aside0 (gb529 ≠ gb505) := ⟨h9_⟩
            have n10_ : Aside0 (gb506 ≠ gb529) := ⟨h10_⟩
            have n11_ : Aside0 (gb529 ≠ gb506) := ⟨h11_⟩
            have n12_ : Aside0 (gb519 ≠ gb529) := ⟨h12_⟩
            have n13_ : Aside0 (gb529 ≠ gb519) := ⟨h13_⟩
            have n14_ : Aside0 (Below w.heap.size w w36) := ⟨h14_⟩
            clear HO515;clear HO518;clear BK505;clear BK506;clear BK519;clear HB;clear h0_ h1_ h2_ h3_ h4_ h5_ h6_ h7_ h8_ h9_ h10_ h11_ h12_ h13_ h14_;have HO515 := n0_;have HO518 := n1_;have BK505 := n2_;have BK506 := n3_;have BK519 := n4_;have BK529 := n5_;have GW529 := n6_;have GE529 := n7_;have NB505_529 := n8_;have NB529_505 := n9_;have NB506_529 := n10_;have NB529_506 := n11_;have NB519_529 := n12_;have NB529_519 := n13_;have HB := n14_;clear n0_ n1_ n2_ n3_ n4_ n5_ n6_ n7_ n8_ n9_ n10_ n11_ n12_ n13_ n14_
            have hHeld : w36.cell? ⟨gb505, 0, none⟩ = some (.bool a0_0) ∧ w36.cell? ⟨gb505, 1, none⟩ = some (.int .i64 a0_1) ∧ w36.cell? ⟨gb505, 2, none⟩ = some (.int .i64 a0_2) ∧ w36.cell? ⟨gb505, 3, none⟩ = some (.int .u64 a0_3) ∧ w36.cell? ⟨gb519, 0, none⟩ = some (.slice Ao31 t516.length co31) := hS_
            refine norm_ (a' := ?_) ?_ ?_
            rotate_left
            ·simp only [putAll, Act.put, lI_, l0_, lS_]
             rfl
            refine two_ (i := 2) (j := 9) (Ni := some 25) (Nj := some 7) #[true, true, true, true, false, false, false, false, true, false, false, false] #[true, true, false, true, false, false, false, false, true, true, false, false] rfl rfl rfl rfl (two_of HT_.out (by kernel_rfl)) (by decide) (by decide) (fun K hK => ?_) (fun K hK => ?_)
            ·skip
             refine goes_ Try.func33 (by kernel_rfl) rfl #[.int .u64 a0_3] (by rfl) rfl rfl mp_ ?_
             with_reducible refine (r1_Of.calls k a0_3 t520 _ A17.out).mono ?_
             rintro e w37 ⟨v521, rfl, ho0, hb⟩
             refine ⟨_, rfl, ?_⟩
             have HO522 := A_ (Kd.R_lower (Kd.R_new' (Kd.R_new' ho0 (Kd.R_lt (kr_ HO515.out))) (Kd.R_lt (kr_ HO518.out))) (below_size (hb4_ HB.out GE505.out GE506.out GE519.out GE529.out)))
             replace HO515 := A_ (Kd.R_elder' (kr_ HO515.out) (Kd.R_base ho0) hb)
             replace HO518 := A_ (Kd.R_elder' (kr_ HO518.out) (Kd.R_base ho0) hb)
             replace BK505 := A_ (bb_ BK505.out hb)
             replace BK506 := A_ (bb_ BK506.out hb)
             replace BK519 := A_ (bb_ BK519.out hb)
             replace BK529 := A_ (bb_ BK529.out hb)
             replace HB := A_ (below_step (hb4_ HB.out GE505.out GE506.out GE519.out GE529.out) hb);(try clear hb);(try clear hb2);(try clear hk);(try clear hi);(try clear ho0)
             refine hK.out _ _ ⟨bc_ BK505.out 0, bc_ BK505.out 1, bc_ BK505.out 2, bc_ BK505.out 3, bc_ BK519.out 0⟩ (fun hHeld => ?_)
             clear hK K
             refine norm_ (a' := ?_) ?_ ?_
             rotate_left
             ·show Act.put _ (some 25) _ = _
              simp only [Act.put, lI_, l0_, lS_, i64_w, i32_w]
              rfl
             exact norm_ pa_ (hJ2_8 (_, gb529) _ ⟨hHeld, (kr_ HO515.out), (kr_ HO518.out), (by (with_reducible repeat (first | apply Kd.R_alloc | apply Kd.R_drewN | apply Kd.R_drew)); exact Kd.R_mono HO522.out (fun _ hk => ⟨hk.1.2, hk.2⟩)), (bk_ BK505.out), (bk_ BK506.out), (bk_ BK519.out), (bk_ BK529.out), GW529.out, GE529.out, NB505_529.out, NB529_505.out, NB506_529.out, NB529_506.out, NB519_529.out, NB529_519.out, (hb4_ HB.out GE505.out GE506.out GE519.out GE529.out)⟩)
            ·skip
             refine box_step ?hg (N := 7) ?hd (cs := #[.slice none 0 0]) (t := 53) ?hr ?_; (case hd => rfl); (case hg => rfl); (case hr => first | (go_simp; done) | (go_simp; rfl))
             intro gb530 hg w37 hbox hb
             have BK530 := A_ (hbox)
             have GW530 := A_ (sz_ hg (hb4_ HB.out GE505.out GE506.out GE519.out GE529.out))
             have GE530 := A_ (sz_ hg (hb4_ HB.out GE505.out GE506.out GE519.out GE529.out))
             have NB505_530 := A_ (nl_ hg BK505.out)
             have NB530_505 := A_ (ng_ hg BK505.out)
             have NB506_530 := A_ (nl_ hg BK506.out)
             have NB530_506 := A_ (ng_ hg BK506.out)
             have NB519_530 := A_ (nl_ hg BK519.out)
             have NB530_519 := A_ (ng_ hg BK519.out)
             have NB529_530 := A_ (nl_ hg BK529.out)
             have NB530_529 := A_ (ng_ hg BK529.out)
             replace HO515 := A_ (Kd.R_below (kr_ HO515.out) hb)
             replace HO518 := A_ (Kd.R_below (kr_ HO518.out) hb)
             replace BK505 := A_ (bb_ BK505.out hb)
             replace BK506 := A_ (bb_ BK506.out hb)
             replace BK519 := A_ (bb_ BK519.out hb)
             replace BK529 := A_ (bb_ BK529.out hb)
             replace HB := A_ (below_step (hb4_ HB.out GE505.out GE506.out GE519.out GE529.out) hb);clear hb hbox hg
             refine hK.out _ _ ⟨bc_ BK505.out 0, bc_ BK505.out 1, bc_ BK505.out 2, bc_ BK505.out 3, bc_ BK519.out 0⟩ (fun hHeld => ?_)
             clear hK K
             refine norm_ (a' := ?_) ?_ ?_
             rotate_left
             ·show Act.put _ (some 7) _ = _
              simp only [Act.put, lI_, l0_, lS_, i64_w, i32_w]
              rfl
             exact norm_ pa_ (hJ8_9 (gb529, gb530) _ ⟨hHeld, (kr_ HO515.out), (kr_ HO518.out), (bk_ BK505.out), (bk_ BK506.out), (bk_ BK519.out), (bk_ BK529.out), (bk_ BK530.out), GW529.out, GE529.out, NB505_529.out, NB529_505.out, NB506_529.out, NB529_506.out, NB519_529.out, NB529_519.out, NB530_529.out, NB529_530.out, GW530.out, GE530.out, NB505_530.out, NB530_505.out, NB506_530.out, NB530_506.out, NB519_530.out, NB530_519.out, (by repeat (first | (with_reducible first | exact HB.out | apply below_alloc | apply pw_below_drewN | apply below_drew1 | refine below_set ?_ GE505.out | refine below_set ?_ GE506.out | refine below_set ?_ GE519.out | refine below_set ?_ GE529.out | refine below_set ?_ GE530.out) | exact HB.out))⟩)
          ·skip
           rintro v521 w36 ⟨hS_, h0_, h1_, h2_, h3_, h4_, h5_, h6_⟩
           have n0_ : Aside0 (Kd.R (Kd.int .u64) 22 w36 w.heap.size (fun k_ => some k_ ≠ (.slice Ao31 t516.length co31 : Value).ownBlock ∧ some k_ ≠ (v521 : Value).ownBlock) v514 t513) := ⟨h0_⟩
           have n1_ : Aside0 (Kd.R (Kd.int .u64) 22 w36 w.heap.size (fun k_ => some k_ ≠ (v514 : Value).ownBlock ∧ some k_ ≠ (v521 : Value).ownBlock) (.slice Ao31 t516.length co31) t516) := ⟨h1_⟩
           have n2_ : Aside0 (Kd.R (Kd.int .u64) 22 w36 w.heap.size (fun k_ => some k_ ≠ (v514 : Value).ownBlock ∧ some k_ ≠ (.slice Ao31 t516.length co31 : Value).ownBlock) v521 t520) := ⟨h2_⟩
           have n3_ : Aside0 (w36.heap[gb505]? = some (.cells #[.bool a0_0, .int .i64 a0_1, .int .i64 a0_2, .int .u64 a0_3] 67 (0, 0))) := ⟨h3_⟩
           have n4_ : Aside0 (w36.heap[gb506]? = some (.cells #[.slice none 0 0] 53 (0, 0))) := ⟨h4_⟩
           have n5_ : Aside0 (w36.heap[gb519]? = some (.cells #[.slice Ao31 t516.length co31] 53 (0, 0))) := ⟨h5_⟩
           have n6_ : Aside0 (Below w.heap.size w w36) := ⟨h6_⟩
           clear HO515;clear HO518;clear BK505;clear BK506;clear BK519;clear HB;clear h0_ h1_ h2_ h3_ h4_ h5_ h6_;have HO515 := n0_;have HO518 := n1_;have HO522 := n2_;have BK505 := n3_;have BK506 := n4_;have BK519 := n5_;have HB := n6_;clear n0_ n1_ n2_ n3_ n4_ n5_ n6_
           have hHeld : w36.cell? ⟨gb505, 0, none⟩ = some (.bool a0_0) ∧ w36.cell? ⟨gb505, 1, none⟩ = some (.int .i64 a0_1) ∧ w36.cell? ⟨gb505, 2, none⟩ = some (.int .i64 a0_2) ∧ w36.cell? ⟨gb505, 3, none⟩ = some (.int .u64 a0_3) ∧ w36.cell? ⟨gb519, 0, none⟩ = some (.slice Ao31 t516.length co31) := hS_
           obtain ⟨Ao37, co37, eo37⟩ := Kd.R_slice HO522.out
           (first | subst eo37 | (injection eo37 with f1_ f2_ f3_; have f4_ := f1_.symm; have f5_ := f3_.symm; clear f1_ f2_ f3_; subst f4_; subst f5_))
           refine norm_ (a' := ?_) ?_ ?_
           rotate_left
           ·simp only [putAll, Act.put, lI_, l0_, lS_]
            rfl
           refine three_ (i := 4) (j := 8) (k := 9) (Ni := some 27) (Nj := some 6) (Nk := some 7) #[true, true, true, true, true, false, false, false, false, false, false, false] #[true, true, true, true, false, false, false, false, true, false, false, false] #[true, true, true, true, false, false, false, false, false, true, false, false] rfl rfl rfl rfl rfl rfl (three_of HT_.out (by kernel_rfl)) (by decide) (by decide) (by decide) (fun K hK => ?_) (fun K hK => ?_) (fun K hK => ?_)
           ·skip
            refine goes_ Try.func93 (by kernel_rfl) rfl #[.agg #[.slice Ao37 t520.length co37], .agg #[.slice Ao31 t516.length co31]] (by rfl) rfl rfl mp_ ?_
            with_reducible refine (r1_Div.calls k (fun k_ => some k_ = (.slice Ao37 t520.length co37 : Value).ownBlock) _ _ t520 _ _ t516 t523 t526 _ ?side1 ?side2 ?side3 A18.out).mono ?_
            (case side1 => exact Kd.R_V (Kd.R_tight rfl (Kd.R_types (Kd.R_types (Kd.R_types (HO522.out) BK505.out (by decide)) BK506.out (by decide)) BK519.out (by decide))))
            (case side2 => exact cs_ ((Kd.R_reads' HO518.out).2.2))
            (case side3 => exact (Kd.R_reads' HO518.out).2.1)
            rintro e w38 ⟨v524, v527, rfl, ho0, ho1, hb⟩
            refine ⟨_, rfl, ?_⟩
            have HO525 := A_ (Kd.R_lower (Kd.R_new' (Kd.R_new' (Kd.R_new' (Kd.R_mono (ok' := fun k_ => True) ho0 (fun _ hk_ => trivial)) (Kd.R_lt (kr_ HO515.out))) (Kd.R_lt (kr_ HO518.out))) (Kd.R_lt (kr_ HO522.out))) (below_size (hb3_ HB.out GE505.out GE506.out GE519.out)))
            have HO528 := A_ (Kd.V_lower (Kd.V_mono (ok' := fun k_ => some k_ ≠ (v524 : Value).ownBlock ∧ some k_ ≠ (v514 : Value).ownBlock ∧ some k_ ≠ (.slice Ao31 t516.length co31 : Value).ownBlock ∧ k_ ≠ gb505 ∧ k_ ≠ gb506 ∧ k_ ≠ gb519) ho1 (fun k_ hk_ => ⟨hk_.2, Or.elim hk_.1 (fun hs_ => ((Kd.R_types (Kd.R_types (Kd.R_types (HO522.out) BK505.out (by decide)) BK506.out (by decide)) BK519.out (by decide)).1 k_ hs_.symm).1.1.1.1) (fun hn_ => (Kd.fresh' (Kd.R_lt (kr_ HO515.out)) k_ hn_)), Or.elim hk_.1 (fun hs_ => ((Kd.R_types (Kd.R_types (Kd.R_types (HO522.out) BK505.out (by decide)) BK506.out (by decide)) BK519.out (by decide)).1 k_ hs_.symm).1.1.1.2) (fun hn_ => (Kd.fresh' (Kd.R_lt (kr_ HO518.out)) k_ hn_)), Or.elim hk_.1 (fun hs_ => ((Kd.R_types (Kd.R_types (Kd.R_types (HO522.out) BK505.out (by decide)) BK506.out (by decide)) BK519.out (by decide)).1 k_ hs_.symm).1.1.2) (fun hn_ => (Kd.freshB (g := gb505) (o := .cells #[.bool a0_0, .int .i64 a0_1, .int .i64 a0_2, .int .u64 a0_3] 67 (0, 0)) (bk_ BK505.out) k_ hn_)), Or.elim hk_.1 (fun hs_ => ((Kd.R_types (Kd.R_types (Kd.R_types (HO522.out) BK505.out (by decide)) BK506.out (by decide)) BK519.out (by decide)).1 k_ hs_.symm).1.2) (fun hn_ => (Kd.freshB (g := gb506) (o := .cells #[.slice none 0 0] 53 (0, 0)) (bk_ BK506.out) k_ hn_)), Or.elim hk_.1 (fun hs_ => ((Kd.R_types (Kd.R_types (Kd.R_types (HO522.out) BK505.out (by decide)) BK506.out (by decide)) BK519.out (by decide)).1 k_ hs_.symm).2) (fun hn_ => (Kd.freshB (g := gb519) (o := .cells #[.slice Ao31 t516.length co31] 53 (0, 0)) (bk_ BK519.out) k_ hn_))⟩)) (below_size (hb3_ HB.out GE505.out GE506.out GE519.out)))
            replace HO515 := A_ (Kd.R_elder' (kr_ HO515.out) (Kd.R_base ho0) hb)
            replace HO518 := A_ (Kd.R_elder' (kr_ HO518.out) (Kd.R_base ho0) hb)
            replace HO522 := A_ (Kd.R_elder' (kr_ HO522.out) (Kd.R_base ho0) hb)
            replace BK505 := A_ (bb_ BK505.out hb)
            replace BK506 := A_ (bb_ BK506.out hb)
            replace BK519 := A_ (bb_ BK519.out hb)
            replace HB := A_ (below_step (hb3_ HB.out GE505.out GE506.out GE519.out) hb);(try clear hb);(try clear hb2);(try clear hk);(try clear hi);(try clear ho0);(try clear ho1)
            refine hK.out _ _ ⟨bc_ BK505.out 0, bc_ BK505.out 1, bc_ BK505.out 2, bc_ BK505.out 3, bc_ BK519.out 0⟩ (fun hHeld => ?_)
            clear hK K
            refine norm_ (a' := ?_) ?_ ?_
            rotate_left
            ·show Act.put _ (some 27) _ = _
             simp only [Act.put, lI_, l0_, lS_, i64_w, i32_w]
             rfl
            refine pu_ 5 (some 22) #[true, true, true, true, true, true, false, false, false, false, false, false] rfl rfl (any_of HT_.out (by kernel_rfl)) ?_
            refine pu_ 6 (some 28) #[true, true, true, true, true, true, true, false, false, false, false, false] rfl rfl (any_of HT_.out (by kernel_rfl)) ?_
            refine pu_ 7 (some 29) #[true, true, true, true, true, true, true, true, false, false, false, false] rfl rfl (any_of HT_.out (by kernel_rfl)) ?_
            exact norm_ pa_ (hJ2_4 (.slice Ao37 t520.length co37, _, _) _ ⟨hHeld, (by (with_reducible repeat (first | apply Kd.R_alloc | apply Kd.R_drewN | apply Kd.R_drew)); exact Kd.R_mono HO515.out (fun _ hk => ⟨hk.1.1, ⟨hk.1.2, hk.2⟩⟩)), (by (with_reducible repeat (first | apply Kd.R_alloc | apply Kd.R_drewN | apply Kd.R_drew)); exact Kd.R_mono HO518.out (fun _ hk => ⟨hk.1.1, ⟨hk.1.2, hk.2⟩⟩)), (by (with_reducible repeat (first | apply Kd.R_alloc | apply Kd.R_drewN | apply Kd.R_drew)); exact Kd.R_mono HO522.out (fun _ hk => ⟨hk.1.1, ⟨hk.1.2, hk.2⟩⟩)), (by (with_reducible repeat (first | apply Kd.R_alloc | apply Kd.R_drewN | apply Kd.R_drew)); exact Kd.R_mono HO525.out (fun _ hk => ⟨hk.1.1.2, ⟨hk.1.2, hk.2⟩⟩)), (by (with_reducible repeat (first | apply Kd.V_alloc | apply Kd.V_drewN | apply Kd.V_drew)); exact Kd.V_mono HO528.out (fun _ hk => ⟨hk.2.1, ⟨hk.2.2.1, ⟨hk.1, ⟨hk.2.2.2.1, ⟨hk.2.2.2.2.1, hk.2.2.2.2.2⟩⟩⟩⟩⟩)), (bk_ BK505.out), (bk_ BK506.out), (bk_ BK519.out), (hb3_ HB.out GE505.out GE506.out GE519.out)⟩)
           ·skip
            refine box_step ?hg (N := 6) ?hd (cs := #[.slice none 0 0]) (t := 53) ?hr ?_; (case hd => rfl); (case hg => rfl); (case hr => first | (go_simp; done) | (go_simp; rfl))
            intro gb529 hg w37 hbox hb
            have BK529 := A_ (hbox)
            have GW529 := A_ (sz_ hg (hb3_ HB.out GE505.out GE506.out GE519.out))
            have GE529 := A_ (sz_ hg (hb3_ HB.out GE505.out GE506.out GE519.out))
            have NB505_529 := A_ (nl_ hg BK505.out)
            have NB529_505 := A_ (ng_ hg BK505.out)
            have NB506_529 := A_ (nl_ hg BK506.out)
            have NB529_506 := A_ (ng_ hg BK506.out)
            have NB519_529 := A_ (nl_ hg BK519.out)
            have NB529_519 := A_ (ng_ hg BK519.out)
            replace HO515 := A_ (Kd.R_below (kr_ HO515.out) hb)
            replace HO518 := A_ (Kd.R_below (kr_ HO518.out) hb)
            replace HO522 := A_ (Kd.R_below (kr_ HO522.out) hb)
            replace BK505 := A_ (bb_ BK505.out hb)
            replace BK506 := A_ (bb_ BK506.out hb)
            replace BK519 := A_ (bb_ BK519.out hb)
            replace HB := A_ (below_step (hb3_ HB.out GE505.out GE506.out GE519.out) hb);clear hb hbox hg
            refine hK.out _ _ ⟨bc_ BK505.out 0, bc_ BK505.out 1, bc_ BK505.out 2, bc_ BK505.out 3, bc_ BK519.out 0⟩ (fun hHeld => ?_)
            clear hK K
            refine norm_ (a' := ?_) ?_ ?_
            rotate_left
            ·show Act.put _ (some 6) _ = _
             simp only [Act.put, lI_, l0_, lS_, i64_w, i32_w]
             rfl
            exact norm_ pa_ (hJ2_8 (_, gb529) _ ⟨hHeld, (kr_ HO515.out), (kr_ HO518.out), (kr_ HO522.out), (bk_ BK505.out), (bk_ BK506.out), (bk_ BK519.out), (bk_ BK529.out), GW529.out, GE529.out, NB505_529.out, NB529_505.out, NB506_529.out, NB529_506.out, NB519_529.out, NB529_519.out, (hb4_ HB.out GE505.out GE506.out GE519.out GE529.out)⟩)
           ·skip
            refine box_step ?hg (N := 7) ?hd (cs := #[.slice none 0 0]) (t := 53) ?hr ?_; (case hd => rfl); (case hg => rfl); (case hr => first | (go_simp; done) | (go_simp; rfl))
            intro gb530 hg w37 hbox hb
            have BK530 := A_ (hbox)
            have GW530 := A_ (sz_ hg (hb3_ HB.out GE505.out GE506.out GE519.out))
            have GE530 := A_ (sz_ hg (hb3_ HB.out GE505.out GE506.out GE519.out))
            have NB505_530 := A_ (nl_ hg BK505.out)
            have NB530_505 := A_ (ng_ hg BK505.out)
            have NB506_530 := A_ (nl_ hg BK506.out)
            have NB530_506 := A_ (ng_ hg BK506.out)
            have NB519_530 := A_ (nl_ hg BK519.out)
            have NB530_519 := A_ (ng_ hg BK519.out)
            replace HO515 := A_ (Kd.R_below (kr_ HO515.out) hb)
            replace HO518 := A_ (Kd.R_below (kr_ HO518.out) hb)
            replace HO522 := A_ (Kd.R_below (kr_ HO522.out) hb)
            replace BK505 := A_ (bb_ BK505.out hb)
            replace BK506 := A_ (bb_ BK506.out hb)
            replace BK519 := A_ (bb_ BK519.out hb)
            replace HB := A_ (below_step (hb3_ HB.out GE505.out GE506.out GE519.out) hb);clear hb hbox hg
            refine hK.out _ _ ⟨bc_ BK505.out 0, bc_ BK505.out 1, bc_ BK505.out 2, bc_ BK505.out 3, bc_ BK519.out 0⟩ (fun hHeld => ?_)
            clear hK K
            refine norm_ (a' := ?_) ?_ ?_
            rotate_left
            ·show Act.put _ (some 7) _ = _
             simp only [Act.put, lI_, l0_, lS_, i64_w, i32_w]
             rfl
            exact norm_ pa_ (hJ2_9 (_, gb530) _ ⟨hHeld, (kr_ HO515.out), (kr_ HO518.out), (kr_ HO522.out), (bk_ BK505.out), (bk_ BK506.out), (bk_ BK519.out), (bk_ BK530.out), GW530.out, GE530.out, NB505_530.out, NB530_505.out, NB506_530.out, NB530_506.out, NB519_530.out, NB530_519.out, (hb4_ HB.out GE505.out GE506.out GE519.out GE530.out)⟩)
         ·skip
          rintro ⟨gb529, gb530⟩ w37 ⟨hS_, h0_, h1_, h2_, h3_, h4_, h5_, h6_, h7_, h8_, h9_, h10_, h11_, h12_, h13_, h14_, h15_, h16_, h17_, h18_, h19_, h20_, h21_, h22_, h23_, h24_, h25_⟩
          have n0_ : Aside0 (Kd.R (Kd.int .u64) 22 w37 w.heap.size (fun k_ => some k_ ≠ (.slice Ao31 t516.length co31 : Value).ownBlock) v514 t513) := ⟨h0_⟩
          have n1_ : Aside0 (Kd.R (Kd.int .u64) 22 w37 w.heap.size (fun k_ => some k_ ≠ (v514 : Value).ownBlock) (.slice Ao31 t516.length co31) t516) := ⟨h1_⟩
          have n2_ : Aside0 (w37.heap[gb505]? = some (.cells #[.bool a0_0, .int .i64 a0_1, .int .i64 a0_2, .int .u64 a0_3] 67 (0, 0))) := ⟨h2_⟩
          have n3_ : Aside0 (w37.heap[gb506]? = some (.cells #[.slice none 0 0] 53 (0, 0))) := ⟨h3_⟩
          have n4_ : Aside0 (w37.heap[gb519]? = some (.cells #[.slice Ao31 t516.length co31] 53 (0, 0))) := ⟨h4_⟩
          have n5_ : Aside0 (w37.heap[gb529]? = some (.cells #[.slice none 0 0] 53 (0, 0))) := ⟨h5_⟩
          have n6_ : Aside0 (w37.heap[gb530]? = some (.cells #[.slice none 0 0] 53 (0, 0))) := ⟨h6_⟩
          have n7_ : Aside0 (w.heap.size ≤ gb529) := ⟨h7_⟩
          have n8_ : Aside0 (w.heap.size ≤ gb529) := ⟨h8_⟩
          have n9_ : Aside0 (gb505 ≠ gb529) := ⟨h9_⟩
          have n10_ : Aside0 (gb529 ≠ gb505) := ⟨h10_⟩
          have n11_ : Aside0 (gb506 ≠ gb529) := ⟨h11_⟩
          have n12_ : Aside0 (gb529 ≠ gb506) := ⟨h12_⟩
          have n13_ : Aside0 (gb519 ≠ gb529) := ⟨h13_⟩
          have n14_ : Aside0 (gb529 ≠ gb519) := ⟨h14_⟩
          have n15_ : Aside0 (gb530 ≠ gb529) := ⟨h15_⟩
          have n16_ : Aside0 (gb529 ≠ gb530) := ⟨h16_⟩
          have n17_ : Aside0 (w.heap.size ≤ gb530) := ⟨h17_⟩
          have n18_ : Aside0 (w.heap.size ≤ gb530) := ⟨h18_⟩
          have n19_ : Aside0 (gb505 ≠ gb530) := ⟨h19_⟩
          have n20_ : Aside0 (gb530 ≠ gb505) := ⟨h20_⟩
          have n21_ : Aside0 (gb506 ≠ gb530) := ⟨h21_⟩
          have n22_ : Aside0 (gb530 ≠ gb506) := ⟨h22_⟩
          have n23_ : Aside0 (gb519 ≠ gb530) := ⟨h23_⟩
          have n24_ : Aside0 (gb530 ≠ gb519) := ⟨h24_⟩
          have n25_ : Aside0 (Below w.heap.size w w37) := ⟨h25_⟩
          clear HO515;clear HO518;clear BK505;clear BK506;clear BK519;clear HB;clear h0_ h1_ h2_ h3_ h4_ h5_ h6_ h7_ h8_ h9_ h10_ h11_ h12_ h13_ h14_ h15_ h16_ h17_ h18_ h19_ h20_ h21_ h22_ h23_ h24_ h25_;have HO515 := n0_;have HO518 := n1_;have BK505 := n2_;have BK506 := n3_;have BK519 := n4_;have BK529 := n5_;have BK530 := n6_;have GW529 := n7_;have GE529 := n8_;have NB505_529 := n9_;have NB529_505 := n10_;have NB506_529 := n11_;have NB529_506 := n12_;have NB519_529 := n13_;have NB529_519 := n14_;have NB530_529 := n15_;have NB529_530 := n16_;have GW530 := n17_;have GE530 := n18_;have NB505_530 := n19_;have NB530_505 := n20_;have NB506_530 := n21_;have NB530_506 := n22_;have NB519_530 := n23_;have NB530_519 := n24_;have HB := n25_;clear n0_ n1_ n2_ n3_ n4_ n5_ n6_ n7_ n8_ n9_ n10_ n11_ n12_ n13_ n14_ n15_ n16_ n17_ n18_ n19_ n20_ n21_ n22_ n23_ n24_ n25_
          have hHeld : w37.cell? ⟨gb505, 0, none⟩ = some (.bool a0_0) ∧ w37.cell? ⟨gb505, 1, none⟩ = some (.int .i64 a0_1) ∧ w37.cell? ⟨gb505, 2, none⟩ = some (.int .i64 a0_2) ∧ w37.cell? ⟨gb505, 3, none⟩ = some (.int .u64 a0_3) ∧ w37.cell? ⟨gb519, 0, none⟩ = some (.slice Ao31 t516.length co31) := hS_
          refine norm_ (a' := ?_) ?_ ?_
          rotate_left
          ·simp only [putAll, Act.put, lI_, l0_, lS_]
           rfl
          refine one_ (i := 2) (N := some 25) #[true, true, true, true, false, false, false, false, true, true, false, false] rfl rfl (one_of HT_.out (by kernel_rfl)) (by decide) (fun K hK => ?_)
          refine goes_ Try.func33 (by kernel_rfl) rfl #[.int .u64 a0_3] (by rfl) rfl rfl mp_ ?_
          with_reducible refine (r1_Of.calls k a0_3 t520 _ A17.out).mono ?_
          rintro e w38 ⟨v521, rfl, ho0, hb⟩
          refine ⟨_, rfl, ?_⟩
          have HO522 := A_ (Kd.R_lower (Kd.R_new' (Kd.R_new' ho0 (Kd.R_lt (kr_ HO515.out))) (Kd.R_lt (kr_ HO518.out))) (below_size (by repeat (first | (with_reducible first | exact HB.out | apply below_alloc | apply pw_below_drewN | apply below_drew1 | refine below_set ?_ GE505.out | refine below_set ?_ GE506.out | refine below_set ?_ GE519.out | refine below_set ?_ GE529.out | refine below_set ?_ GE530.out) | exact HB.out))))
          replace HO515 := A_ (Kd.R_elder' (kr_ HO515.out) (Kd.R_base ho0) hb)
          replace HO518 := A_ (Kd.R_elder' (kr_ HO518.out) (Kd.R_base ho0) hb)
          replace BK505 := A_ (bb_ BK505.out hb)
          replace BK506 := A_ (bb_ BK506.out hb)
          replace BK519 := A_ (bb_ BK519.out hb)
          replace BK529 := A_ (bb_ BK529.out hb)
          replace BK530 := A_ (bb_ BK530.out hb)
          replace HB := A_ (below_step (by repeat (first | (with_reducible first | exact HB.out | apply below_alloc | apply pw_below_drewN | apply below_drew1 | refine below_set ?_ GE505.out | refine below_set ?_ GE506.out | refine below_set ?_ GE519.out | refine below_set ?_ GE529.out | refine below_set ?_ GE530.out) | exact HB.out)) hb);(try clear hb);(try clear hb2);(try clear hk);(try clear hi);(try clear ho0)
          refine hK.out _ _ ⟨bc_ BK505.out 0, bc_ BK505.out 1, bc_ BK505.out 2, bc_ BK505.out 3, bc_ BK519.out 0⟩ (fun hHeld => ?_)
          clear hK K
          refine norm_ (a' := ?_) ?_ ?_
          rotate_left
          ·show Act.put _ (some 25) _ = _
           simp only [Act.put, lI_, l0_, lS_, i64_w, i32_w]
           rfl
          exact norm_ pa_ (hJ2_8_9 (_, gb529, gb530) _ ⟨hHeld, (kr_ HO515.out), (kr_ HO518.out), (by (with_reducible repeat (first | apply Kd.R_alloc | apply Kd.R_drewN | apply Kd.R_drew)); exact Kd.R_mono HO522.out (fun _ hk => ⟨hk.1.2, hk.2⟩)), (bk_ BK505.out), (bk_ BK506.out), (bk_ BK519.out), (bk_ BK529.out), (bk_ BK530.out), GW529.out, GE529.out, NB505_529.out, NB529_505.out, NB506_529.out, NB529_506.out, NB519_529.out, NB529_519.out, NB530_529.out, NB529_530.out, GW530.out, GE530.out, NB505_530.out, NB530_505.out, NB506_530.out, NB530_506.out, NB519_530.out, NB530_519.out, (by repeat (first | (with_reducible first | exact HB.out | apply below_alloc | apply pw_below_drewN | apply below_drew1 | refine below_set ?_ GE505.out | refine below_set ?_ GE506.out | refine below_set ?_ GE519.out | refine below_set ?_ GE529.out | refine below_set ?_ GE530.out) | exact HB.out))⟩)
        ·skip
         rintro ⟨v521, gb530⟩ w37 ⟨hS_, h0_, h1_, h2_, h3_, h4_, h5_, h6_, h7_, h8_, h9_, h10_, h11_, h12_, h13_, h14_, h15_⟩
         have n0_ : Aside0 (Kd.R (Kd.int .u64) 22 w37 w.heap.size (fun k_ => some k_ ≠ (.slice Ao31 t516.length co31 : Value).ownBlock ∧ some k_ ≠ (v521 : Value).ownBlock) v514 t513) := ⟨h0_⟩
         have n1_ : Aside0 (Kd.R (Kd.int .u64) 22 w37 w.heap.size (fun k_ => some k_ ≠ (v514 : Value).ownBlock ∧ some k_ ≠ (v521 : Value).ownBlock) (.slice Ao31 t516.length co31) t516) := ⟨h1_⟩
         have n2_ : Aside0 (Kd.R (Kd.int .u64) 22 w37 w.heap.size (fun k_ => some k_ ≠ (v514 : Value).ownBlock ∧ some k_ ≠ (.slice Ao31 t516.length co31 : Value).ownBlock) v521 t520) := ⟨h2_⟩
         have n3_ : Aside0 (w37.heap[gb505]? = some (.cells #[.bool a0_0, .int .i64 a0_1, .int .i64 a0_2, .int .u64 a0_3] 67 (0, 0))) := ⟨h3_⟩
         have n4_ : Aside0 (w37.heap[gb506]? = some (.cells #[.slice none 0 0] 53 (0, 0))) := ⟨h4_⟩
         have n5_ : Aside0 (w37.heap[gb519]? = some (.cells #[.slice Ao31 t516.length co31] 53 (0, 0))) := ⟨h5_⟩
         have n6_ : Aside0 (w37.heap[gb530]? = some (.cells #[.slice none 0 0] 53 (0, 0))) := ⟨h6_⟩
         have n7_ : Aside0 (w.heap.size ≤ gb530) := ⟨h7_⟩
         have n8_ : Aside0 (w.heap.size ≤ gb530) := ⟨h8_⟩
         have n9_ : Aside0 (gb505 ≠ gb530) := ⟨h9_⟩
         have n10_ : Aside0 (gb530 ≠ gb505) := ⟨h10_⟩
         have n11_ : Aside0 (gb506 ≠ gb530) := ⟨h11_⟩
         have n12_ : Aside0 (gb530 ≠ gb506) := ⟨h12_⟩
         have n13_ : Aside0 (gb519 ≠ gb530) := ⟨h13_⟩
         have n14_ : Aside0 (gb530 ≠ gb519) := ⟨h14_⟩
         have n15_ : Aside0 (Below w.heap.size w w37) := ⟨h15_⟩
         clear HO515;clear HO518;clear BK505;clear BK506;clear BK519;clear HB;clear h0_ h1_ h2_ h3_ h4_ h5_ h6_ h7_ h8_ h9_ h10_ h11_ h12_ h13_ h14_ h15_;have HO515 := n0_;have HO518 := n1_;have HO522 := n2_;have BK505 := n3_;have BK506 := n4_;have BK519 := n5_;have BK530 := n6_;have GW530 := n7_;have GE530 := n8_;have NB505_530 := n9_;have NB530_505 := n10_;have NB506_530 := n11_;have NB530_506 := n12_;have NB519_530 := n13_;have NB530_519 := n14_;have HB := n15_;clear n0_ n1_ n2_ n3_ n4_ n5_ n6_ n7_ n8_ n9_ n10_ n11_ n12_ n13_ n14_ n15_
         have hHeld : w37.cell? ⟨gb505, 0, none⟩ = some (.bool a0_0) ∧ w37.cell? ⟨gb505, 1, none⟩ = some (.int .i64 a0_1) ∧ w37.cell? ⟨gb505, 2, none⟩ = some (.int .i64 a0_2) ∧ w37.cell? ⟨gb505, 3, none⟩ = some (.int .u64 a0_3) ∧ w37.cell? ⟨gb519, 0, none⟩ = some (.slice Ao31 t516.length co31) := hS_
         obtain ⟨Ao38, co38, eo38⟩ := Kd.R_slice HO522.out
         (first | subst eo38 | (injection eo38 with f1_ f2_ f3_; have f4_ := f1_.symm; have f5_ := f3_.symm; clear f1_ f2_ f3_; subst f4_; subst f5_))
         refine norm_ (a' := ?_) ?_ ?_
         rotate_left
         ·simp only [putAll, Act.put, lI_, l0_, lS_]
          rfl
         refine two_ (i := 4) (j := 8) (Ni := some 27) (Nj := some 6) #[true, true, true, true, true, false, false, false, false, true, false, false] #[true, true, true, true, false, false, false, false, true, true, false, false] rfl rfl rfl rfl (two_of HT_.out (by kernel_rfl)) (by decide) (by decide) (fun K hK => ?_) (fun K hK => ?_)
         ·skip
          refine goes_ Try.func93 (by kernel_rfl) rfl #[.agg #[.slice Ao38 t520.length co38], .agg #[.slice Ao31 t516.length co31]] (by rfl) rfl rfl mp_ ?_
          with_reducible refine (r1_Div.calls k (fun k_ => some k_ = (.slice Ao38 t520.length co38 : Value).ownBlock) _ _ t520 _ _ t516 t523 t526 _ ?side1 ?side2 ?side3 A18.out).mono ?_
          (case side1 => exact Kd.R_V (Kd.R_tight rfl (Kd.R_types (Kd.R_types (Kd.R_types (Kd.R_types (HO522.out) BK505.out (by decide)) BK506.out (by decide)) BK519.out (by decide)) BK530.out (by decide))))
          (case side2 => exact cs_ ((Kd.R_reads' HO518.out).2.2))
          (case side3 => exact (Kd.R_reads' HO518.out).2.1)
          rintro e w39 ⟨v524, v527, rfl, ho0, ho1, hb⟩
          refine ⟨_, rfl, ?_⟩
          have HO525 := A_ (Kd.R_lower (Kd.R_new' (Kd.R_new' (Kd.R_new' (Kd.R_mono (ok' := fun k_ => True) ho0 (fun _ hk_ => trivial)) (Kd.R_lt (kr_ HO515.out))) (Kd.R_lt (kr_ HO518.out))) (Kd.R_lt (kr_ HO522.out))) (below_size (hb4_ HB.out GE505.out GE506.out GE519.out GE530.out)))
          have HO528 := A_ (Kd.V_lower (Kd.V_mono (ok' := fun k_ => some k_ ≠ (v524 : Value).ownBlock ∧ some k_ ≠ (v514 : Value).ownBlock ∧ some k_ ≠ (.slice Ao31 t516.length co31 : Value).ownBlock ∧ k_ ≠ gb505 ∧ k_ ≠ gb506 ∧ k_ ≠ gb519 ∧ k_ ≠ gb530) ho1 (fun k_ hk_ => ⟨hk_.2, Or.elim hk_.1 (fun hs_ => ((Kd.R_types (Kd.R_types (Kd.R_types (Kd.R_types (HO522.out) BK505.out (by decide)) BK506.out (by decide)) BK519.out (by decide)) BK530.out (by decide)).1 k_ hs_.symm).1.1.1.1.1) (fun hn_ => (Kd.fresh' (Kd.R_lt (kr_ HO515.out)) k_ hn_)), Or.elim hk_.1 (fun hs_ => ((Kd.R_types (Kd.R_types (Kd.R_types (Kd.R_types (HO522.out) BK505.out (by decide)) BK506.out (by decide)) BK519.out (by decide)) BK530.out (by decide)).1 k_ hs_.symm).1.1.1.1.2) (fun hn_ => (Kd.fresh' (Kd.R_lt (kr_ HO518.out)) k_ hn_)), Or.elim hk_.1 (fun hs_ => ((Kd.R_types (Kd.R_types (Kd.R_types (Kd.R_types (HO522.out) BK505.out (by decide)) BK506.out (by decide)) BK519.out (by decide)) BK530.out (by decide)).1 k_ hs_.symm).1.1.1.2) (fun hn_ => (Kd.freshB (g := gb505) (o := .cells #[.bool a0_0, .int .i64 a0_1, .int .i64 a0_2, .int .u64 a0_3] 67 (0, 0)) (bk_ BK505.out) k_ hn_)), Or.elim hk_.1 (fun hs_ => ((Kd.R_types (Kd.R_types (Kd.R_types (Kd.R_types (HO522.out) BK505.out (by decide)) BK506.out (by decide)) BK519.out (by decide)) BK530.out (by decide)).1 k_ hs_.symm).1.1.2) (fun hn_ => (Kd.freshB (g := gb506) (o := .cells #[.slice none 0 0] 53 (0, 0)) (bk_ BK506.out) k_ hn_)), Or.elim hk_.1 (fun hs_ => ((Kd.R_types (Kd.R_types (Kd.R_types (Kd.R_types (HO522.out) BK505.out (by decide)) BK506.out (by decide)) BK519.out (by decide)) BK530.out (by decide)).1 k_ hs_.symm).1.2) (fun hn_ => (Kd.freshB (g := gb519) (o := .cells #[.slice Ao31 t516.length co31] 53 (0, 0)) (bk_ BK519.out) k_ hn_)), Or.elim hk_.1 (fun hs_ => ((Kd.R_types (Kd.R_types (Kd.R_types (Kd.R_types (HO522.out) BK505.out (by decide)) BK506.out (by decide)) BK519.out (by decide)) BK530.out (by decide)).1 k_ hs_.symm).2) (fun hn_ => (Kd.freshB (g := gb530) (o := .cells #[.slice none 0 0] 53 (0, 0)) (bk_ BK530.out) k_ hn_))⟩)) (below_size (hb4_ HB.out GE505.out GE506.out GE519.out GE530.out)))
          replace HO515 := A_ (Kd.R_elder' (kr_ HO515.out) (Kd.R_base ho0) hb)
          replace HO518 := A_ (Kd.R_elder' (kr_ HO518.out) (Kd.R_base ho0) hb)
          replace HO522 := A_ (Kd.R_elder' (kr_ HO522.out) (Kd.R_base ho0) hb)
          replace BK505 := A_ (bb_ BK505.out hb)
          replace BK506 := A_ (bb_ BK506.out hb)
          replace BK519 := A_ (bb_ BK519.out hb)
          replace BK530 := A_ (bb_ BK530.out hb)
          replace HB := A_ (below_step (hb4_ HB.out GE505.out GE506.out GE519.out GE530.out) hb);(try clear hb);(try clear hb2);(try clear hk);(try clear hi);(try clear ho0);(try clear ho1)
          refine hK.out _ _ ⟨bc_ BK505.out 0, bc_ BK505.out 1, bc_ BK505.out 2, bc_ BK505.out 3, bc_ BK519.out 0⟩ (fun hHeld => ?_)
          clear hK K
          refine norm_ (a' := ?_) ?_ ?_
          rotate_left
          ·show Act.put _ (some 27) _ = _
           simp only [Act.put, lI_, l0_, lS_, i64_w, i32_w]
           rfl
          refine pu_ 5 (some 22) #[true, true, true, true, true, true, false, false, false, true, false, false] rfl rfl (any_of HT_.out (by kernel_rfl)) ?_
          refine pu_ 6 (some 28) #[true, true, true, true, true, true, true, false, false, true, false, false] rfl rfl (any_of HT_.out (by kernel_rfl)) ?_
          refine pu_ 7 (some 29) #[true, true, true, true, true, true, true, true, false, true, false, false] rfl rfl (any_of HT_.out (by kernel_rfl)) ?_
          exact norm_ pa_ (hJ2_4_9 (.slice Ao38 t520.length co38, _, _, gb530) _ ⟨hHeld, (by (with_reducible repeat (first | apply Kd.R_alloc | apply Kd.R_drewN | apply Kd.R_drew)); exact Kd.R_mono HO515.out (fun _ hk => ⟨hk.1.1, ⟨hk.1.2, hk.2⟩⟩)), (by (with_reducible repeat (first | apply Kd.R_alloc | apply Kd.R_drewN | apply Kd.R_drew)); exact Kd.R_mono HO518.out (fun _ hk => ⟨hk.1.1, ⟨hk.1.2, hk.2⟩⟩)), (by (with_reducible repeat (first | apply Kd.R_alloc | apply Kd.R_drewN | apply Kd.R_drew)); exact Kd.R_mono HO522.out (fun _ hk => ⟨hk.1.1, ⟨hk.1.2, hk.2⟩⟩)), (by (with_reducible repeat (first | apply Kd.R_alloc | apply Kd.R_drewN | apply Kd.R_drew)); exact Kd.R_mono HO525.out (fun _ hk => ⟨hk.1.1.2, ⟨hk.1.2, hk.2⟩⟩)), (by (with_reducible repeat (first | apply Kd.V_alloc | apply Kd.V_drewN | apply Kd.V_drew)); exact Kd.V_mono HO528.out (fun _ hk => ⟨hk.2.1, ⟨hk.2.2.1, ⟨hk.1, ⟨hk.2.2.2.1, ⟨hk.2.2.2.2.1, ⟨hk.2.2.2.2.2.1, hk.2.2.2.2.2.2⟩⟩⟩⟩⟩⟩)), (bk_ BK505.out), (bk_ BK506.out), (bk_ BK519.out), (bk_ BK530.out), GW530.out, GE530.out, NB505_530.out, NB530_505.out, NB506_530.out, NB530_506.out, NB519_530.out, NB530_519.out, (hb4_ HB.out GE505.out GE506.out GE519.out GE530.out)⟩)
         ·skip
          refine box_step ?hg (N := 6) ?hd (cs := #[.slice none 0 0]) (t := 53) ?hr ?_; (case hd => rfl); (case hg => rfl); (case hr => first | (go_simp; done) | (go_simp; rfl))
          intro gb529 hg w38 hbox hb
          have BK529 := A_ (hbox)
          have GW529 := A_ (sz_ hg (hb4_ HB.out GE505.out GE506.out GE519.out GE530.out))
          have GE529 := A_ (sz_ hg (hb4_ HB.out GE505.out GE506.out GE519.out GE530.out))
          have NB505_529 := A_ (nl_ hg BK505.out)
          have NB529_505 := A_ (ng_ hg BK505.out)
          have NB506_529 := A_ (nl_ hg BK506.out)
          have NB529_506 := A_ (ng_ hg BK506.out)
          have NB519_529 := A_ (nl_ hg BK519.out)
          have NB529_519 := A_ (ng_ hg BK519.out)
          have NB530_529 := A_ (nl_ hg BK530.out)
          have NB529_530 := A_ (ng_ hg BK530.out)
          replace HO515 := A_ (Kd.R_below (kr_ HO515.out) hb)
          replace HO518 := A_ (Kd.R_below (kr_ HO518.out) hb)
          replace HO522 := A_ (Kd.R_below (kr_ HO522.out) hb)
          replace BK505 := A_ (bb_ BK505.out hb)
          replace BK506 := A_ (bb_ BK506.out hb)
          replace BK519 := A_ (bb_ BK519.out hb)
          replace BK530 := A_ (bb_ BK530.out hb)
          replace HB := A_ (below_step (hb4_ HB.out GE505.out GE506.out GE519.out GE530.out) hb);clear hb hbox hg
          refine hK.out _ _ ⟨bc_ BK505.out 0, bc_ BK505.out 1, bc_ BK505.out 2, bc_ BK505.out 3, bc_ BK519.out 0⟩ (fun hHeld => ?_)
          clear hK K
          refine norm_ (a' := ?_) ?_ ?_
          rotate_left
          ·show Act.put _ (some 6) _ = _
           simp only [Act.put, lI_, l0_, lS_, i64_w, i32_w]
           rfl
          exact norm_ pa_ (hJ2_8_9 (_, gb529, gb530) _ ⟨hHeld, (kr_ HO515.out), (kr_ HO518.out), (kr_ HO522.out), (bk_ BK505.out), (bk_ BK506.out), (bk_ BK519.out), (bk_ BK529.out), (bk_ BK530.out), GW529.out, GE529.out, NB505_529.out, NB529_505.out, NB506_529.out, NB529_506.out, NB519_529.out, NB529_519.out, NB530_529.out, NB529_530.out, GW530.out, GE530.out, NB505_530.out, NB530_505.out, NB506_530.out, NB530_506.out, NB519_530.out, NB530_519.out, (by repeat (first | (with_reducible first | exact HB.out | apply below_alloc | apply pw_below_drewN | apply below_drew1 | refine below_set ?_ GE505.out | refine below_set ?_ GE506.out | refine below_set ?_ GE519.out | refine below_set ?_ GE530.out | refine below_set ?_ GE529.out) | exact HB.out))⟩)
       ·skip
        rintro ⟨v521, gb529⟩ w37 ⟨hS_, h0_, h1_, h2_, h3_, h4_, h5_, h6_, h7_, h8_, h9_, h10_, h11_, h12_, h13_, h14_, h15_⟩
        have n0_ : Aside0 (Kd.R (Kd.int .u64) 22 w37 w.heap.size (fun k_ => some k_ ≠ (.slice Ao31 t516.length co31 : Value).ownBlock ∧ some k_ ≠ (v521 : Value).ownBlock) v514 t513) := ⟨h0_⟩
        have n1_ : Aside0 (Kd.R (Kd.int .u64) 22 w37 w.heap.size (fun k_ => some k_ ≠ (v514 : Value).ownBlock ∧ some k_ ≠ (v521 : Value).ownBlock) (.slice Ao31 t516.length co31) t516) := ⟨h1_⟩
        have n2_ : Aside0 (Kd.R (Kd.int .u64) 22 w37 w.heap.size (fun k_ => some k_ ≠ (v514 : Value).ownBlock ∧ some k_ ≠ (.slice Ao31 t516.length co31 : Value).ownBlock) v521 t520) := ⟨h2_⟩
        have n3_ : Aside0 (w37.heap[gb505]? = some (.cells #[.bool a0_0, .int .i64 a0_1, .int .i64 a0_2, .int .u64 a0_3] 67 (0, 0))) := ⟨h3_⟩
        have n4_ : Aside0 (w37.heap[gb506]? = some (.cells #[.slice none 0 0] 53 (0, 0))) := ⟨h4_⟩
        have n5_ : Aside0 (w37.heap[gb519]? = some (.cells #[.slice Ao31 t516.length co31] 53 (0, 0))) := ⟨h5_⟩
        have n6_ : Aside0 (w37.heap[gb529]? = some (.cells #[.slice none 0 0] 53 (0, 0))) := ⟨h6_⟩
        have n7_ : Aside0 (w.heap.size ≤ gb529) := ⟨h7_⟩
        have n8_ : Aside0 (w.heap.size ≤ gb529) := ⟨h8_⟩
        have n9_ : Aside0 (gb505 ≠ gb529) := ⟨h9_⟩
        have n10_ : Aside0 (gb529 ≠ gb505) := ⟨h10_⟩
        have n11_ : Aside0 (gb506 ≠ gb529) := ⟨h11_⟩
        have n12_ : Aside0 (gb529 ≠ gb506) := ⟨h12_⟩
        have n13_ : Aside0 (gb519 ≠ gb529) := ⟨h13_⟩
        have n14_ : Aside0 (gb529 ≠ gb519) := ⟨h14_⟩
        have n15_ : Aside0 (Below w.heap.size w w37) := ⟨h15_⟩
        clear HO515;clear HO518;clear BK505;clear BK506;clear BK519;clear HB;clear h0_ h1_ h2_ h3_ h4_ h5_ h6_ h7_ h8_ h9_ h10_ h11_ h12_ h13_ h14_ h15_;have HO515 := n0_;have HO518 := n1_;have HO522 := n2_;have BK505 := n3_;have BK506 := n4_;have BK519 := n5_;have BK529 := n6_;have GW529 := n7_;have GE529 := n8_;have NB505_529 := n9_;have NB529_505 := n10_;have NB506_529 := n11_;have NB529_506 := n12_;have NB519_529 := n13_;have NB529_519 := n14_;have HB := n15_;clear n0_ n1_ n2_ n3_ n4_ n5_ n6_ n7_ n8_ n9_ n10_ n11_ n12_ n13_ n14_ n15_
        have hHeld : w37.cell? ⟨gb505, 0, none⟩ = some (.bool a0_0) ∧ w37.cell? ⟨gb505, 1, none⟩ = some (.int .i64 a0_1) ∧ w37.cell? ⟨gb505, 2, none⟩ = some (.int .i64 a0_2) ∧ w37.cell? ⟨gb505, 3, none⟩ = some (.int .u64 a0_3) ∧ w37.cell? ⟨gb519, 0, none⟩ = some (.slice Ao31 t516.length co31) := hS_
        obtain ⟨Ao38, co38, eo38⟩ := Kd.R_slice HO522.out
        (first | subst eo38 | (injection eo38 with f1_ f2_ f3_; have f4_ := f1_.symm; have f5_ := f3_.symm; clear f1_ f2_ f3_; subst f4_; subst f5_))
        refine norm_ (a' := ?_) ?_ ?_
        rotate_left
        ·simp only [putAll, Act.put, lI_, l0_, lS_]
         rfl
        refine two_ (i := 4) (j := 9) (Ni := some 27) (Nj := some 7) #[true, true, true, true, true, false, false, false, true, false, false, false] #[true, true, true, true, false, false, false, false, true, true, false, false] rfl rfl rfl rfl (two_of HT_.out (by kernel_rfl)) (by decide) (by decide) (fun K hK => ?_) (fun K hK => ?_)
        ·skip
         refine goes_ Try.func93 (by kernel_rfl) rfl #[.agg #[.slice Ao38 t520.length co38], .agg #[.slice Ao31 t516.length co31]] (by rfl) rfl rfl mp_ ?_
         with_reducible refine (r1_Div.calls k (fun k_ => some k_ = (.slice Ao38 t520.length co38 : Value).ownBlock) _ _ t520 _ _ t516 t523 t526 _ ?side1 ?side2 ?side3 A18.out).mono ?_
         (case side1 => exact Kd.R_V (Kd.R_tight rfl (Kd.R_types (Kd.R_types (Kd.R_types (Kd.R_types (HO522.out) BK505.out (by decide)) BK506.out (by decide)) BK519.out (by decide)) BK529.out (by decide))))
         (case side2 => exact cs_ ((Kd.R_reads' HO518.out).2.2))
         (case side3 => exact (Kd.R_reads' HO518.out).2.1)
         rintro e w39 ⟨v524, v527, rfl, ho0, ho1, hb⟩
         refine ⟨_, rfl, ?_⟩
         have HO525 := A_ (Kd.R_lower (Kd.R_new' (Kd.R_new' (Kd.R_new' (Kd.R_mono (ok' := fun k_ => True) ho0 (fun _ hk_ => trivial)) (Kd.R_lt (kr_ HO515.out))) (Kd.R_lt (kr_ HO518.out))) (Kd.R_lt (kr_ HO522.out))) (below_size (hb4_ HB.out GE505.out GE506.out GE519.out GE529.out)))
         have HO528 := A_ (Kd.V_lower (Kd.V_mono (ok' := fun k_ => some k_ ≠ (v524 : Value).ownBlock ∧ some k_ ≠ (v514 : Value).ownBlock ∧ some k_ ≠ (.slice Ao31 t516.length co31 : Value).ownBlock ∧ k_ ≠ gb505 ∧ k_ ≠ gb506 ∧ k_ ≠ gb519 ∧ k_ ≠ gb529) ho1 (fun k_ hk_ => ⟨hk_.2, Or.elim hk_.1 (fun hs_ => ((Kd.R_types (Kd.R_types (Kd.R_types (Kd.R_types (HO522.out) BK505.out (by decide)) BK506.out (by decide)) BK519.out (by decide)) BK529.out (by decide)).1 k_ hs_.symm).1.1.1.1.1) (fun hn_ => (Kd.fresh' (Kd.R_lt (kr_ HO515.out)) k_ hn_)), Or.elim hk_.1 (fun hs_ => ((Kd.R_types (Kd.R_types (Kd.R_types (Kd.R_types (HO522.out) BK505.out (by decide)) BK506.out (by decide)) BK519.out (by decide)) BK529.out (by decide)).1 k_ hs_.symm).1.1.1.1.2) (fun hn_ => (Kd.fresh' (Kd.R_lt (kr_ HO518.out)) k_ hn_)), Or.elim hk_.1 (fun hs_ => ((Kd.R_types (Kd.R_types (Kd.R_types (Kd.R_types (HO522.out) BK505.out (by decide)) BK506.out (by decide)) BK519.out (by decide)) BK529.out (by decide)).1 k_ hs_.symm).1.1.1.2) (fun hn_ => (Kd.freshB (g := gb505) (o := .cells #[.bool a0_0, .int .i64 a0_1, .int .i64 a0_2, .int .u64 a0_3] 67 (0, 0)) (bk_ BK505.out) k_ hn_)), Or.elim hk_.1 (fun hs_ => ((Kd.R_types (Kd.R_types (Kd.R_types (Kd.R_types (HO522.out) BK505.out (by decide)) BK506.out (by decide)) BK519.out (by decide)) BK529.out (by decide)).1 k_ hs_.symm).1.1.2) (fun hn_ => (Kd.freshB (g := gb506) (o := .cells #[.slice none 0 0] 53 (0, 0)) (bk_ BK506.out) k_ hn_)), Or.elim hk_.1 (fun hs_ => ((Kd.R_types (Kd.R_types (Kd.R_types (Kd.R_types (HO522.out) BK505.out (by decide)) BK506.out (by decide)) BK519.out (by decide)) BK529.out (by decide)).1 k_ hs_.symm).1.2) (fun hn_ => (Kd.freshB (g := gb519) (o := .cells #[.slice Ao31 t516.length co31] 53 (0, 0)) (bk_ BK519.out) k_ hn_)), Or.elim hk_.1 (fun hs_ => ((Kd.R_types (Kd.R_types (Kd.R_types (Kd.R_types (HO522.out) BK505.out (by decide)) BK506.out (by decide)) BK519.out (by decide)) BK529.out (by decide)).1 k_ hs_.symm).2) (fun hn_ => (Kd.freshB (g := gb529) (o := .cells #[.slice none 0 0] 53 (0, 0)) (bk_ BK529.out) k_ hn_))⟩)) (below_size (hb4_ HB.out GE505.out GE506.out GE519.out GE529.out)))
         replace HO515 := A_ (Kd.R_elder' (kr_ HO515.out) (Kd.R_base ho0) hb)
         replace HO518 := A_ (Kd.R_elder' (kr_ HO518.out) (Kd.R_base ho0) hb)
         replace HO522 := A_ (Kd.R_elder' (kr_ HO522.out) (Kd.R_base ho0) hb)
         replace BK505 := A_ (bb_ BK505.out hb)
         replace BK506 := A_ (bb_ BK506.out hb)
         replace BK519 := A_ (bb_ BK519.out hb)
         replace BK529 := A_ (bb_ BK529.out hb)
         replace HB := A_ (below_step (hb4_ HB.out GE505.out GE506.out GE519.out GE529.out) hb);(try clear hb);(try clear hb2);(try clear hk);(try clear hi);(try clear ho0);(try clear ho1)
         refine hK.out _ _ ⟨bc_ BK505.out 0, bc_ BK505.out 1, bc_ BK505.out 2, bc_ BK505.out 3, bc_ BK519.out 0⟩ (fun hHeld => ?_)
         clear hK K
         refine norm_ (a' := ?_) ?_ ?_
         rotate_left
         ·show Act.put _ (some 27) _ = _
          simp only [Act.put, lI_, l0_, lS_, i64_w, i32_w]
          rfl
         refine pu_ 5 (some 22) #[true, true, true, true, true, true, false, false, true, false, false, false] rfl rfl (any_of HT_.out (by kernel_rfl)) ?_
         refine pu_ 6 (some 28) #[true, true, true, true, true, true, true, false, true, false, false, false] rfl rfl (any_of HT_.out (by kernel_rfl)) ?_
         refine pu_ 7 (some 29) #[true, true, true, true, true, true, true, true, true, false, false, false] rfl rfl (any_of HT_.out (by kernel_rfl)) ?_
         exact norm_ pa_ (hJ2_4_8 (.slice Ao38 t520.length co38, _, _, gb529) _ ⟨hHeld, (by (with_reducible repeat (first | apply Kd.R_alloc | apply Kd.R_drewN | apply Kd.R_drew)); exact Kd.R_mono HO515.out (fun _ hk => ⟨hk.1.1, ⟨hk.1.2, hk.2⟩⟩)), (by (with_reducible repeat (first | apply Kd.R_alloc | apply Kd.R_drewN | apply Kd.R_drew)); exact Kd.R_mono HO518.out (fun _ hk => ⟨hk.1.1, ⟨hk.1.2, hk.2⟩⟩)), (by (with_reducible repeat (first | apply Kd.R_alloc | apply Kd.R_drewN | apply Kd.R_drew)); exact Kd.R_mono HO522.out (fun _ hk => ⟨hk.1.1, ⟨hk.1.2, hk.2⟩⟩)), (by (with_reducible repeat (first | apply Kd.R_alloc | apply Kd.R_drewN | apply Kd.R_drew)); exact Kd.R_mono HO525.out (fun _ hk => ⟨hk.1.1.2, ⟨hk.1.2, hk.2⟩⟩)), (by (with_reducible repeat (first | apply Kd.V_alloc | apply Kd.V_drewN | apply Kd.V_drew)); exact Kd.V_mono HO528.out (fun _ hk => ⟨hk.2.1, ⟨hk.2.2.1, ⟨hk.1, ⟨hk.2.2.2.1, ⟨hk.2.2.2.2.1, ⟨hk.2.2.2.2.2.1, hk.2.2.2.2.2.2⟩⟩⟩⟩⟩⟩)), (bk_ BK505.out), (bk_ BK506.out), (bk_ BK519.out), (bk_ BK529.out), GW529.out, GE529.out, NB505_529.out, NB529_505.out, NB506_529.out, NB529_506.out, NB519_529.out, NB529_519.out, (hb4_ HB.out GE505.out GE506.out GE519.out GE529.out)⟩)
        ·skip
         refine box_step ?hg (N := 7) ?hd (cs := #[.slice none 0 0]) (t := 53) ?hr ?_; (case hd => rfl); (case hg => rfl); (case hr => first | (go_simp; done) | (go_simp; rfl))
         intro gb530 hg w38 hbox hb
         have BK530 := A_ (hbox)
         have GW530 := A_ (sz_ hg (hb4_ HB.out GE505.out GE506.out GE519.out GE529.out))
         have GE530 := A_ (sz_ hg (hb4_ HB.out GE505.out GE506.out GE519.out GE529.out))
         have NB505_530 := A_ (nl_ hg BK505.out)
         have NB530_505 := A_ (ng_ hg BK505.out)
         have NB506_530 := A_ (nl_ hg BK506.out)
         have NB530_506 := A_ (ng_ hg BK506.out)
         have NB519_530 := A_ (nl_ hg BK519.out)
         have NB530_519 := A_ (ng_ hg BK519.out)
         have NB529_530 := A_ (nl_ hg BK529.out)
         have NB530_529 := A_ (ng_ hg BK529.out)
         replace HO515 := A_ (Kd.R_below (kr_ HO515.out) hb)
         replace HO518 := A_ (Kd.R_below (kr_ HO518.out) hb)
         replace HO522 := A_ (Kd.R_below (kr_ HO522.out) hb)
         replace BK505 := A_ (bb_ BK505.out hb)
         replace BK506 := A_ (bb_ BK506.out hb)
         replace BK519 := A_ (bb_ BK519.out hb)
         replace BK529 := A_ (bb_ BK529.out hb)
         replace HB := A_ (below_step (hb4_ HB.out GE505.out GE506.out GE519.out GE529.out) hb);clear hb hbox hg
         refine hK.out _ _ ⟨bc_ BK505.out 0, bc_ BK505.out 1, bc_ BK505.out 2, bc_ BK505.out 3, bc_ BK519.out 0⟩ (fun hHeld => ?_)
         clear hK K
         refine norm_ (a' := ?_) ?_ ?_
         rotate_left
         ·show Act.put _ (some 7) _ = _
          simp only [Act.put, lI_, l0_, lS_, i64_w, i32_w]
          rfl
         exact norm_ pa_ (hJ2_8_9 (_, gb529, gb530) _ ⟨hHeld, (kr_ HO515.out), (kr_ HO518.out), (kr_ HO522.out), (bk_ BK505.out), (bk_ BK506.out), (bk_ BK519.out), (bk_ BK529.out), (bk_ BK530.out), GW529.out, GE529.out, NB505_529.out, NB529_505.out, NB506_529.out, NB529_506.out, NB519_529.out, NB529_519.out, NB530_529.out, NB529_530.out, GW530.out, GE530.out, NB505_530.out, NB530_505.out, NB506_530.out, NB530_506.out, NB519_530.out, NB530_519.out, (by repeat (first | (with_reducible first | exact HB.out | apply below_alloc | apply pw_below_drewN | apply below_drew1 | refine below_set ?_ GE505.out | refine below_set ?_ GE506.out | refine below_set ?_ GE519.out | refine below_set ?_ GE529.out | refine below_set ?_ GE530.out) | exact HB.out))⟩)
      ·skip
       rintro ⟨v521, v524, v527⟩ w38 ⟨hS_, h0_, h1_, h2_, h3_, h4_, h5_, h6_, h7_, h8_⟩
       have n0_ : Aside0 (Kd.R (Kd.int .u64) 22 w38 w.heap.size (fun k_ => some k_ ≠ (.slice Ao31 t516.length co31 : Value).ownBlock ∧ some k_ ≠ (v521 : Value).ownBlock ∧ some k_ ≠ (v524 : Value).ownBlock) v514 t513) := ⟨h0_⟩
       have n1_ : Aside0 (Kd.R (Kd.int .u64) 22 w38 w.heap.size (fun k_ => some k_ ≠ (v514 : Value).ownBlock ∧ some k_ ≠ (v521 : Value).ownBlock ∧ some k_ ≠ (v524 : Value).ownBlock) (.slice Ao31 t516.length co31) t516) := ⟨h1_⟩
       have n2_ : Aside0 (Kd.R (Kd.int .u64) 22 w38 w.heap.size (fun k_ => some k_ ≠ (v514 : Value).ownBlock ∧ some k_ ≠ (.slice Ao31 t516.length co31 : Value).ownBlock ∧ some k_ ≠ (v524 : Value).ownBlock) v521 t520) := ⟨h2_⟩
       have n3_ : Aside0 (Kd.R (Kd.int .u64) 22 w38 w.heap.size (fun k_ => some k_ ≠ (v514 : Value).ownBlock ∧ some k_ ≠ (.slice Ao31 t516.length co31 : Value).ownBlock ∧ some k_ ≠ (v521 : Value).ownBlock) v524 t523) := ⟨h3_⟩
       have n4_ : Aside0 (Kd.V (Kd.int .u64) 22 w38 w.heap.size (fun k_ => some k_ ≠ (v514 : Value).ownBlock ∧ some k_ ≠ (.slice Ao31 t516.length co31 : Value).ownBlock ∧ some k_ ≠ (v524 : Value).ownBlock ∧ k_ ≠ gb505 ∧ k_ ≠ gb506 ∧ k_ ≠ gb519) v527 t526) := ⟨h4_⟩
       have n5_ : Aside0 (w38.heap[gb505]? = some (.cells #[.bool a0_0, .int .i64 a0_1, .int .i64 a0_2, .int .u64 a0_3] 67 (0, 0))) := ⟨h5_⟩
       have n6_ : Aside0 (w38.heap[gb506]? = some (.cells #[.slice none 0 0] 53 (0, 0))) := ⟨h6_⟩
       have n7_ : Aside0 (w38.heap[gb519]? = some (.cells #[.slice Ao31 t516.length co31] 53 (0, 0))) := ⟨h7_⟩
       have n8_ : Aside0 (Below w.heap.size w w38) := ⟨h8_⟩
       clear HO515;clear HO518;clear BK505;clear BK506;clear BK519;clear HB;clear h0_ h1_ h2_ h3_ h4_ h5_ h6_ h7_ h8_;have HO515 := n0_;have HO518 := n1_;have HO522 := n2_;have HO525 := n3_;have HO528 := n4_;have BK505 := n5_;have BK506 := n6_;have BK519 := n7_;have HB := n8_;clear n0_ n1_ n2_ n3_ n4_ n5_ n6_ n7_ n8_
       have hHeld : w38.cell? ⟨gb505, 0, none⟩ = some (.bool a0_0) ∧ w38.cell? ⟨gb505, 1, none⟩ = some (.int .i64 a0_1) ∧ w38.cell? ⟨gb505, 2, none⟩ = some (.int .i64 a0_2) ∧ w38.cell? ⟨gb505, 3, none⟩ = some (.int .u64 a0_3) ∧ w38.cell? ⟨gb519, 0, none⟩ = some (.slice Ao31 t516.length co31) := hS_
       refine norm_ (a' := ?_) ?_ ?_
       rotate_left
       ·simp only [putAll, Act.put, lI_, l0_, lS_]
        rfl
       refine two_ (i := 8) (j := 9) (Ni := some 6) (Nj := some 7) #[true, true, true, true, true, true, true, true, true, false, false, false] #[true, true, true, true, true, true, true, true, false, true, false, false] rfl rfl rfl rfl (two_of HT_.out (by kernel_rfl)) (by decide) (by decide) (fun K hK => ?_) (fun K hK => ?_)
       ·skip
        refine box_step ?hg (N := 6) ?hd (cs := #[.slice none 0 0]) (t := 53) ?hr ?_; (case hd => rfl); (case hg => rfl); (case hr => first | (go_simp; done) | (go_simp; rfl))
        intro gb529 hg w39 hbox hb
        have BK529 := A_ (hbox)
        have GW529 := A_ (sz_ hg (hb3_ HB.out GE505.out GE506.out GE519.out))
        have GE529 := A_ (sz_ hg (hb3_ HB.out GE505.out GE506.out GE519.out))
        have NB505_529 := A_ (nl_ hg BK505.out)
        have NB529_505 := A_ (ng_ hg BK505.out)
        have NB506_529 := A_ (nl_ hg BK506.out)
        have NB529_506 := A_ (ng_ hg BK506.out)
        have NB519_529 := A_ (nl_ hg BK519.out)
        have NB529_519 := A_ (ng_ hg BK519.out)
        replace HO515 := A_ (Kd.R_below (kr_ HO515.out) hb)
        replace HO518 := A_ (Kd.R_below (kr_ HO518.out) hb)
        replace HO522 := A_ (Kd.R_below (kr_ HO522.out) hb)
        replace HO525 := A_ (Kd.R_below (kr_ HO525.out) hb)
        replace HO528 := A_ (Kd.V_below (Kd.V_elderB (kv_ HO528.out) gb529 (Nat.le_of_eq hg.symm)) hb)
        replace BK505 := A_ (bb_ BK505.out hb)
        replace BK506 := A_ (bb_ BK506.out hb)
        replace BK519 := A_ (bb_ BK519.out hb)
        replace HB := A_ (below_step (hb3_ HB.out GE505.out GE506.out GE519.out) hb);clear hb hbox hg
        refine hK.out _ _ ⟨bc_ BK505.out 0, bc_ BK505.out 1, bc_ BK505.out 2, bc_ BK505.out 3, bc_ BK519.out 0⟩ (fun hHeld => ?_)
        clear hK K
        refine norm_ (a' := ?_) ?_ ?_
        rotate_left
        ·show Act.put _ (some 6) _ = _
         simp only [Act.put, lI_, l0_, lS_, i64_w, i32_w]
         rfl
        exact norm_ pa_ (hJ2_4_8 (_, _, _, gb529) _ ⟨hHeld, (kr_ HO515.out), (kr_ HO518.out), (kr_ HO522.out), (kr_ HO525.out), (by (with_reducible repeat (first | apply Kd.V_alloc | apply Kd.V_drewN | apply Kd.V_drew)); exact Kd.V_mono HO528.out (fun _ hk => ⟨hk.1.1, ⟨hk.1.2.1, ⟨hk.1.2.2.1, ⟨hk.1.2.2.2.1, ⟨hk.1.2.2.2.2.1, ⟨hk.1.2.2.2.2.2, hk.2⟩⟩⟩⟩⟩⟩)), (bk_ BK505.out), (bk_ BK506.out), (bk_ BK519.out), (bk_ BK529.out), GW529.out, GE529.out, NB505_529.out, NB529_505.out, NB506_529.out, NB529_506.out, NB519_529.out, NB529_519.out, (hb4_ HB.out GE505.out GE506.out GE519.out GE529.out)⟩)
       ·skip
        refine box_step ?hg (N := 7) ?hd (cs := #[.slice none 0 0]) (t := 53) ?hr ?_; (case hd => rfl); (case hg => rfl); (case hr => first | (go_simp; done) | (go_simp; rfl))
        intro gb530 hg w39 hbox hb
        have BK530 := A_ (hbox)
        have GW530 := A_ (sz_ hg (hb3_ HB.out GE505.out GE506.out GE519.out))
        have GE530 := A_ (sz_ hg (hb3_ HB.out GE505.out GE506.out GE519.out))
        have NB505_530 := A_ (nl_ hg BK505.out)
        have NB530_505 := A_ (ng_ hg BK505.out)
        have NB506_530 := A_ (nl_ hg BK506.out)
        have NB530_506 := A_ (ng_ hg BK506.out)
        have NB519_530 := A_ (nl_ hg BK519.out)
        have NB530_519 := A_ (ng_ hg BK519.out)
        replace HO515 := A_ (Kd.R_below (kr_ HO515.out) hb)
        replace HO518 := A_ (Kd.R_below (kr_ HO518.out) hb)
        replace HO522 := A_ (Kd.R_below (kr_ HO522.out) hb)
        replace HO525 := A_ (Kd.R_below (kr_ HO525.out) hb)
        replace HO528 := A_ (Kd.V_below (Kd.V_elderB (kv_ HO528.out) gb530 (Nat.le_of_eq hg.symm)) hb)
        replace BK505 := A_ (bb_ BK505.out hb)
        replace BK506 := A_ (bb_ BK506.out hb)
        replace BK519 := A_ (bb_ BK519.out hb)
        replace HB := A_ (below_step (hb3_ HB.out GE505.out GE506.out GE519.out) hb);clear hb hbox hg
        refine hK.out _ _ ⟨bc_ BK505.out 0, bc_ BK505.out 1, bc_ BK505.out 2, bc_ BK505.out 3, bc_ BK519.out 0⟩ (fun hHeld => ?_)
        clear hK K
        refine norm_ (a' := ?_) ?_ ?_
        rotate_left
        ·show Act.put _ (some 7) _ = _
         simp only [Act.put, lI_, l0_, lS_, i64_w, i32_w]
         rfl
        exact norm_ pa_ (hJ2_4_9 (_, _, _, gb530) _ ⟨hHeld, (kr_ HO515.out), (kr_ HO518.out), (kr_ HO522.out), (kr_ HO525.out), (by (with_reducible repeat (first | apply Kd.V_alloc | apply Kd.V_drewN | apply Kd.V_drew)); exact Kd.V_mono HO528.out (fun _ hk => ⟨hk.1.1, ⟨hk.1.2.1, ⟨hk.1.2.2.1, ⟨hk.1.2.2.2.1, ⟨hk.1.2.2.2.2.1, ⟨hk.1.2.2.2.2.2, hk.2⟩⟩⟩⟩⟩⟩)), (bk_ BK505.out), (bk_ BK506.out), (bk_ BK519.out), (bk_ BK530.out), GW530.out, GE530.out, NB505_530.out, NB530_505.out, NB506_530.out, NB530_506.out, NB519_530.out, NB530_519.out, (hb4_ HB.out GE505.out GE506.out GE519.out GE530.out)⟩)
     ·skip
      rintro ⟨v521, gb529, gb530⟩ w38 ⟨hS_, h0_, h1_, h2_, h3_, h4_, h5_, h6_, h7_, h8_, h9_, h10_, h11_, h12_, h13_, h14_, h15_, h16_, h17_, h18_, h19_, h20_, h21_, h22_, h23_, h24_, h25_, h26_⟩
      have n0_ : Aside0 (Kd.R (Kd.int .u64) 22 w38 w.heap.size (fun k_ => some k_ ≠ (.slice Ao31 t516.length co31 : Value).ownBlock ∧ some k_ ≠ (v521 : Value).ownBlock) v514 t513) := ⟨h0_⟩
      have n1_ : Aside0 (Kd.R (Kd.int .u64) 22 w38 w.heap.size (fun k_ => some k_ ≠ (v514 : Value).ownBlock ∧ some k_ ≠ (v521 : Value).ownBlock) (.slice Ao31 t516.length co31) t516) := ⟨h1_⟩
      have n2_ : Aside0 (Kd.R (Kd.int .u64) 22 w38 w.heap.size (fun k_ => some k_ ≠ (v514 : Value).ownBlock ∧ some k_ ≠ (.slice Ao31 t516.length co31 : Value).ownBlock) v521 t520) := ⟨h2_⟩
      have n3_ : Aside0 (w38.heap[gb505]? = some (.cells #[.bool a0_0, .int .i64 a0_1, .int .i64 a0_2, .int .u64 a0_3] 67 (0, 0))) := ⟨h3_⟩
      have n4_ : Aside0 (w38.heap[gb506]? = some (.cells #[.slice none 0 0] 53 (0, 0))) := ⟨h4_⟩
      have n5_ : Aside0 (w38.heap[gb519]? = some (.cells #[.slice Ao31 t516.length co31] 53 (0, 0))) := ⟨h5_⟩
      have n6_ : Aside0 (w38.heap[gb529]? = some (.cells #[.slice none 0 0] 53 (0, 0))) := ⟨h6_⟩
      have n7_ : Aside0 (w38.heap[gb530]? = some (.cells #[.slice none 0 0] 53 (0, 0))) := ⟨h7_⟩
      have n8_ : Aside0 (w.heap.size ≤ gb529) := ⟨h8_⟩
      have n9_ : Aside0 (w.heap.size ≤ gb529) := ⟨h9_⟩
      have n10_ : Aside0 (gb505 ≠ gb529) := ⟨h10_⟩
      have n11_ : Aside0 (gb529 ≠ gb505) := ⟨h11_⟩
      have n12_ : Aside0 (gb506 ≠ gb529) := ⟨h12_⟩
      have n13_ : Aside0 (gb529 ≠ gb506) := ⟨h13_⟩
      have n14_ : Aside0 (gb519 ≠ gb529) := ⟨h14_⟩
      have n15_ : Aside0 (gb529 ≠ gb519) := ⟨h15_⟩
      have n16_ : Aside0 (gb530 ≠ gb529) := ⟨h16_⟩
      have n17_ : Aside0 (gb529 ≠ gb530) := ⟨h17_⟩
      have n18_ : Aside0 (w.heap.size ≤ gb530) := ⟨h18_⟩
      have n19_ : Aside0 (w.heap.size ≤ gb530) := ⟨h19_⟩
      have n20_ : Aside0 (gb505 ≠ gb530) := ⟨h20_⟩
      have n21_ : Aside0 (gb530 ≠ gb505) := ⟨h21_⟩
      have n22_ : Aside0 (gb506 ≠ gb530) := ⟨h22_⟩
      have n23_ : Aside0 (gb530 ≠ gb506) := ⟨h23_⟩
      have n24_ : Aside0 (gb519 ≠ gb530) := ⟨h24_⟩
      have n25_ : Aside0 (gb530 ≠ gb519) := ⟨h25_⟩
      have n26_ : Aside0 (Below w.heap.size w w38) := ⟨h26_⟩
      clear HO515;clear HO518;clear BK505;clear BK506;clear BK519;clear HB;clear h0_ h1_ h2_ h3_ h4_ h5_ h6_ h7_ h8_ h9_ h10_ h11_ h12_ h13_ h14_ h15_ h16_ h17_ h18_ h19_ h20_ h21_ h22_ h23_ h24_ h25_ h26_;have HO515 := n0_;have HO518 := n1_;have HO522 := n2_;have BK505 := n3_;have BK506 := n4_;have BK519 := n5_;have BK529 := n6_;have BK530 := n7_;have GW529 := n8_;have GE529 := n9_;have NB505_529 := n10_;have NB529_505 := n11_;have NB506_529 := n12_;have NB529_506 := n13_;have NB519_529 := n14_;have NB529_519 := n15_;have NB530_529 := n16_;have NB529_530 := n17_;have GW530 := n18_;have GE530 := n19_;have NB505_530 := n20_;have NB530_505 := n21_;have NB506_530 := n22_;have NB530_506 := n23_;have NB519_530 := n24_;have NB530_519 := n25_;have HB := n26_;clear n0_ n1_ n2_ n3_ n4_ n5_ n6_ n7_ n8_ n9_ n10_ n11_ n12_ n13_ n14_ n15_ n16_ n17_ n18_ n19_ n20_ n21_ n22_ n23_ n24_ n25_ n26_
      have hHeld : w38.cell? ⟨gb505, 0, none⟩ = some (.bool a0_0) ∧ w38.cell? ⟨gb505, 1, none⟩ = some (.int .i64 a0_1) ∧ w38.cell? ⟨gb505, 2, none⟩ = some (.int .i64 a0_2) ∧ w38.cell? ⟨gb505, 3, none⟩ = some (.int .u64 a0_3) ∧ w38.cell? ⟨gb519, 0, none⟩ = some (.slice Ao31 t516.length co31) := hS_
      obtain ⟨Ao39, co39, eo39⟩ := Kd.R_slice HO522.out
      (first | subst eo39 | (injection eo39 with f1_ f2_ f3_; have f4_ := f1_.symm; have f5_ := f3_.symm; clear f1_ f2_ f3_; subst f4_; subst f5_))
      refine norm_ (a' := ?_) ?_ ?_
      rotate_left
      ·simp only [putAll, Act.put, lI_, l0_, lS_]
       rfl
      refine one_ (i := 4) (N := some 27) #[true, true, true, true, true, false, false, false, true, true, false, false] rfl rfl (one_of HT_.out (by kernel_rfl)) (by decide) (fun K hK => ?_)
      refine goes_ Try.func93 (by kernel_rfl) rfl #[.agg #[.slice Ao39 t520.length co39], .agg #[.slice Ao31 t516.length co31]] (by rfl) rfl rfl mp_ ?_
      with_reducible refine (r1_Div.calls k (fun k_ => some k_ = (.slice Ao39 t520.length co39 : Value).ownBlock) _ _ t520 _ _ t516 t523 t526 _ ?side1 ?side2 ?side3 A18.out).mono ?_
      (case side1 => exact Kd.R_V (Kd.R_tight rfl (Kd.R_types (Kd.R_types (Kd.R_types (Kd.R_types (Kd.R_types (HO522.out) BK505.out (by decide)) BK506.out (by decide)) BK519.out (by decide)) BK529.out (by decide)) BK530.out (by decide))))
      (case side2 => exact cs_ ((Kd.R_reads' HO518.out).2.2))
      (case side3 => exact (Kd.R_reads' HO518.out).2.1)
      rintro e w40 ⟨v524, v527, rfl, ho0, ho1, hb⟩
      refine ⟨_, rfl, ?_⟩
      have HO525 := A_ (Kd.R_lower (Kd.R_new' (Kd.R_new' (Kd.R_new' (Kd.R_mono (ok' := fun k_ => True) ho0 (fun _ hk_ => trivial)) (Kd.R_lt (kr_ HO515.out))) (Kd.R_lt (kr_ HO518.out))) (Kd.R_lt (kr_ HO522.out))) (below_size (by repeat (first | (with_reducible first | exact HB.out | apply below_alloc | apply pw_below_drewN | apply below_drew1 | refine below_set ?_ GE505.out | refine below_set ?_ GE506.out | refine below_set ?_ GE519.out | refine below_set ?_ GE529.out | refine below_set ?_ GE530.out) | exact HB.out))))
      have HO528 := A_ (Kd.V_lower (Kd.V_mono (ok' := fun k_ => some k_ ≠ (v524 : Value).ownBlock ∧ some k_ ≠ (v514 : Value).ownBlock ∧ some k_ ≠ (.slice Ao31 t516.length co31 : Value).ownBlock ∧ k_ ≠ gb505 ∧ k_ ≠ gb506 ∧ k_ ≠ gb519 ∧ k_ ≠ gb529 ∧ k_ ≠ gb530) ho1 (fun k_ hk_ => ⟨hk_.2, Or.elim hk_.1 (fun hs_ => ((Kd.R_types (Kd.R_types (Kd.R_types (Kd.R_types (Kd.R_types (HO522.out) BK505.out (by decide)) BK506.out (by decide)) BK519.out (by decide)) BK529.out (by decide)) BK530.out (by decide)).1 k_ hs_.symm).1.1.1.1.1.1) (fun hn_ => (Kd.fresh' (Kd.R_lt (kr_ HO515.out)) k_ hn_)), Or.elim hk_.1 (fun hs_ => ((Kd.R_types (Kd.R_types (Kd.R_types (Kd.R_types (Kd.R_types (HO522.out) BK505.out (by decide)) BK506.out (by decide)) BK519.out (by decide)) BK529.out (by decide)) BK530.out (by decide)).1 k_ hs_.symm).1.1.1.1.1.2) (fun hn_ => (Kd.fresh' (Kd.R_lt (kr_ HO518.out)) k_ hn_)), Or.elim hk_.1 (fun hs_ => ((Kd.R_types (Kd.R_types (Kd.R_types (Kd.R_types (Kd.R_types (HO522.out) BK505.out (by decide)) BK506.out (by decide)) BK519.out (by decide)) BK529.out (by decide)) BK530.out (by decide)).1 k_ hs_.symm).1.1.1.1.2) (fun hn_ => (Kd.freshB (g := gb505) (o := .cells #[.bool a0_0, .int .i64 a0_1, .int .i64 a0_2, .int .u64 a0_3] 67 (0, 0)) (bk_ BK505.out) k_ hn_)), Or.elim hk_.1 (fun hs_ => ((Kd.R_types (Kd.R_types (Kd.R_types (Kd.R_types (Kd.R_types (HO522.out) BK505.out (by decide)) BK506.out (by decide)) BK519.out (by decide)) BK529.out (by decide)) BK530.out (by decide)).1 k_ hs_.symm).1.1.1.2) (fun hn_ => (Kd.freshB (g := gb506) (o := .cells #[.slice none 0 0] 53 (0, 0)) (bk_ BK506.out) k_ hn_)), Or.elim hk_.1 (fun hs_ => ((Kd.R_types (Kd.R_types (Kd.R_types (Kd.R_types (Kd.R_types (HO522.out) BK505.out (by decide)) BK506.out (by decide)) BK519.out (by decide)) BK529.out (by decide)) BK530.out (by decide)).1 k_ hs_.symm).1.1.2) (fun hn_ => (Kd.freshB (g := gb519) (o := .cells #[.slice Ao31 t516.length co31] 53 (0, 0)) (bk_ BK519.out) k_ hn_)), Or.elim hk_.1 (fun hs_ => ((Kd.R_types (Kd.R_types (Kd.R_types (Kd.R_types (Kd.R_types (HO522.out) BK505.out (by decide)) BK506.out (by decide)) BK519.out (by decide)) BK529.out (by decide)) BK530.out (by decide)).1 k_ hs_.symm).1.2) (fun hn_ => (Kd.freshB (g := gb529) (o := .cells #[.slice none 0 0] 53 (0, 0)) (bk_ BK529.out) k_ hn_)), Or.elim hk_.1 (fun hs_ => ((Kd.R_types (Kd.R_types (Kd.R_types (Kd.R_types (Kd.R_types (HO522.out) BK505.out (by decide)) BK506.out (by decide)) BK519.out (by decide)) BK529.out (by decide)) BK530.out (by decide)).1 k_ hs_.symm).2) (fun hn_ => (Kd.freshB (g := gb530) (o := .cells #[.slice none 0 0] 53 (0, 0)) (bk_ BK530.out) k_ hn_))⟩)) (below_size (by repeat (first | (with_reducible first | exact HB.out | apply below_alloc | apply pw_below_drewN | apply below_drew1 | refine below_set ?_ GE505.out | refine below_set ?_ GE506.out | refine below_set ?_ GE519.out | refine below_set ?_ GE529.out | refine below_set ?_ GE530.out) | exact HB.out))))
      replace HO515 := A_ (Kd.R_elder' (kr_ HO515.out) (Kd.R_base ho0) hb)
      replace HO518 := A_ (Kd.R_elder' (kr_ HO518.out) (Kd.R_base ho0) hb)
      replace HO522 := A_ (Kd.R_elder' (kr_ HO522.out) (Kd.R_base ho0) hb)
      replace BK505 := A_ (bb_ BK505.out hb)
      replace BK506 := A_ (bb_ BK506.out hb)
      replace BK519 := A_ (bb_ BK519.out hb)
      replace BK529 := A_ (bb_ BK529.out hb)
      replace BK530 := A_ (bb_ BK530.out hb)
      replace HB := A_ (below_step (by repeat (first | (with_reducible first | exact HB.out | apply below_alloc | apply pw_below_drewN | apply below_drew1 | refine below_set ?_ GE505.out | refine below_set ?_ GE506.out | refine below_set ?_ GE519.out | refine below_set ?_ GE529.out | refine below_set ?_ GE530.out) | exact HB.out)) hb);(try clear hb);(try clear hb2);(try clear hk);(try clear hi);(try clear ho0);(try clear ho1)
      refine hK.out _ _ ⟨bc_ BK505.out 0, bc_ BK505.out 1, bc_ BK505.out 2, bc_ BK505.out 3, bc_ BK519.out 0⟩ (fun hHeld => ?_)
      clear hK K
      refine norm_ (a' := ?_) ?_ ?_
      rotate_left
      ·show Act.put _ (some 27) _ = _
       simp only [Act.put, lI_, l0_, lS_, i64_w, i32_w]
       rfl
      refine pu_ 5 (some 22) #[true, true, true, true, true, true, false, false, true, true, false, false] rfl rfl (any_of HT_.out (by kernel_rfl)) ?_
      refine pu_ 6 (some 28) #[true, true, true, true, true, true, true, false, true, true, false, false] rfl rfl (any_of HT_.out (by kernel_rfl)) ?_
      refine pu_ 7 (some 29) #[true, true, true, true, true, true, true, true, true, true, false, false] rfl rfl (any_of HT_.out (by kernel_rfl)) ?_
      exact norm_ pa_ (hJ2_4_8_9 (.slice Ao39 t520.length co39, _, _, gb529, gb530) _ ⟨hHeld, (by (with_reducible repeat (first | apply Kd.R_alloc | apply Kd.R_drewN | apply Kd.R_drew)); exact Kd.R_mono HO515.out (fun _ hk => ⟨hk.1.1, ⟨hk.1.2, hk.2⟩⟩)), (by (with_reducible repeat (first | apply Kd.R_alloc | apply Kd.R_drewN | apply Kd.R_drew)); exact Kd.R_mono HO518.out (fun _ hk => ⟨hk.1.1, ⟨hk.1.2, hk.2⟩⟩)), (by (with_reducible repeat (first | apply Kd.R_alloc | apply Kd.R_drewN | apply Kd.R_drew)); exact Kd.R_mono HO522.out (fun _ hk => ⟨hk.1.1, ⟨hk.1.2, hk.2⟩⟩)), (by (with_reducible repeat (first | apply Kd.R_alloc | apply Kd.R_drewN | apply Kd.R_drew)); exact Kd.R_mono HO525.out (fun _ hk => ⟨hk.1.1.2, ⟨hk.1.2, hk.2⟩⟩)), (by (with_reducible repeat (first | apply Kd.V_alloc | apply Kd.V_drewN | apply Kd.V_drew)); exact Kd.V_mono HO528.out (fun _ hk => ⟨hk.2.1, ⟨hk.2.2.1, ⟨hk.1, ⟨hk.2.2.2.1, ⟨hk.2.2.2.2.1, ⟨hk.2.2.2.2.2.1, ⟨hk.2.2.2.2.2.2.1, hk.2.2.2.2.2.2.2⟩⟩⟩⟩⟩⟩⟩)), (bk_ BK505.out), (bk_ BK506.out), (bk_ BK519.out), (bk_ BK529.out), (bk_ BK530.out), GW529.out, GE529.out, NB505_529.out, NB529_505.out, NB506_529.out, NB529_506.out, NB519_529.out, NB529_519.out, NB530_529.out, NB529_530.out, GW530.out, GE530.out, NB505_530.out, NB530_505.out, NB506_530.out, NB530_506.out, NB519_530.out, NB530_519.out, (by repeat (first | (with_reducible first | exact HB.out | apply below_alloc | apply pw_below_drewN | apply below_drew1 | refine below_set ?_ GE505.out | refine below_set ?_ GE506.out | refine below_set ?_ GE519.out | refine below_set ?_ GE529.out | refine below_set ?_ GE530.out) | exact HB.out))⟩)
    ·skip
     rintro ⟨v521, v524, v527, gb530⟩ w39 ⟨hS_, h0_, h1_, h2_, h3_, h4_, h5_, h6_, h7_, h8_, h9_, h10_, h11_, h12_, h13_, h14_, h15_, h16_, h17_⟩
     have n0_ : Aside0 (Kd.R (Kd.int .u64) 22 w39 w.heap.size (fun k_ => some k_ ≠ (.slice Ao31 t516.length co31 : Value).ownBlock ∧ some k_ ≠ (v521 : Value).ownBlock ∧ some k_ ≠ (v524 : Value).ownBlock) v514 t513) := ⟨h0_⟩
     have n1_ : Aside0 (Kd.R (Kd.int .u64) 22 w39 w.heap.size (fun k_ => some k_ ≠ (v514 : Value).ownBlock ∧ some k_ ≠ (v521 : Value).ownBlock ∧ some k_ ≠ (v524 : Value).ownBlock) (.slice Ao31 t516.length co31) t516) := ⟨h1_⟩
     have n2_ : Aside0 (Kd.R (Kd.int .u64) 22 w39 w.heap.size (fun k_ => some k_ ≠ (v514 : Value).ownBlock ∧ some k_ ≠ (.slice Ao31 t516.length co31 : Value).ownBlock ∧ some k_ ≠ (v524 : Value).ownBlock) v521 t520) := ⟨h2_⟩
     have n3_ : Aside0 (Kd.R (Kd.int .u64) 22 w39 w.heap.size (fun k_ => some k_ ≠ (v514 : Value).ownBlock ∧ some k_ ≠ (.slice Ao31 t516.length co31 : Value).ownBlock ∧ some k_ ≠ (v521 : Value).ownBlock) v524 t523) := ⟨h3_⟩
     have n4_ : Aside0 (Kd.V (Kd.int .u64) 22 w39 w.heap.size (fun k_ => some k_ ≠ (v514 : Value).ownBlock ∧ some k_ ≠ (.slice Ao31 t516.length co31 : Value).ownBlock ∧ some k_ ≠ (v524 : Value).ownBlock ∧ k_ ≠ gb505 ∧ k_ ≠ gb506 ∧ k_ ≠ gb519 ∧ k_ ≠ gb530) v527 t526) := ⟨h4_⟩
     have n5_ : Aside0 (w39.heap[gb505]? = some (.cells #[.bool a0_0, .int .i64 a0_1, .int .i64 a0_2, .int .u64 a0_3] 67 (0, 0))) := ⟨h5_⟩
     have n6_ : Aside0 (w39.heap[gb506]? = some (.cells #[.slice none 0 0] 53 (0, 0))) := ⟨h6_⟩
     have n7_ : Aside0 (w39.heap[gb519]? = some (.cells #[.slice Ao31 t516.length co31] 53 (0, 0))) := ⟨h7_⟩
     have n8_ : Aside0 (w39.heap[gb530]? = some (.cells #[.slice none 0 0] 53 (0, 0))) := ⟨h8_⟩
     have n9_ : Aside0 (w.heap.size ≤ gb530) := ⟨h9_⟩
     have n10_ : Aside0 (w.heap.size ≤ gb530) := ⟨h10_⟩
     have n11_ : Aside0 (gb505 ≠ gb530) := ⟨h11_⟩
     have n12_ : Aside0 (gb530 ≠ gb505) := ⟨h12_⟩
     have n13_ : Aside0 (gb506 ≠ gb530) := ⟨h13_⟩
     have n14_ : Aside0 (gb530 ≠ gb506) := ⟨h14_⟩
     have n15_ : Aside0 (gb519 ≠ gb530) := ⟨h15_⟩
     have n16_ : Aside0 (gb530 ≠ gb519) := ⟨h16_⟩
     have n17_ : Aside0 (Below w.heap.size w w39) := ⟨h17_⟩
     clear HO515;clear HO518;clear BK505;clear BK506;clear BK519;clear HB;clear h0_ h1_ h2_ h3_ h4_ h5_ h6_ h7_ h8_ h9_ h10_ h11_ h12_ h13_ h14_ h15_ h16_ h17_;have HO515 := n0_;have HO518 := n1_;have HO522 := n2_;have HO525 := n3_;have HO528 := n4_;have BK505 := n5_;have BK506 := n6_;have BK519 := n7_;have BK530 := n8_;have GW530 := n9_;have GE530 := n10_;have NB505_530 := n11_;have NB530_505 := n12_;have NB506_530 := n13_;have NB530_506 := n14_;have NB519_530 := n15_;have NB530_519 := n16_;have HB := n17_;clear n0_ n1_ n2_ n3_ n4_ n5_ n6_ n7_ n8_ n9_ n10_ n11_ n12_ n13_ n14_ n15_ n16_ n17_
     have hHeld : w39.cell? ⟨gb505, 0, none⟩ = some (.bool a0_0) ∧ w39.cell? ⟨gb505, 1, none⟩ = some (.int .i64 a0_1) ∧ w39.cell? ⟨gb505, 2, none⟩ = some (.int .i64 a0_2) ∧ w39.cell? ⟨gb505, 3, none⟩ = some (.int .u64 a0_3) ∧ w39.cell? ⟨gb519, 0, none⟩ = some (.slice Ao31 t516.length co31) := hS_
     refine norm_ (a' := ?_) ?_ ?_
     rotate_left
     ·simp only [putAll, Act.put, lI_, l0_, lS_]
      rfl
     refine one_ (i := 8) (N := some 6) #[true, true, true, true, true, true, true, true, true, true, false, false] rfl rfl (one_of HT_.out (by kernel_rfl)) (by decide) (fun K hK => ?_)
     refine box_step ?hg (N := 6) ?hd (cs := #[.slice none 0 0]) (t := 53) ?hr ?_; (case hd => rfl); (case hg => rfl); (case hr => first | (go_simp; done) | (go_simp; rfl))
     intro gb529 hg w40 hbox hb
     have BK529 := A_ (hbox)
     have GW529 := A_ (sz_ hg (hb4_ HB.out GE505.out GE506.out GE519.out GE530.out))
     have GE529 := A_ (sz_ hg (hb4_ HB.out GE505.out GE506.out GE519.out GE530.out))
     have NB505_529 := A_ (nl_ hg BK505.out)
     have NB529_505 := A_ (ng_ hg BK505.out)
     have NB506_529 := A_ (nl_ hg BK506.out)
     have NB529_506 := A_ (ng_ hg BK506.out)
     have NB519_529 := A_ (nl_ hg BK519.out)
     have NB529_519 := A_ (ng_ hg BK519.out)
     have NB530_529 := A_ (nl_ hg BK530.out)
     have NB529_530 := A_ (ng_ hg BK530.out)
     replace HO515 := A_ (Kd.R_below (kr_ HO515.out) hb)
     replace HO518 := A_ (Kd.R_below (kr_ HO518.out) hb)
     replace HO522 := A_ (Kd.R_below (kr_ HO522.out) hb)
     replace HO525 := A_ (Kd.R_below (kr_ HO525.out) hb)
     replace HO528 := A_ (Kd.V_below (Kd.V_elderB (kv_ HO528.out) gb529 (Nat.le_of_eq hg.symm)) hb)
     replace BK505 := A_ (bb_ BK505.out hb)
     replace BK506 := A_ (bb_ BK506.out hb)
     replace BK519 := A_ (bb_ BK519.out hb)
     replace BK530 := A_ (bb_ BK530.out hb)
     replace HB := A_ (below_step (hb4_ HB.out GE505.out GE506.out GE519.out GE530.out) hb);clear hb hbox hg
     refine hK.out _ _ ⟨bc_ BK505.out 0, bc_ BK505.out 1, bc_ BK505.out 2, bc_ BK505.out 3, bc_ BK519.out 0⟩ (fun hHeld => ?_)
     clear hK K
     refine norm_ (a' := ?_) ?_ ?_
     rotate_left
     ·show Act.put _ (some 6) _ = _
      simp only [Act.put, lI_, l0_, lS_, i64_w, i32_w]
      rfl
     exact norm_ pa_ (hJ2_4_8_9 (_, _, _, gb529, gb530) _ ⟨hHeld, (kr_ HO515.out), (kr_ HO518.out), (kr_ HO522.out), (kr_ HO525.out), (by (with_reducible repeat (first | apply Kd.V_alloc | apply Kd.V_drewN | apply Kd.V_drew)); exact Kd.V_mono HO528.out (fun _ hk => ⟨hk.1.1, ⟨hk.1.2.1, ⟨hk.1.2.2.1, ⟨hk.1.2.2.2.1, ⟨hk.1.2.2.2.2.1, ⟨hk.1.2.2.2.2.2.1, ⟨hk.2, hk.1.2.2.2.2.2.2⟩⟩⟩⟩⟩⟩⟩)), (bk_ BK505.out), (bk_ BK506.out), (bk_ BK519.out), (bk_ BK529.out), (bk_ BK530.out), GW529.out, GE529.out, NB505_529.out, NB529_505.out, NB506_529.out, NB529_506.out, NB519_529.out, NB529_519.out, NB530_529.out, NB529_530.out, GW530.out, GE530.out, NB505_530.out, NB530_505.out, NB506_530.out, NB530_506.out, NB519_530.out, NB530_519.out, (by repeat (first | (with_reducible first | exact HB.out | apply below_alloc | apply pw_below_drewN | apply below_drew1 | refine below_set ?_ GE505.out | refine below_set ?_ GE506.out | refine below_set ?_ GE519.out | refine below_set ?_ GE530.out | refine below_set ?_ GE529.out) | exact HB.out))⟩)
   ·skip
    rintro ⟨v521, v524, v527, gb529⟩ w39 ⟨hS_, h0_, h1_, h2_, h3_, h4_, h5_, h6_, h7_, h8_, h9_, h10_, h11_, h12_, h13_, h14_, h15_, h16_, h17_⟩
    have n0_ : Aside0 (Kd.R (Kd.int .u64) 22 w39 w.heap.size (fun k_ => some k_ ≠ (.slice Ao31 t516.length co31 : Value).ownBlock ∧ some k_ ≠ (v521 : Value).ownBlock ∧ some k_ ≠ (v524 : Value).ownBlock) v514 t513) := ⟨h0_⟩
    have n1_ : Aside0 (Kd.R (Kd.int .u64) 22 w39 w.heap.size (fun k_ => some k_ ≠ (v514 : Value).ownBlock ∧ some k_ ≠ (v521 : Value).ownBlock ∧ some k_ ≠ (v524 : Value).ownBlock) (.slice Ao31 t516.length co31) t516) := ⟨h1_⟩
    have n2_ : Aside0 (Kd.R (Kd.int .u64) 22 w39 w.heap.size (fun k_ => some k_ ≠ (v514 : Value).ownBlock ∧ some k_ ≠ (.slice Ao31 t516.length co31 : Value).ownBlock ∧ some k_ ≠ (v524 : Value).ownBlock) v521 t520) := ⟨h2_⟩
    have n3_ : Aside0 (Kd.R (Kd.int .u64) 22 w39 w.heap.size (fun k_ => some k_ ≠ (v514 : Value).ownBlock ∧ some k_ ≠ (.slice Ao31 t516.length co31 : Value).ownBlock ∧ some k_ ≠ (v521 : Value).ownBlock) v524 t523) := ⟨h3_⟩
    have n4_ : Aside0 (Kd.V (Kd.int .u64) 22 w39 w.heap.size (fun k_ => some k_ ≠ (v514 : Value).ownBlock ∧ some k_ ≠ (.slice Ao31 t516.length co31 : Value).ownBlock ∧ some k_ ≠ (v524 : Value).ownBlock ∧ k_ ≠ gb505 ∧ k_ ≠ gb506 ∧ k_ ≠ gb519 ∧ k_ ≠ gb529) v527 t526) := ⟨h4_⟩
    have n5_ : Aside0 (w39.heap[gb505]? = some (.cells #[.bool a0_0, .int .i64 a0_1, .int .i64 a0_2, .int .u64 a0_3] 67 (0, 0))) := ⟨h5_⟩
    have n6_ : Aside0 (w39.heap[gb506]? = some (.cells #[.slice none 0 0] 53 (0, 0))) := ⟨h6_⟩
    have n7_ : Aside0 (w39.heap[gb519]? = some (.cells #[.slice Ao31 t516.length co31] 53 (0, 0))) := ⟨h7_⟩
    have n8_ : Aside0 (w39.heap[gb529]? = some (.cells #[.slice none 0 0] 53 (0, 0))) := ⟨h8_⟩
    have n9_ : Aside0 (w.heap.size ≤ gb529) := ⟨h9_⟩
    have n10_ : Aside0 (w.heap.size ≤ gb529) := ⟨h10_⟩
    have n11_ : Aside0 (gb505 ≠ gb529) := ⟨h11_⟩
    have n12_ : Aside0 (gb529 ≠ gb505) := ⟨h12_⟩
    have n13_ : Aside0 (gb506 ≠ gb529) := ⟨h13_⟩
    have n14_ : Aside0 (gb529 ≠ gb506) := ⟨h14_⟩
    have n15_ : Aside0 (gb519 ≠ gb529) := ⟨h15_⟩
    have n16_ : Aside0 (gb529 ≠ gb519) := ⟨h16_⟩
    have n17_ : Aside0 (Below w.heap.size w w39) := ⟨h17_⟩
    clear HO515;clear HO518;clear BK505;clear BK506;clear BK519;clear HB;clear h0_ h1_ h2_ h3_ h4_ h5_ h6_ h7_ h8_ h9_ h10_ h11_ h12_ h13_ h14_ h15_ h16_ h17_;have HO515 := n0_;have HO518 := n1_;have HO522 := n2_;have HO525 := n3_;have HO528 := n4_;have BK505 := n5_;have BK506 := n6_;have BK519 := n7_;have BK529 := n8_;have GW529 := n9_;have GE529 := n10_;have NB505_529 := n11_;have NB529_505 := n12_;have NB506_529 := n13_;have NB529_506 := n14_;have NB519_529 := n15_;have NB529_519 := n16_;have HB := n17_;clear n0_ n1_ n2_ n3_ n4_ n5_ n6_ n7_ n8_ n9_ n10_ n11_ n12_ n13_ n14_ n15_ n16_ n17_
    have hHeld : w39.cell? ⟨gb505, 0, none⟩ = some (.bool a0_0) ∧ w39.cell? ⟨gb505, 1, none⟩ = some (.int .i64 a0_1) ∧ w39.cell? ⟨gb505, 2, none⟩ = some (.int .i64 a0_2) ∧ w39.cell? ⟨gb505, 3, none⟩ = some (.int .u64 a0_3) ∧ w39.cell? ⟨gb519, 0, none⟩ = some (.slice Ao31 t516.length co31) := hS_
    refine norm_ (a' := ?_) ?_ ?_
    rotate_left
    ·simp only [putAll, Act.put, lI_, l0_, lS_]
     rfl
    refine one_ (i := 9) (N := some 7) #[true, true, true, true, true, true, true, true, true, true, false, false] rfl rfl (one_of HT_.out (by kernel_rfl)) (by decide) (fun K hK => ?_)
    refine box_step ?hg (N := 7) ?hd (cs := #[.slice none 0 0]) (t := 53) ?hr ?_; (case hd => rfl); (case hg => rfl); (case hr => first | (go_simp; done) | (go_simp; rfl))
    intro gb530 hg w40 hbox hb
    have BK530 := A_ (hbox)
    have GW530 := A_ (sz_ hg (hb4_ HB.out GE505.out GE506.out GE519.out GE529.out))
    have GE530 := A_ (sz_ hg (hb4_ HB.out GE505.out GE506.out GE519.out GE529.out))
    have NB505_530 := A_ (nl_ hg BK505.out)
    have NB530_505 := A_ (ng_ hg BK505.out)
    have NB506_530 := A_ (nl_ hg BK506.out)
    have NB530_506 := A_ (ng_ hg BK506.out)
    have NB519_530 := A_ (nl_ hg BK519.out)
    have NB530_519 := A_ (ng_ hg BK519.out)
    have NB529_530 := A_ (nl_ hg BK529.out)
    have NB530_529 := A_ (ng_ hg BK529.out)
    replace HO515 := A_ (Kd.R_below (kr_ HO515.out) hb)
    replace HO518 := A_ (Kd.R_below (kr_ HO518.out) hb)
    replace HO522 := A_ (Kd.R_below (kr_ HO522.out) hb)
    replace HO525 := A_ (Kd.R_below (kr_ HO525.out) hb)
    replace HO528 := A_ (Kd.V_below (Kd.V_elderB (kv_ HO528.out) gb530 (Nat.le_of_eq hg.symm)) hb)
    replace BK505 := A_ (bb_ BK505.out hb)
    replace BK506 := A_ (bb_ BK506.out hb)
    replace BK519 := A_ (bb_ BK519.out hb)
    replace BK529 := A_ (bb_ BK529.out hb)
    replace HB := A_ (below_step (hb4_ HB.out GE505.out GE506.out GE519.out GE529.out) hb);clear hb hbox hg
    refine hK.out _ _ ⟨bc_ BK505.out 0, bc_ BK505.out 1, bc_ BK505.out 2, bc_ BK505.out 3, bc_ BK519.out 0⟩ (fun hHeld => ?_)
    clear hK K
    refine norm_ (a' := ?_) ?_ ?_
    rotate_left
    ·show Act.put _ (some 7) _ = _
     simp only [Act.put, lI_, l0_, lS_, i64_w, i32_w]
     rfl
    exact norm_ pa_ (hJ2_4_8_9 (_, _, _, gb529, gb530) _ ⟨hHeld, (kr_ HO515.out), (kr_ HO518.out), (kr_ HO522.out), (kr_ HO525.out), (by (with_reducible repeat (first | apply Kd.V_alloc | apply Kd.V_drewN | apply Kd.V_drew)); exact Kd.V_mono HO528.out (fun _ hk => ⟨hk.1.1, ⟨hk.1.2.1, ⟨hk.1.2.2.1, ⟨hk.1.2.2.2.1, ⟨hk.1.2.2.2.2.1, ⟨hk.1.2.2.2.2.2.1, ⟨hk.1.2.2.2.2.2.2, hk.2⟩⟩⟩⟩⟩⟩⟩)), (bk_ BK505.out), (bk_ BK506.out), (bk_ BK519.out), (bk_ BK529.out), (bk_ BK530.out), GW529.out, GE529.out, NB505_529.out, NB529_505.out, NB506_529.out, NB529_506.out, NB519_529.out, NB529_519.out, NB530_529.out, NB529_530.out, GW530.out, GE530.out, NB505_530.out, NB530_505.out, NB506_530.out, NB530_506.out, NB519_530.out, NB530_519.out, (by repeat (first | (with_reducible first | exact HB.out | apply below_alloc | apply pw_below_drewN | apply below_drew1 | refine below_set ?_ GE505.out | refine below_set ?_ GE506.out | refine below_set ?_ GE519.out | refine below_set ?_ GE529.out | refine below_set ?_ GE530.out) | exact HB.out))⟩)
  rintro ⟨v521, v524, v527, gb529, gb530⟩ w40 ⟨hS_, h0_, h1_, h2_, h3_, h4_, h5_, h6_, h7_, h8_, h9_, h10_, h11_, h12_, h13_, h14_, h15_, h16_, h17_, h18_, h19_, h20_, h21_, h22_, h23_, h24_, h25_, h26_, h27_, h28_⟩
  have n0_ : Aside0 (Kd.R (Kd.int .u64) 22 w40 w.heap.size (fun k_ => some k_ ≠ (.slice Ao31 t516.length co31 : Value).ownBlock ∧ some k_ ≠ (v521 : Value).ownBlock ∧ some k_ ≠ (v524 : Value).ownBlock) v514 t513) := ⟨h0_⟩
  have n1_ : Aside0 (Kd.R (Kd.int .u64) 22 w40 w.heap.size (fun k_ => some k_ ≠ (v514 : Value).ownBlock ∧ some k_ ≠ (v521 : Value).ownBlock ∧ some k_ ≠ (v524 : Value).ownBlock) (.slice Ao31 t516.length co31) t516) := ⟨h1_⟩
  have n2_ : Aside0 (Kd.R (Kd.int .u64) 22 w40 w.heap.size (fun k_ => some k_ ≠ (v514 : Value).ownBlock ∧ some k_ ≠ (.slice Ao31 t516.length co31 : Value).ownBlock ∧ some k_ ≠ (v524 : Value).ownBlock) v521 t520) := ⟨h2_⟩
  have n3_ : Aside0 (Kd.R (Kd.int .u64) 22 w40 w.heap.size (fun k_ => some k_ ≠ (v514 : Value).ownBlock ∧ some k_ ≠ (.slice Ao31 t516.length co31 : Value).ownBlock ∧ some k_ ≠ (v521 : Value).ownBlock) v524 t523) := ⟨h3_⟩
  have n4_ : Aside0 (Kd.V (Kd.int .u64) 22 w40 w.heap.size (fun k_ => some k_ ≠ (v514 : Value).ownBlock ∧ some k_ ≠ (.slice Ao31 t516.length co31 : Value).ownBlock ∧ some k_ ≠ (v524 : Value).ownBlock ∧ k_ ≠ gb505 ∧ k_ ≠ gb506 ∧ k_ ≠ gb519 ∧ k_ ≠ gb529 ∧ k_ ≠ gb530) v527 t526) := ⟨h4_⟩
  have n5_ : Aside0 (w40.heap[gb505]? = some (.cells #[.bool a0_0, .int .i64 a0_1, .int .i64 a0_2, .int .u64 a0_3] 67 (0, 0))) := ⟨h5_⟩
  have n6_ : Aside0 (w40.heap[gb506]? = some (.cells #[.slice none 0 0] 53 (0, 0))) := ⟨h6_⟩
  have n7_ : Aside0 (w40.heap[gb519]? = some (.cells #[.slice Ao31 t516.length co31] 53 (0, 0))) := ⟨h7_⟩
  have n8_ : Aside0 (w40.heap[gb529]? = some (.cells #[.slice none 0 0] 53 (0, 0))) := ⟨h8_⟩
  have n9_ : Aside0 (w40.heap[gb530]? = some (.cells #[.slice none 0 0] 53 (0, 0))) := ⟨h9_⟩
  have n10_ : Aside0 (w.heap.size ≤ gb529) := ⟨h10_⟩
  have n11_ : Aside0 (w.heap.size ≤ gb529) := ⟨h11_⟩
  have n12_ : Aside0 (gb505 ≠ gb529) := ⟨h12_⟩
  have n13_ : Aside0 (gb529 ≠ gb505) := ⟨h13_⟩
  have n14_ : Aside0 (gb506 ≠ gb529) := ⟨h14_⟩
  have n15_ : Aside0 (gb529 ≠ gb506) := ⟨h15_⟩
  have n16_ : Aside0 (gb519 ≠ gb529) := ⟨h16_⟩
  have n17_ : Aside0 (gb529 ≠ gb519) := ⟨h17_⟩
  have n18_ : Aside0 (gb530 ≠ gb529) := ⟨h18_⟩
  have n19_ : Aside0 (gb529 ≠ gb530) := ⟨h19_⟩
  have n20_ : Aside0 (w.heap.size ≤ gb530) := ⟨h20_⟩
  have n21_ : Aside0 (w.heap.size ≤ gb530) := ⟨h21_⟩
  have n22_ : Aside0 (gb505 ≠ gb530) := ⟨h22_⟩
  have n23_ : Aside0 (gb530 ≠ gb505) := ⟨h23_⟩
  have n24_ : Aside0 (gb506 ≠ gb530) := ⟨h24_⟩
  have n25_ : Aside0 (gb530 ≠ gb506) := ⟨h25_⟩
  have n26_ : Aside0 (gb519 ≠ gb530) := ⟨h26_⟩
  have n27_ : Aside0 (gb530 ≠ gb519) := ⟨h27_⟩
  have n28_ : Aside0 (Below w.heap.size w w40) := ⟨h28_⟩
  clear HO515;clear HO518;clear BK505;clear BK506;clear BK519;clear HB;clear h0_ h1_ h2_ h3_ h4_ h5_ h6_ h7_ h8_ h9_ h10_ h11_ h12_ h13_ h14_ h15_ h16_ h17_ h18_ h19_ h20_ h21_ h22_ h23_ h24_ h25_ h26_ h27_ h28_;have HO515 := n0_;have HO518 := n1_;have HO522 := n2_;have HO525 := n3_;have HO528 := n4_;have BK505 := n5_;have BK506 := n6_;have BK519 := n7_;have BK529 := n8_;have BK530 := n9_;have GW529 := n10_;have GE529 := n11_;have NB505_529 := n12_;have NB529_505 := n13_;have NB506_529 := n14_;have NB529_506 := n15_;have NB519_529 := n16_;have NB529_519 := n17_;have NB530_529 := n18_;have NB529_530 := n19_;have GW530 := n20_;have GE530 := n21_;have NB505_530 := n22_;have NB530_505 := n23_;have NB506_530 := n24_;have NB530_506 := n25_;have NB519_530 := n26_;have NB530_519 := n27_;have HB := n28_;clear n0_ n1_ n2_ n3_ n4_ n5_ n6_ n7_ n8_ n9_ n10_ n11_ n12_ n13_ n14_ n15_ n16_ n17_ n18_ n19_ n20_ n21_ n22_ n23_ n24_ n25_ n26_ n27_ n28_
  have hHeld : w40.cell? ⟨gb505, 0, none⟩ = some (.bool a0_0) ∧ w40.cell? ⟨gb505, 1, none⟩ = some (.int .i64 a0_1) ∧ w40.cell? ⟨gb505, 2, none⟩ = some (.int .i64 a0_2) ∧ w40.cell? ⟨gb505, 3, none⟩ = some (.int .u64 a0_3) ∧ w40.cell? ⟨gb519, 0, none⟩ = some (.slice Ao31 t516.length co31) := hS_
  obtain ⟨Ao41, co41, eo41⟩ := Kd.R_slice HO525.out
  (first | subst eo41 | (injection eo41 with f1_ f2_ f3_; have f4_ := f1_.symm; have f5_ := f3_.symm; clear f1_ f2_ f3_; subst f4_; subst f5_))
  obtain ⟨Ao43, co43, eo43⟩ := Kd.V_slice HO528.out
  (first | subst eo43 | (injection eo43 with f1_ f2_ f3_; have f4_ := f1_.symm; have f5_ := f3_.symm; clear f1_ f2_ f3_; subst f4_; subst f5_))
  refine norm_ (a' := ?_) ?_ ?_
  rotate_left
  ·simp only [putAll, Act.put, lI_, l0_, lS_]
   rfl
  refine one_ (i := 10) (N := none) #[true, true, true, true, true, true, true, true, true, true, true, false] rfl rfl (one_of HT_.out (by kernel_rfl)) (by decide) (fun K hK => ?_)
  have hs42 : w40.cell? ⟨gb529, 0, none⟩ = some (.slice none 0 0) := bc_ BK529.out 0
  have hfs42 := blk_frozen BK529.out 0
  have hns42_0 := NB505_529.out
  have hns42_1 := NB506_529.out
  have hns42_2 := NB519_529.out
  have hns42_4 := NB530_529.out
  have hms42_0 := NB529_505.out
  have hms42_1 := NB529_506.out
  have hms42_2 := NB529_519.out
  have hms42_4 := NB529_530.out
  refine skip_ (w1 := ?_) (by rfl) rfl ?_ ?_
  rotate_left
  ·go_simp
   rfl
  refine hK.out _ _ ⟨((cell_far (p := ⟨gb529, _, none⟩) NB505_529.out _).trans (hHeld.1)), ((cell_far (p := ⟨gb529, _, none⟩) NB505_529.out _).trans (hHeld.2.1)), ((cell_far (p := ⟨gb529, _, none⟩) NB505_529.out _).trans (hHeld.2.2.1)), ((cell_far (p := ⟨gb529, _, none⟩) NB505_529.out _).trans (hHeld.2.2.2.1)), ((cell_far (p := ⟨gb529, _, none⟩) NB519_529.out _).trans (hHeld.2.2.2.2))⟩ (fun hHeld => ?_)
  clear hK K
  refine one_ (i := 11) (N := none) #[true, true, true, true, true, true, true, true, true, true, true, true] rfl rfl (one_of HT_.out (by kernel_rfl)) (by decide) (fun K hK => ?_)
  have hs44 : w40.cell? ⟨gb530, 0, none⟩ = some (.slice none 0 0) := bc_ BK530.out 0
  have hfs44 := blk_frozen BK530.out 0
  have hns44_0 := NB505_530.out
  have hns44_1 := NB506_530.out
  have hns44_2 := NB519_530.out
  have hns44_3 := NB529_530.out
  have hms44_0 := NB530_505.out
  have hms44_1 := NB530_506.out
  have hms44_2 := NB530_519.out
  have hms44_3 := NB530_529.out
  refine skip_ (w1 := ?_) (by rfl) rfl ?_ ?_
  rotate_left
  ·go_simp
   rfl
  refine hK.out _ _ ⟨((cell_far (p := ⟨gb530, _, none⟩) NB505_530.out _).trans (hHeld.1)), ((cell_far (p := ⟨gb530, _, none⟩) NB505_530.out _).trans (hHeld.2.1)), ((cell_far (p := ⟨gb530, _, none⟩) NB505_530.out _).trans (hHeld.2.2.1)), ((cell_far (p := ⟨gb530, _, none⟩) NB505_530.out _).trans (hHeld.2.2.2.1)), ((cell_far (p := ⟨gb530, _, none⟩) NB519_530.out _).trans (hHeld.2.2.2.2))⟩ (fun hHeld => ?_)
  clear hK K
  refine done_ (done_of HT_.out (by kernel_rfl)) ?_
  try go_wp2
  have n0_ : Aside0 (Kd.R (Kd.int .u64) 22 ((w40.setCell ⟨gb529, 0, none⟩ (.slice Ao41 t523.length co41)).setCell ⟨gb530, 0, none⟩ (.slice Ao43 t526.length co43)) w.heap.size (fun k_ => some k_ ≠ (.slice Ao31 t516.length co31 : Value).ownBlock ∧ some k_ ≠ (v521 : Value).ownBlock ∧ some k_ ≠ (.slice Ao41 t523.length co41 : Value).ownBlock) v514 t513) := ⟨by (with_reducible repeat (first | apply Kd.R_alloc | apply Kd.R_drewN | apply Kd.R_drew)); exact Kd.R_mono (Kd.R_far (p := ⟨gb530, 0, none⟩) (Kd.R_far (p := ⟨gb529, 0, none⟩) (Kd.R_types (Kd.R_types HO515.out BK529.out (by decide)) BK530.out (by decide)) (fun _ hk => hk.1.2) (.slice Ao41 t523.length co41)) (fun _ hk => hk.2) (.slice Ao43 t526.length co43)) (fun _ hk => ⟨hk.1.1.1, ⟨hk.1.1.2.1, hk.1.1.2.2⟩⟩)⟩
  have n1_ : Aside0 (Kd.R (Kd.int .u64) 22 ((w40.setCell ⟨gb529, 0, none⟩ (.slice Ao41 t523.length co41)).setCell ⟨gb530, 0, none⟩ (.slice Ao43 t526.length co43)) w.heap.size (fun k_ => some k_ ≠ (v514 : Value).ownBlock ∧ some k_ ≠ (v521 : Value).ownBlock ∧ some k_ ≠ (.slice Ao41 t523.length co41 : Value).ownBlock) (.slice Ao31 t516.length co31) t516) := ⟨by (with_reducible repeat (first | apply Kd.R_alloc | apply Kd.R_drewN | apply Kd.R_drew)); exact Kd.R_mono (Kd.R_far (p := ⟨gb530, 0, none⟩) (Kd.R_far (p := ⟨gb529, 0, none⟩) (Kd.R_types (Kd.R_types HO518.out BK529.out (by decide)) BK530.out (by decide)) (fun _ hk => hk.1.2) (.slice Ao41 t523.length co41)) (fun _ hk => hk.2) (.slice Ao43 t526.length co43)) (fun _ hk => ⟨hk.1.1.1, ⟨hk.1.1.2.1, hk.1.1.2.2⟩⟩)⟩
  have n2_ : Aside0 (Kd.R (Kd.int .u64) 22 ((w40.setCell ⟨gb529, 0, none⟩ (.slice Ao41 t523.length co41)).setCell ⟨gb530, 0, none⟩ (.slice Ao43 t526.length co43)) w.heap.size (fun k_ => some k_ ≠ (v514 : Value).ownBlock ∧ some k_ ≠ (.slice Ao31 t516.length co31 : Value).ownBlock ∧ some k_ ≠ (.slice Ao41 t523.length co41 : Value).ownBlock) v521 t520) := ⟨by (with_reducible repeat (first | apply Kd.R_alloc | apply Kd.R_drewN | apply Kd.R_drew)); exact Kd.R_mono (Kd.R_far (p := ⟨gb530, 0, none⟩) (Kd.R_far (p := ⟨gb529, 0, none⟩) (Kd.R_types (Kd.R_types HO522.out BK529.out (by decide)) BK530.out (by decide)) (fun _ hk => hk.1.2) (.slice Ao41 t523.length co41)) (fun _ hk => hk.2) (.slice Ao43 t526.length co43)) (fun _ hk => ⟨hk.1.1.1, ⟨hk.1.1.2.1, hk.1.1.2.2⟩⟩)⟩
  have n3_ : Aside0 (Kd.R (Kd.int .u64) 22 ((w40.setCell ⟨gb529, 0, none⟩ (.slice Ao41 t523.length co41)).setCell ⟨gb530, 0, none⟩ (.slice Ao43 t526.length co43)) w.heap.size (fun k_ => some k_ ≠ (v514 : Value).ownBlock ∧ some k_ ≠ (.slice Ao31 t516.length co31 : Value).ownBlock ∧ some k_ ≠ (v521 : Value).ownBlock) (.slice Ao41 t523.length co41) t523) := ⟨by (with_reducible repeat (first | apply Kd.R_alloc | apply Kd.R_drewN | apply Kd.R_drew)); exact Kd.R_mono (Kd.R_far (p := ⟨gb530, 0, none⟩) (Kd.R_far (p := ⟨gb529, 0, none⟩) (Kd.R_types (Kd.R_types HO525.out BK529.out (by decide)) BK530.out (by decide)) (fun _ hk => hk.1.2) (.slice Ao41 t523.length co41)) (fun _ hk => hk.2) (.slice Ao43 t526.length co43)) (fun _ hk => ⟨hk.1.1.1, ⟨hk.1.1.2.1, hk.1.1.2.2⟩⟩)⟩
  have n4_ : Aside0 (Kd.V (Kd.int .u64) 22 ((w40.setCell ⟨gb529, 0, none⟩ (.slice Ao41 t523.length co41)).setCell ⟨gb530, 0, none⟩ (.slice Ao43 t526.length co43)) w.heap.size (fun k_ => some k_ ≠ (v514 : Value).ownBlock ∧ some k_ ≠ (.slice Ao31 t516.length co31 : Value).ownBlock ∧ some k_ ≠ (.slice Ao41 t523.length co41 : Value).ownBlock ∧ k_ ≠ gb505 ∧ k_ ≠ gb506 ∧ k_ ≠ gb519 ∧ k_ ≠ gb529 ∧ k_ ≠ gb530) (.slice Ao43 t526.length co43) t526) := ⟨by (with_reducible repeat (first | apply Kd.V_alloc | apply Kd.V_drewN | apply Kd.V_drew)); exact Kd.V_mono (Kd.V_far (p := ⟨gb530, 0, none⟩) (Kd.V_far (p := ⟨gb529, 0, none⟩) (Kd.V_mono (Kd.V_mono HO528.out (fun k_ hk => (⟨hk, hk.2.2.2.2.2.2.1⟩ : _ ∧ k_ ≠ gb529))) (fun k_ hk => (⟨hk, hk.1.2.2.2.2.2.2.2⟩ : _ ∧ k_ ≠ gb530))) (fun _ hk => hk.1.2) (.slice Ao41 t523.length co41)) (fun _ hk => hk.2) (.slice Ao43 t526.length co43)) (fun _ hk => ⟨hk.1.1.1, ⟨hk.1.1.2.1, ⟨hk.1.1.2.2.1, ⟨hk.1.1.2.2.2.1, ⟨hk.1.1.2.2.2.2.1, ⟨hk.1.1.2.2.2.2.2.1, ⟨hk.1.1.2.2.2.2.2.2.1, hk.1.1.2.2.2.2.2.2.2⟩⟩⟩⟩⟩⟩⟩)⟩
  have n5_ : Aside0 (((w40.setCell ⟨gb529, 0, none⟩ (.slice Ao41 t523.length co41)).setCell ⟨gb530, 0, none⟩ (.slice Ao43 t526.length co43)).heap[gb505]? = some (.cells #[.bool a0_0, .int .i64 a0_1, .int .i64 a0_2, .int .u64 a0_3] 67 (0, 0))) := ⟨bf2_ BK505.out NB505_530.out NB505_529.out⟩
  have n6_ : Aside0 (((w40.setCell ⟨gb529, 0, none⟩ (.slice Ao41 t523.length co41)).setCell ⟨gb530, 0, none⟩ (.slice Ao43 t526.length co43)).heap[gb506]? = some (.cells #[.slice none 0 0] 53 (0, 0))) := ⟨bf2_ BK506.out NB506_530.out NB506_529.out⟩
  have n7_ : Aside0 (((w40.setCell ⟨gb529, 0, none⟩ (.slice Ao41 t523.length co41)).setCell ⟨gb530, 0, none⟩ (.slice Ao43 t526.length co43)).heap[gb519]? = some (.cells #[.slice Ao31 t516.length co31] 53 (0, 0))) := ⟨bf2_ BK519.out NB519_530.out NB519_529.out⟩
  have n8_ : Aside0 (((w40.setCell ⟨gb529, 0, none⟩ (.slice Ao41 t523.length co41)).setCell ⟨gb530, 0, none⟩ (.slice Ao43 t526.length co43)).heap[gb529]? = some (.cells #[.slice Ao41 t523.length co41] 53 (0, 0))) := ⟨by (with_reducible repeat (first | refine blk_drewN ?_ _ | refine blk_drew ?_ | refine blk_alloc ?_ _)); refine blk_far ?_ NB529_530.out _; (with_reducible repeat (first | refine blk_drewN ?_ _ | refine blk_drew ?_ | refine blk_alloc ?_ _)); refine blk_put (cs := #[.slice none 0 0]) ?_ 0 _ rfl; (with_reducible repeat (first | refine blk_drewN ?_ _ | refine blk_drew ?_ | refine blk_alloc ?_ _)); exact BK529.out⟩
  have n9_ : Aside0 (((w40.setCell ⟨gb529, 0, none⟩ (.slice Ao41 t523.length co41)).setCell ⟨gb530, 0, none⟩ (.slice Ao43 t526.length co43)).heap[gb530]? = some (.cells #[.slice Ao43 t526.length co43] 53 (0, 0))) := ⟨by (with_reducible repeat (first | refine blk_drewN ?_ _ | refine blk_drew ?_ | refine blk_alloc ?_ _)); refine blk_put (cs := #[.slice none 0 0]) ?_ 0 _ rfl; (with_reducible repeat (first | refine blk_drewN ?_ _ | refine blk_drew ?_ | refine blk_alloc ?_ _)); refine blk_far ?_ NB530_529.out _; (with_reducible repeat (first | refine blk_drewN ?_ _ | refine blk_drew ?_ | refine blk_alloc ?_ _)); exact BK530.out⟩
  have n10_ : Aside0 (Below w.heap.size w ((w40.setCell ⟨gb529, 0, none⟩ (.slice Ao41 t523.length co41)).setCell ⟨gb530, 0, none⟩ (.slice Ao43 t526.length co43))) := ⟨by repeat (first | (with_reducible first | exact HB.out | apply below_alloc | apply pw_below_drewN | apply below_drew1 | refine below_set ?_ GE505.out | refine below_set ?_ GE506.out | refine below_set ?_ GE519.out | refine below_set ?_ GE529.out | refine below_set ?_ GE530.out) | exact HB.out)⟩
  (try clear HO515);(try clear HO518);(try clear HO522);(try clear HO525);(try clear HO528);(try clear BK505);(try clear BK506);(try clear BK519);(try clear BK529);(try clear BK530);(try clear HB)
  generalize ((w40.setCell ⟨gb529, 0, none⟩ (.slice Ao41 t523.length co41)).setCell ⟨gb530, 0, none⟩ (.slice Ao43 t526.length co43)) = w45 at n0_ n1_ n2_ n3_ n4_ n5_ n6_ n7_ n8_ n9_ n10_ ⊢
  have HO515 := n0_;have HO518 := n1_;have HO522 := n2_;have HO525 := n3_;have HO528 := n4_;have BK505 := n5_;have BK506 := n6_;have BK519 := n7_;have BK529 := n8_;have BK530 := n9_;have HB := n10_;clear n0_ n1_ n2_ n3_ n4_ n5_ n6_ n7_ n8_ n9_ n10_
  replace HO515 := A_ (Kd.R_drew HO515.out)
  replace HO518 := A_ (Kd.R_drew HO518.out)
  replace HO522 := A_ (Kd.R_drew HO522.out)
  replace HO525 := A_ (Kd.R_drew HO525.out)
  replace HO528 := A_ (Kd.V_drew HO528.out)
  replace BK505 := A_ (blk_drew BK505.out)
  replace BK506 := A_ (blk_drew BK506.out)
  replace BK519 := A_ (blk_drew BK519.out)
  replace BK529 := A_ (blk_drew BK529.out)
  replace BK530 := A_ (blk_drew BK530.out)
  replace HB := A_ (below_drew1 HB.out)
  refine start_ (n := 12) (S := fun w' => w'.cell? ⟨gb529, 0, none⟩ = some (.slice Ao41 t523.length co41) ∧ w'.cell? ⟨gb530, 0, none⟩ = some (.slice Ao43 t526.length co43) ∧ w'.cell? ⟨gb519, 0, none⟩ = some (.slice Ao31 t516.length co31)) (ds := []) #[false, false, false, false, false, false, false, false, false, false, false, false] (by kernel_rfl) rfl rfl ⟨bc_ BK529.out 0, bc_ BK530.out 0, bc_ BK519.out 0⟩ (fun hHeld => ?_); refine with_tabW r9_Down.tab5 r9_Down.bits5 (fun HT_ HW_ => ?_)
  generalize w45.drew = w46 at HO515 HO518 HO522 HO525 HO528 BK505 BK506 BK519 BK529 BK530 HB hHeld ⊢
  refine pu_ 5 (some 35) #[false, false, false, false, false, true, false, false, false, false, false, false] rfl rfl (any_of HT_.out (by kernel_rfl)) ?_
  refine tk3_ 0 (some 30) #[true, false, false, false, false, true, false, false, false, false, false, false] rfl rfl (take_ofW HT_.out HW_.out (by kernel_rfl)) hHeld ?_
  refine tk3_ 1 (some 31) #[true, true, false, false, false, true, false, false, false, false, false, false] rfl rfl (take_ofW HT_.out HW_.out (by kernel_rfl)) hHeld ?_
  refine tk3_ 3 (some 33) #[true, true, false, true, false, true, false, false, false, false, false, false] rfl rfl (take_ofW HT_.out HW_.out (by kernel_rfl)) hHeld ?_
  refine tk3_ 6 (some 36) #[true, true, false, true, false, true, true, false, false, false, false, false] rfl rfl (take_ofW HT_.out HW_.out (by kernel_rfl)) hHeld ?_
  refine pu_ 7 (some 37) #[true, true, false, true, false, true, true, true, false, false, false, false] rfl rfl (any_of HT_.out (by kernel_rfl)) ?_
  refine pu_ 8 (some 38) #[true, true, false, true, false, true, true, true, true, false, false, false] rfl rfl (any_of HT_.out (by kernel_rfl)) ?_
  refine one_ (i := 2) (N := some 32) #[true, true, true, true, false, true, true, true, true, false, false, false] rfl rfl (one_of HT_.out (by kernel_rfl)) (by decide) (fun K hK => ?_)
  refine goes_ Try.func32 (by kernel_rfl) rfl #[.agg #[.slice Ao43 t526.length co43], .int .i64 1] (by rfl) rfl rfl mp_ ?_
  with_reducible refine (r1_Shl.calls k _ _ t526 1 t531 _ ?side1 ?side2 A19.out).mono ?_
  (case side1 => exact cs_ ((Kd.V_reads' HO528.out).2.2))
  (case side2 => exact (Kd.V_reads' HO528.out).2.1)
  rintro e w47 ⟨v532, rfl, ho0, hb⟩
  refine ⟨_, rfl, ?_⟩
  have HO533 := A_ (Kd.R_lower (Kd.R_new' (Kd.R_new' (Kd.R_new' (Kd.R_new' ho0 (Kd.R_lt (kr_ HO515.out))) (Kd.R_lt (kr_ HO518.out))) (Kd.R_lt (kr_ HO522.out))) (Kd.R_lt (kr_ HO525.out))) (below_size (by repeat (first | (with_reducible first | exact HB.out | apply below_alloc | apply pw_below_drewN | apply below_drew1 | refine below_set ?_ GE505.out | refine below_set ?_ GE506.out | refine below_set ?_ GE519.out | refine below_set ?_ GE529.out | refine below_set ?_ GE530.out) | exact HB.out))))
  replace HO515 := A_ (Kd.R_elder' (kr_ HO515.out) (Kd.R_base ho0) hb)
  replace HO518 := A_ (Kd.R_elder' (kr_ HO518.out) (Kd.R_base ho0) hb)
  replace HO522 := A_ (Kd.R_elder' (kr_ HO522.out) (Kd.R_base ho0) hb)
  replace HO525 := A_ (Kd.R_elder' (kr_ HO525.out) (Kd.R_base ho0) hb)
  replace HO528 := A_ (Kd.V_elder' (kv_ HO528.out) (Kd.R_base ho0) hb)
  replace BK505 := A_ (bb_ BK505.out hb)
  replace BK506 := A_ (bb_ BK506.out hb)
  replace BK519 := A_ (bb_ BK519.out hb)
  replace BK529 := A_ (bb_ BK529.out hb)
  replace BK530 := A_ (bb_ BK530.out hb)
  replace HB := A_ (below_step (by repeat (first | (with_reducible first | exact HB.out | apply below_alloc | apply pw_below_drewN | apply below_drew1 | refine below_set ?_ GE505.out | refine below_set ?_ GE506.out | refine below_set ?_ GE519.out | refine below_set ?_ GE529.out | refine below_set ?_ GE530.out) | exact HB.out)) hb);(try clear hb);(try clear hb2);(try clear hk);(try clear hi);(try clear ho0)
  obtain ⟨Ao48, co48, eo48⟩ := Kd.R_slice HO533.out
  (first | subst eo48 | (injection eo48 with f1_ f2_ f3_; have f4_ := f1_.symm; have f5_ := f3_.symm; clear f1_ f2_ f3_; subst f4_; subst f5_))
  refine hK.out _ _ ⟨bc_ BK529.out 0, bc_ BK530.out 0, bc_ BK519.out 0⟩ (fun hHeld => ?_)
  clear hK K
  refine norm_ (a' := ?_) ?_ ?_
  rotate_left
  ·show Act.put _ (some 32) _ = _
   simp only [Act.put, lI_, l0_, lS_, i64_w, i32_w]
   rfl
  refine one_ (i := 4) (N := some 34) #[true, true, true, true, true, true, true, true, true, false, false, false] rfl rfl (one_of HT_.out (by kernel_rfl)) (by decide) (fun K hK => ?_)
  refine goes_ Try.func41 (by kernel_rfl) rfl #[.agg #[.slice Ao48 t531.length co48], .agg #[.slice Ao31 t516.length co31]] (by rfl) rfl rfl mp_ ?_
  with_reducible refine (r1_Cmp.calls k _ _ t531 _ _ t516 t534 _ ?side1 ?side2 ?side3 ?side4 A20.out).mono ?_
  (case side1 => exact cs_ ((Kd.R_reads' HO533.out).2.2))
  (case side2 => exact (Kd.R_reads' HO533.out).2.1)
  (case side3 => exact cs_ ((Kd.R_reads' HO518.out).2.2))
  (case side4 => exact (Kd.R_reads' HO518.out).2.1)
  rintro e w49 ⟨rfl, hb⟩
  refine ⟨_, rfl, ?_⟩
  replace HO515 := A_ (Kd.R_below (kr_ HO515.out) hb)
  replace HO518 := A_ (Kd.R_below (kr_ HO518.out) hb)
  replace HO522 := A_ (Kd.R_below (kr_ HO522.out) hb)
  replace HO525 := A_ (Kd.R_below (kr_ HO525.out) hb)
  replace HO528 := A_ (Kd.V_below (kv_ HO528.out) hb)
  replace HO533 := A_ (Kd.R_below (kr_ HO533.out) hb)
  replace BK505 := A_ (bb_ BK505.out hb)
  replace BK506 := A_ (bb_ BK506.out hb)
  replace BK519 := A_ (bb_ BK519.out hb)
  replace BK529 := A_ (bb_ BK529.out hb)
  replace BK530 := A_ (bb_ BK530.out hb)
  replace HB := A_ (below_step (by repeat (first | (with_reducible first | exact HB.out | apply below_alloc | apply pw_below_drewN | apply below_drew1 | refine below_set ?_ GE505.out | refine below_set ?_ GE506.out | refine below_set ?_ GE519.out | refine below_set ?_ GE529.out | refine below_set ?_ GE530.out) | exact HB.out)) hb);(try clear hb);(try clear hb2);(try clear hk);(try clear hi)
  refine hK.out _ _ ⟨bc_ BK529.out 0, bc_ BK530.out 0, bc_ BK519.out 0⟩ (fun hHeld => ?_)
  clear hK K
  refine norm_ (a' := ?_) ?_ ?_
  rotate_left
  ·show Act.put _ (some 34) _ = _
   simp only [Act.put, lI_, l0_, lS_, i64_w, i32_w]
   rfl
  refine one_ (i := 9) (N := none) #[true, true, true, true, true, true, true, true, true, true, false, false] rfl rfl (one_of HT_.out (by kernel_rfl)) (by decide) (fun K hK => ?_)
  have hs50 : w49.cell? ⟨gb506, 0, none⟩ = some (.slice none 0 0) := bc_ BK506.out 0
  have hfs50 := blk_frozen BK506.out 0
  have hns50_0 := NB505_506.out
  have hns50_2 := NB519_506.out
  have hns50_3 := NB529_506.out
  have hns50_4 := NB530_506.out
  have hms50_0 := NB506_505.out
  have hms50_2 := NB506_519.out
  have hms50_3 := NB506_529.out
  have hms50_4 := NB506_530.out
  refine skip_ (w1 := ?_) (by rfl) rfl ?_ ?_
  rotate_left
  ·go_simp
   rfl
  refine hK.out _ _ ⟨((cell_far (p := ⟨gb506, _, none⟩) NB529_506.out _).trans (hHeld.1)), ((cell_far (p := ⟨gb506, _, none⟩) NB530_506.out _).trans (hHeld.2.1)), ((cell_far (p := ⟨gb506, _, none⟩) NB519_506.out _).trans (hHeld.2.2))⟩ (fun hHeld => ?_)
  clear hK K
  refine pu_ 10 (some 3) #[true, true, true, true, true, true, true, true, true, true, true, false] rfl rfl (any_of HT_.out (by kernel_rfl)) ?_
  refine pu_ 11 (some 4) #[true, true, true, true, true, true, true, true, true, true, true, true] rfl rfl (any_of HT_.out (by kernel_rfl)) ?_
  refine done_ (done_of HT_.out (by kernel_rfl)) ?_
  try go_wp2
  refine bodyPost_ret (results_ctt rfl _ _ gb506 53 #[.slice Ao41 t523.length co41] (0, 0) _ rfl (by (with_reducible repeat (first | refine blk_drewN ?_ _ | refine blk_drew ?_ | refine blk_alloc ?_ _)); refine blk_put (cs := #[.slice none 0 0]) ?_ 0 _ rfl; (with_reducible repeat (first | refine blk_drewN ?_ _ | refine blk_drew ?_ | refine blk_alloc ?_ _)); exact BK506.out) Try.underlying53 rfl (by kernel_rfl)) rfl ?_
  exact ⟨_, by first | rfl | (simp [errW_none, errW_some] <;> rfl) | (simp [*, errW_none, errW_some] <;> rfl), by (with_reducible repeat (first | apply Kd.R_alloc | apply Kd.R_drewN | apply Kd.R_drew)); exact Kd.R_mono (Kd.R_far (p := ⟨gb506, 0, none⟩) (Kd.R_types HO525.out BK506.out (by decide)) (fun _ hk => hk.2) (.slice Ao41 t523.length co41)) (fun _ hk => trivial), by repeat (first | (with_reducible first | exact HB.out | apply below_alloc | apply pw_below_drewN | apply below_drew1 | refine below_set ?_ GE505.out | refine below_set ?_ GE506.out | refine below_set ?_ GE519.out | refine below_set ?_ GE529.out | refine below_set ?_ GE530.out) | exact HB.out)⟩
end Go.Proofs.Ytjjehbedpgdhgaa.PA
