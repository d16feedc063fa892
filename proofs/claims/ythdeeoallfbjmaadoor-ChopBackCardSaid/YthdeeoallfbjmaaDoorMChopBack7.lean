/- What the Go functions that the statement ChopBack reaches compute, and the mathematics on it, in the order in which one leans on the other; for every input. -/
import Derived.Test.YthdeeoallfbjmaaDoorVChopBack1
import Derived.Test.YthdeeoallfbjmaaDoorMChopBack0
import Derived.Test.YthdeeoallfbjmaaDoorMChopBack6
import Derived.Test.YthdeeoallfbjmaaDoorMChopBack5
namespace Go.Proofs.YthdeeoallfbjmaaDoor.PA
open Go.RowKit Go.Proofs.YthdeeoallfbjmaaDoorW.PrintWords Go.Proofs.YthdeeoallfbjmaaDoorW.PrintLast Go.Proofs.YthdeeoallfbjmaaDoorW.PrintMore
attribute [local go_sem] max2_int min2_int max_two min_two max_three min_three max_four min_four   -- for this text's walks alone
set_option linter.unusedVariables false
set_option linter.unusedSimpArgs false
set_option maxHeartbeats 8000000
set_option maxRecDepth 100000
def chop_amount.f (a0_0 : Bool) (a0_1 : Int) (a0_2 : Int) (a0_3 : Int) : Option (Int × Bool) := if a0_2 ≤ 0 then ((wide_Of.f a0_3).bind fun bt626 => ((wide_Right.f bt626.1 bt626.2 (wrap64 (-a0_2))).bind fun bt628 => (some (bt628.2.1, true)))) else ((wide_Of.f a0_3).bind fun bt632 => ((wide_Left.f bt632.1 bt632.2 (mn a0_2 70)).bind fun bt634 => (some (bt634.2, (bt634.1 == 0)))))
def chop_amount.T2 : Bool × List (List Nat × List Nat) := (true, [([], []), ([0], [0]), ([1], [1]), ([], []), ([3], [3]), ([4], [4]), ([2, 5, 2], [2, 5]), ([6], [6]), ([7], [7]), ([7], [7]), ([], []), ([10, 8, 6, 0, 1, 2, 3, 4, 5, 6, 7, 8, 10], [8, 10]), ([9, 11, 0, 1, 2, 3, 4, 5, 6, 7, 8, 9, 10, 11], [9])])
def chop_amount.B2 : List Nat := [0, 1, 3, 0, 8, 24, 63, 127, 255, 255, 0, 1535, 4095]
theorem chop_amount.tab2 : rtab .any (opsOf Tryd.f90 2) = chop_amount.T2 := by kernel_rfl
theorem chop_amount.bits2 : waitsOk chop_amount.T2.2 chop_amount.B2 = true := by kernel_rfl
def chop_amount.T4 : Bool × List (List Nat × List Nat) := (true, [([], []), ([0], [0]), ([1], [1]), ([], []), ([3], [3]), ([4], [4]), ([2, 5, 2], [2, 5]), ([], []), ([7, 6, 6, 0, 1, 2, 3, 4, 5, 6, 7], [6, 7])])
def chop_amount.B4 : List Nat := [0, 1, 3, 0, 8, 24, 63, 0, 255]
theorem chop_amount.tab4 : rtab .any (opsOf Tryd.f90 4) = chop_amount.T4 := by kernel_rfl
theorem chop_amount.bits4 : waitsOk chop_amount.T4.2 chop_amount.B4 = true := by kernel_rfl
theorem chop_amount.calls (a0_0 : Bool) (a0_1 : Int) (a0_2 : Int) (a0_3 : Int) (r1 : Int) (r2 : Bool) (w : World) (h : chop_amount.f a0_0 a0_1 a0_2 a0_3 = some (r1, r2)) :
  Calls Tryd.prog 90 #[.agg #[.bool a0_0, .int .i64 a0_1, .int .i64 a0_2, .int .u64 a0_3]] w fun e w' => e = .returned (.tuple #[.int .u64 r1, .bool r2]) ∧ Below w.heap.size w w' := by
 have hu75 := Tryd.underlying75
 have hu99 := Tryd.underlying99
 have HB := A_ (Below.refl w.heap.size w)
 have H : (if a0_2 ≤ 0 then ((wide_Of.f a0_3).bind fun bt626 => ((wide_Right.f bt626.1 bt626.2 (wrap64 (-a0_2))).bind fun bt628 => (some (bt628.2.1, true)))) else ((wide_Of.f a0_3).bind fun bt632 => ((wide_Left.f bt632.1 bt632.2 (mn a0_2 70)).bind fun bt634 => (some (bt634.2, (bt634.1 == 0)))))) = some (r1, r2) := h
 clear h
 by_cases c2 : a0_2 ≤ 0
 ·rw [if_pos c2] at H
  have c2b0 : decide (a0_2 ≤ 0) = true := decide_eq_true c2
  clear c2
  replace H := ob_ H
  obtain ⟨⟨t626, t627⟩, A30, H⟩ := H
  replace H : ((wide_Right.f t626 t627 (wrap64 (-a0_2))).bind fun bt628 => (some (bt628.2.1, true))) = some (r1, r2) := H
  have A3 := A_ A30;clear A30
  replace H := ob_ H
  obtain ⟨⟨t628, t629, t630⟩, A40, H⟩ := H
  replace H : (some (t629, true)) = some (r1, r2) := H
  have A4 := A_ A40;clear A40
  simp only [Option.some.injEq, Prod.mk.injEq] at H
  obtain ⟨rfl, rfl⟩ := H
  go_enter Tryd.func90, Tryd.ntmps90
  try go_wp2_with (first | ((with_reducible refine gate_dst (N := 1) rfl ?_); refine be_ 1 #[.bool a0_0, .int .i64 a0_1, .int .i64 a0_2, .int .u64 a0_3] 75 ?_; intro gb625 hg w5 hbox hb; have BK625 := A_ (hbox); have GW625 := A_ (sz_ hg (hb_ HB.out)); have GE625 := A_ (sz_ hg (hb_ HB.out)); replace HB := A_ (below_step (hb_ HB.out) hb); clear hb hbox hg; have hcz6_0 := bv_ BK625.out 0; have hcz6_1 := bv_ BK625.out 1; have hcz6_2 := bv_ BK625.out 2; have hcz6_3 := bv_ BK625.out 3; have hfz6_0 := blk_frozen BK625.out 0; have hfz6_1 := blk_frozen BK625.out 1; have hfz6_2 := blk_frozen BK625.out 2; have hfz6_3 := blk_frozen BK625.out 3))
  replace BK625 := A_ (blk_drew BK625.out)
  replace HB := A_ (below_drew1 HB.out)
  refine start_ (n := 13) (S := fun w' => w'.cell? ⟨gb625, 0, none⟩ = some (.bool a0_0) ∧ w'.cell? ⟨gb625, 1, none⟩ = some (.int .i64 a0_1) ∧ w'.cell? ⟨gb625, 2, none⟩ = some (.int .i64 a0_2) ∧ w'.cell? ⟨gb625, 3, none⟩ = some (.int .u64 a0_3)) (ds := []) #[false, false, false, false, false, false, false, false, false, false, false, false, false] (by kernel_rfl) rfl rfl ⟨bc_ BK625.out 0, bc_ BK625.out 1, bc_ BK625.out 2, bc_ BK625.out 3⟩ (fun hHeld => ?_); refine with_tabW chop_amount.tab2 chop_amount.bits2 (fun HT_ HW_ => ?_)
  generalize w5.drew = w7 at BK625 HB hHeld ⊢
  refine pu_ 0 (some 11) #[true, false, false, false, false, false, false, false, false, false, false, false, false] rfl rfl (any_of HT_.out (by kernel_rfl)) ?_
  refine pu_ 3 (some 14) #[true, false, false, true, false, false, false, false, false, false, false, false, false] rfl rfl (any_of HT_.out (by kernel_rfl)) ?_
  refine tk4_ 1 (some 12) #[true, true, false, true, false, false, false, false, false, false, false, false, false] rfl rfl (take_ofW HT_.out HW_.out (by kernel_rfl)) hHeld ?_
  refine tk4_ 4 (some 15) #[true, true, false, true, true, false, false, false, false, false, false, false, false] rfl rfl (take_ofW HT_.out HW_.out (by kernel_rfl)) hHeld ?_
  refine pu_ 5 (some 16) #[true, true, false, true, true, true, false, false, false, false, false, false, false] rfl rfl (any_of HT_.out (by kernel_rfl)) ?_
  refine join_ (σ := Nat) 2 #[true, true, true, true, true, true, true, true, true, true, true, false, false] (fun s_ => [(13, .agg #[.int .u64 t626, .int .u64 t627]), (17, .tuple #[.agg #[.int .u64 t628, .int .u64 t629], .bool t630]), (4, .pointer (some ⟨s_, 0, none⟩)), (10, .tuple #[.agg #[.int .u64 t628, .int .u64 t629], .bool t630]), (18, .agg #[.int .u64 t628, .int .u64 t629]), (19, .bool t630)]) (fun s_ w' => (w'.cell? ⟨gb625, 0, none⟩ = some (.bool a0_0) ∧ w'.cell? ⟨gb625, 1, none⟩ = some (.int .i64 a0_1) ∧ w'.cell? ⟨gb625, 2, none⟩ = some (.int .i64 a0_2) ∧ w'.cell? ⟨gb625, 3, none⟩ = some (.int .u64 a0_3)) ∧ (w'.heap[gb625]? = some (.cells #[.bool a0_0, .int .i64 a0_1, .int .i64 a0_2, .int .u64 a0_3] 75 (0, 0))) ∧ (w'.heap[s_]? = some (.cells #[.int .u64 0, .int .u64 0] 99 (0, 0))) ∧ (w.heap.size ≤ s_) ∧ (w.heap.size ≤ s_) ∧ (gb625 ≠ s_) ∧ (s_ ≠ gb625) ∧ (Below w.heap.size w w')) ?_ ?_
  rotate_left
  ·intro hCont
   refine two_ (i := 2) (j := 10) (Ni := some 13) (Nj := some 4) #[true, true, true, true, true, true, false, false, false, false, false, false, false] #[true, true, false, true, true, true, false, false, false, false, true, false, false] rfl rfl rfl rfl (two_of HT_.out (by kernel_rfl)) (by decide) (by decide) (fun K hK => ?_) (fun K hK => ?_)
   ·skip
    refine goes_ Tryd.func85 (by kernel_rfl) rfl #[.int .u64 a0_3] (by rfl) rfl rfl mp_ ?_
    with_reducible refine (wide_Of.calls a0_3 t626 t627 _ A3.out).mono ?_
    rintro e w8 ⟨rfl, hb⟩
    refine ⟨_, rfl, ?_⟩
    replace BK625 := A_ (bb_ BK625.out hb)
    replace HB := A_ (below_step (hb1_ HB.out GE625.out) hb);(try clear hb);(try clear hb2);(try clear hk);(try clear hi)
    refine hK.out _ _ ⟨bc_ BK625.out 0, bc_ BK625.out 1, bc_ BK625.out 2, bc_ BK625.out 3⟩ (fun hHeld => ?_)
    clear hK K
    refine norm_ (a' := ?_) ?_ ?_
    rotate_left
    ·show Act.put _ (some 13) _ = _
     simp only [Act.put, lI_, l0_, lS_, i64_w, i32_w]
     rfl
    refine two_ (i := 6) (j := 10) (Ni := some 17) (Nj := some 4) #[true, true, true, true, true, true, true, false, false, false, false, false, false] #[true, true, true, true, true, true, false, false, false, false, true, false, false] rfl rfl rfl rfl (two_of HT_.out (by kernel_rfl)) (by decide) (by decide) (fun K hK => ?_) (fun K hK => ?_)
    ·skip
     refine goes_ Tryd.func108 (by kernel_rfl) rfl #[.agg #[.int .u64 t626, .int .u64 t627], .int .i64 (wrap64 (-a0_2))] (by rfl) rfl rfl mp_ ?_
     with_reducible refine (wide_Right.calls t626 t627 (wrap64 (-a0_2)) t628 t629 t630 _ A4.out).mono ?_
     rintro e w9 ⟨rfl, hb⟩
     refine ⟨_, rfl, ?_⟩
     replace BK625 := A_ (bb_ BK625.out hb)
     replace HB := A_ (below_step (hb1_ HB.out GE625.out) hb);(try clear hb);(try clear hb2);(try clear hk);(try clear hi)
     refine hK.out _ _ ⟨bc_ BK625.out 0, bc_ BK625.out 1, bc_ BK625.out 2, bc_ BK625.out 3⟩ (fun hHeld => ?_)
     clear hK K
     refine norm_ (a' := ?_) ?_ ?_
     rotate_left
     ·show Act.put _ (some 17) _ = _
      simp only [Act.put, lI_, l0_, lS_, i64_w, i32_w]
      rfl
     refine pu_ 7 (some 10) #[true, true, true, true, true, true, true, true, false, false, false, false, false] rfl rfl (any_of HT_.out (by kernel_rfl)) ?_
     refine pu_ 8 (some 18) #[true, true, true, true, true, true, true, true, true, false, false, false, false] rfl rfl (any_of HT_.out (by kernel_rfl)) ?_
     refine pu_ 9 (some 19) #[true, true, true, true, true, true, true, true, true, true, false, false, false] rfl rfl (any_of HT_.out (by kernel_rfl)) ?_
     refine one_ (i := 10) (N := some 4) #[true, true, true, true, true, true, true, true, true, true, true, false, false] rfl rfl (one_of HT_.out (by kernel_rfl)) (by decide) (fun K hK => ?_)
     refine box_step ?hg (N := 4) ?hd (cs := #[.int .u64 0, .int .u64 0]) (t := 99) ?hr ?_; (case hd => rfl); (case hg => rfl); (case hr => first | (go_simp; done) | (go_simp; rfl))
     intro gb631 hg w10 hbox hb
     have BK631 := A_ (hbox)
     have GW631 := A_ (sz_ hg (hb1_ HB.out GE625.out))
     have GE631 := A_ (sz_ hg (hb1_ HB.out GE625.out))
     have NB625_631 := A_ (nl_ hg BK625.out)
     have NB631_625 := A_ (ng_ hg BK625.out)
     replace BK625 := A_ (bb_ BK625.out hb)
     replace HB := A_ (below_step (hb1_ HB.out GE625.out) hb);clear hb hbox hg
     refine hK.out _ _ ⟨bc_ BK625.out 0, bc_ BK625.out 1, bc_ BK625.out 2, bc_ BK625.out 3⟩ (fun hHeld => ?_)
     clear hK K
     refine norm_ (a' := ?_) ?_ ?_
     rotate_left
     ·show Act.put _ (some 4) _ = _
      simp only [Act.put, lI_, l0_, lS_, i64_w, i32_w]
      rfl
     exact norm_ (by simp only [putAll, Act.put, lI_, l0_, lS_]) (hCont (gb631) _ ⟨hHeld, (bk_ BK625.out), (bk_ BK631.out), GW631.out, GE631.out, NB625_631.out, NB631_625.out, (hb2_ HB.out GE625.out GE631.out)⟩)
    ·skip
     refine box_step ?hg (N := 4) ?hd (cs := #[.int .u64 0, .int .u64 0]) (t := 99) ?hr ?_; (case hd => rfl); (case hg => rfl); (case hr => first | (go_simp; done) | (go_simp; rfl))
     intro gb631 hg w9 hbox hb
     have BK631 := A_ (hbox)
     have GW631 := A_ (sz_ hg (hb1_ HB.out GE625.out))
     have GE631 := A_ (sz_ hg (hb1_ HB.out GE625.out))
     have NB625_631 := A_ (nl_ hg BK625.out)
     have NB631_625 := A_ (ng_ hg BK625.out)
     replace BK625 := A_ (bb_ BK625.out hb)
     replace HB := A_ (below_step (hb1_ HB.out GE625.out) hb);clear hb hbox hg
     refine hK.out _ _ ⟨bc_ BK625.out 0, bc_ BK625.out 1, bc_ BK625.out 2, bc_ BK625.out 3⟩ (fun hHeld => ?_)
     clear hK K
     refine norm_ (a' := ?_) ?_ ?_
     rotate_left
     ·show Act.put _ (some 4) _ = _
      simp only [Act.put, lI_, l0_, lS_, i64_w, i32_w]
      rfl
     refine one_ (i := 6) (N := some 17) #[true, true, true, true, true, true, true, false, false, false, true, false, false] rfl rfl (one_of HT_.out (by kernel_rfl)) (by decide) (fun K hK => ?_)
     refine goes_ Tryd.func108 (by kernel_rfl) rfl #[.agg #[.int .u64 t626, .int .u64 t627], .int .i64 (wrap64 (-a0_2))] (by rfl) rfl rfl mp_ ?_
     with_reducible refine (wide_Right.calls t626 t627 (wrap64 (-a0_2)) t628 t629 t630 _ A4.out).mono ?_
     rintro e w10 ⟨rfl, hb⟩
     refine ⟨_, rfl, ?_⟩
     replace BK625 := A_ (bb_ BK625.out hb)
     replace BK631 := A_ (bb_ BK631.out hb)
     replace HB := A_ (below_step (hb2_ HB.out GE625.out GE631.out) hb);(try clear hb);(try clear hb2);(try clear hk);(try clear hi)
     refine hK.out _ _ ⟨bc_ BK625.out 0, bc_ BK625.out 1, bc_ BK625.out 2, bc_ BK625.out 3⟩ (fun hHeld => ?_)
     clear hK K
     refine norm_ (a' := ?_) ?_ ?_
     rotate_left
     ·show Act.put _ (some 17) _ = _
      simp only [Act.put, lI_, l0_, lS_, i64_w, i32_w]
      rfl
     refine pu_ 7 (some 10) #[true, true, true, true, true, true, true, true, false, false, true, false, false] rfl rfl (any_of HT_.out (by kernel_rfl)) ?_
     refine pu_ 8 (some 18) #[true, true, true, true, true, true, true, true, true, false, true, false, false] rfl rfl (any_of HT_.out (by kernel_rfl)) ?_
     refine pu_ 9 (some 19) #[true, true, true, true, true, true, true, true, true, true, true, false, false] rfl rfl (any_of HT_.out (by kernel_rfl)) ?_
     exact norm_ (by simp only [putAll, Act.put, lI_, l0_, lS_]) (hCont (gb631) _ ⟨hHeld, (bk_ BK625.out), (bk_ BK631.out), GW631.out, GE631.out, NB625_631.out, NB631_625.out, (hb2_ HB.out GE625.out GE631.out)⟩)
   ·skip
    refine box_step ?hg (N := 4) ?hd (cs := #[.int .u64 0, .int .u64 0]) (t := 99) ?hr ?_; (case hd => rfl); (case hg => rfl); (case hr => first | (go_simp; done) | (go_simp; rfl))
    intro gb631 hg w8 hbox hb
    have BK631 := A_ (hbox)
    have GW631 := A_ (sz_ hg (hb1_ HB.out GE625.out))
    have GE631 := A_ (sz_ hg (hb1_ HB.out GE625.out))
    have NB625_631 := A_ (nl_ hg BK625.out)
    have NB631_625 := A_ (ng_ hg BK625.out)
    replace BK625 := A_ (bb_ BK625.out hb)
    replace HB := A_ (below_step (hb1_ HB.out GE625.out) hb);clear hb hbox hg
    refine hK.out _ _ ⟨bc_ BK625.out 0, bc_ BK625.out 1, bc_ BK625.out 2, bc_ BK625.out 3⟩ (fun hHeld => ?_)
    clear hK K
    refine norm_ (a' := ?_) ?_ ?_
    rotate_left
    ·show Act.put _ (some 4) _ = _
     simp only [Act.put, lI_, l0_, lS_, i64_w, i32_w]
     rfl
    refine one_ (i := 2) (N := some 13) #[true, true, true, true, true, true, false, false, false, false, true, false, false] rfl rfl (one_of HT_.out (by kernel_rfl)) (by decide) (fun K hK => ?_)
    refine goes_ Tryd.func85 (by kernel_rfl) rfl #[.int .u64 a0_3] (by rfl) rfl rfl mp_ ?_
    with_reducible refine (wide_Of.calls a0_3 t626 t627 _ A3.out).mono ?_
    rintro e w9 ⟨rfl, hb⟩
    refine ⟨_, rfl, ?_⟩
    replace BK625 := A_ (bb_ BK625.out hb)
    replace BK631 := A_ (bb_ BK631.out hb)
    replace HB := A_ (below_step (hb2_ HB.out GE625.out GE631.out) hb);(try clear hb);(try clear hb2);(try clear hk);(try clear hi)
    refine hK.out _ _ ⟨bc_ BK625.out 0, bc_ BK625.out 1, bc_ BK625.out 2, bc_ BK625.out 3⟩ (fun hHeld => ?_)
    clear hK K
    refine norm_ (a' := ?_) ?_ ?_
    rotate_left
    ·show Act.put _ (some 13) _ = _
     simp only [Act.put, lI_, l0_, lS_, i64_w, i32_w]
     rfl
    refine one_ (i := 6) (N := some 17) #[true, true, true, true, true, true, true, false, false, false, true, false, false] rfl rfl (one_of HT_.out (by kernel_rfl)) (by decide) (fun K hK => ?_)
    refine goes_ Tryd.func108 (by kernel_rfl) rfl #[.agg #[.int .u64 t626, .int .u64 t627], .int .i64 (wrap64 (-a0_2))] (by rfl) rfl rfl mp_ ?_
    with_reducible refine (wide_Right.calls t626 t627 (wrap64 (-a0_2)) t628 t629 t630 _ A4.out).mono ?_
    rintro e w10 ⟨rfl, hb⟩
    refine ⟨_, rfl, ?_⟩
    replace BK625 := A_ (bb_ BK625.out hb)
    replace BK631 := A_ (bb_ BK631.out hb)
    replace HB := A_ (below_step (hb2_ HB.out GE625.out GE631.out) hb);(try clear hb);(try clear hb2);(try clear hk);(try clear hi)
    refine hK.out _ _ ⟨bc_ BK625.out 0, bc_ BK625.out 1, bc_ BK625.out 2, bc_ BK625.out 3⟩ (fun hHeld => ?_)
    clear hK K
    refine norm_ (a' := ?_) ?_ ?_
    rotate_left
    ·show Act.put _ (some 17) _ = _
     simp only [Act.put, lI_, l0_, lS_, i64_w, i32_w]
     rfl
    refine pu_ 7 (some 10) #[true, true, true, true, true, true, true, true, false, false, true, false, false] rfl rfl (any_of HT_.out (by kernel_rfl)) ?_
    refine pu_ 8 (some 18) #[true, true, true, true, true, true, true, true, true, false, true, false, false] rfl rfl (any_of HT_.out (by kernel_rfl)) ?_
    refine pu_ 9 (some 19) #[true, true, true, true, true, true, true, true, true, true, true, false, false] rfl rfl (any_of HT_.out (by kernel_rfl)) ?_
    exact norm_ (by simp only [putAll, Act.put, lI_, l0_, lS_]) (hCont (gb631) _ ⟨hHeld, (bk_ BK625.out), (bk_ BK631.out), GW631.out, GE631.out, NB625_631.out, NB631_625.out, (hb2_ HB.out GE625.out GE631.out)⟩)
  rintro gb631 w11 ⟨hS_, h0_, h1_, h2_, h3_, h4_, h5_, h6_⟩
  have n0_ : Aside0 (w11.heap[gb625]? = some (.cells #[.bool a0_0, .int .i64 a0_1, .int .i64 a0_2, .int .u64 a0_3] 75 (0, 0))) := ⟨h0_⟩
  have n1_ : Aside0 (w11.heap[gb631]? = some (.cells #[.int .u64 0, .int .u64 0] 99 (0, 0))) := ⟨h1_⟩
  have n2_ : Aside0 (w.heap.size ≤ gb631) := ⟨h2_⟩
  have n3_ : Aside0 (w.heap.size ≤ gb631) := ⟨h3_⟩
  have n4_ : Aside0 (gb625 ≠ gb631) := ⟨h4_⟩
  have n5_ : Aside0 (gb631 ≠ gb625) := ⟨h5_⟩
  have n6_ : Aside0 (Below w.heap.size w w11) := ⟨h6_⟩
  clear BK625;clear HB;clear h0_ h1_ h2_ h3_ h4_ h5_ h6_;have BK625 := n0_;have BK631 := n1_;have GW631 := n2_;have GE631 := n3_;have NB625_631 := n4_;have NB631_625 := n5_;have HB := n6_;clear n0_ n1_ n2_ n3_ n4_ n5_ n6_
  have hHeld : w11.cell? ⟨gb625, 0, none⟩ = some (.bool a0_0) ∧ w11.cell? ⟨gb625, 1, none⟩ = some (.int .i64 a0_1) ∧ w11.cell? ⟨gb625, 2, none⟩ = some (.int .i64 a0_2) ∧ w11.cell? ⟨gb625, 3, none⟩ = some (.int .u64 a0_3) := hS_
  refine norm_ (a' := ?_) ?_ ?_
  rotate_left
  ·simp only [putAll, Act.put, lI_, l0_, lS_]
   rfl
  refine one_ (i := 11) (N := none) #[true, true, true, true, true, true, true, true, true, true, true, true, false] rfl rfl (one_of HT_.out (by kernel_rfl)) (by decide) (fun K hK => ?_)
  have hs12 : w11.cell? ⟨gb631, 0, none⟩ = some (.int .u64 0) := bc_ BK631.out 0
  have hfs12 := blk_frozen BK631.out 0
  have hns12_0 := NB625_631.out
  have hms12_0 := NB631_625.out
  have hs13 : w11.cell? ⟨gb631, 1, none⟩ = some (.int .u64 0) := bc_ BK631.out 1
  have hfs13 := blk_frozen BK631.out 1
  have hns13_0 := NB625_631.out
  have hms13_0 := NB631_625.out
  refine skip_ (w1 := ?_) (by rfl) rfl ?_ ?_
  rotate_left
  ·go_simp
   rfl
  refine hK.out _ _ ⟨((cell_far (p := ⟨gb631, _, none⟩) NB625_631.out _).trans (((cell_far (p := ⟨gb631, _, none⟩) NB625_631.out _).trans (hHeld.1)))), ((cell_far (p := ⟨gb631, _, none⟩) NB625_631.out _).trans (((cell_far (p := ⟨gb631, _, none⟩) NB625_631.out _).trans (hHeld.2.1)))), ((cell_far (p := ⟨gb631, _, none⟩) NB625_631.out _).trans (((cell_far (p := ⟨gb631, _, none⟩) NB625_631.out _).trans (hHeld.2.2.1)))), ((cell_far (p := ⟨gb631, _, none⟩) NB625_631.out _).trans (((cell_far (p := ⟨gb631, _, none⟩) NB625_631.out _).trans (hHeld.2.2.2))))⟩ (fun hHeld => ?_)
  clear hK K
  refine pu_ 12 (some 5) #[true, true, true, true, true, true, true, true, true, true, true, true, true] rfl rfl (any_of HT_.out (by kernel_rfl)) ?_
  refine done_ (done_of HT_.out (by kernel_rfl)) ?_
  have hnb14 := NB631_625.out
  have hnc14 := NB625_631.out
  have hcz15_0 := bv_ BK631.out 0
  have hcz15_1 := bv_ BK631.out 1
  have hfz15_0 := blk_frozen BK631.out 0
  have hfz15_1 := blk_frozen BK631.out 1
  try go_wp2
  go_ret2
  exact ⟨er_, hb2_ HB.out GE625.out GE631.out⟩
 ·rw [if_neg c2] at H
  have c2b0 : decide (a0_2 ≤ 0) = false := decide_eq_false c2
  clear c2
  replace H := ob_ H
  obtain ⟨⟨t632, t633⟩, A160, H⟩ := H
  replace H : ((wide_Left.f t632 t633 (mn a0_2 70)).bind fun bt634 => (some (bt634.2, (bt634.1 == 0)))) = some (r1, r2) := H
  have A16 := A_ A160;clear A160
  obtain ⟨ji17, hji17⟩ : ∃ j_ : Int, (mn a0_2 70) = j_ := ⟨_, rfl⟩
  replace H : ((wide_Left.f t632 t633 (ji17)).bind fun bt634 => (some (bt634.2, (bt634.1 == 0)))) = some (r1, r2) := by first | (rw [hji17] at H; exact H) | (simp only [hji17] at H ⊢; exact H)
  (try rw [hji17] at A16)
  (try (have hji17h : ji17 ≤ 70 := by (rw [← hji17]; unfold mn; (repeat' split) <;> omega)))
  (try (have hji17g : ji17 ≤ 64 := by omega))
  have hji17_ : (if 70 < a0_2 then 70 else a0_2) = ji17 := hji17
  replace H := ob_ H
  obtain ⟨⟨t634, t635⟩, A180, H⟩ := H
  replace H : (some (t635, (t634 == 0))) = some (r1, r2) := H
  have A18 := A_ A180;clear A180
  simp only [Option.some.injEq, Prod.mk.injEq] at H
  obtain ⟨rfl, rfl⟩ := H
  go_enter Tryd.func90, Tryd.ntmps90
  try go_wp2_with (first | ((with_reducible refine gate_dst (N := 1) rfl ?_); refine be_ 1 #[.bool a0_0, .int .i64 a0_1, .int .i64 a0_2, .int .u64 a0_3] 75 ?_; intro gb625 hg w19 hbox hb; have BK625 := A_ (hbox); have GW625 := A_ (sz_ hg (hb_ HB.out)); have GE625 := A_ (sz_ hg (hb_ HB.out)); replace HB := A_ (below_step (hb_ HB.out) hb); clear hb hbox hg; have hcz20_0 := bv_ BK625.out 0; have hcz20_1 := bv_ BK625.out 1; have hcz20_2 := bv_ BK625.out 2; have hcz20_3 := bv_ BK625.out 3; have hfz20_0 := blk_frozen BK625.out 0; have hfz20_1 := blk_frozen BK625.out 1; have hfz20_2 := blk_frozen BK625.out 2; have hfz20_3 := blk_frozen BK625.out 3))
  replace BK625 := A_ (blk_drew BK625.out)
  replace HB := A_ (below_drew1 HB.out)
  refine start_ (n := 9) (S := fun w' => w'.cell? ⟨gb625, 0, none⟩ = some (.bool a0_0) ∧ w'.cell? ⟨gb625, 1, none⟩ = some (.int .i64 a0_1) ∧ w'.cell? ⟨gb625, 2, none⟩ = some (.int .i64 a0_2) ∧ w'.cell? ⟨gb625, 3, none⟩ = some (.int .u64 a0_3)) (ds := []) #[false, false, false, false, false, false, false, false, false] (by kernel_rfl) rfl rfl ⟨bc_ BK625.out 0, bc_ BK625.out 1, bc_ BK625.out 2, bc_ BK625.out 3⟩ (fun hHeld => ?_); refine with_tabW chop_amount.tab4 chop_amount.bits4 (fun HT_ HW_ => ?_)
  generalize w19.drew = w21 at BK625 HB hHeld ⊢
  refine pu_ 0 (some 22) #[true, false, false, false, false, false, false, false, false] rfl rfl (any_of HT_.out (by kernel_rfl)) ?_
  refine pu_ 3 (some 25) #[true, false, false, true, false, false, false, false, false] rfl rfl (any_of HT_.out (by kernel_rfl)) ?_
  refine tk4_ 1 (some 23) #[true, true, false, true, false, false, false, false, false] rfl rfl (take_ofW HT_.out HW_.out (by kernel_rfl)) hHeld ?_
  refine tk4_ 4 (some 26) #[true, true, false, true, true, false, false, false, false] rfl rfl (take_ofW HT_.out HW_.out (by kernel_rfl)) hHeld ?_
  refine pu_ 5 (some 27) #[true, true, false, true, true, true, false, false, false] rfl rfl (any_of HT_.out (by kernel_rfl)) ?_
  refine join_ (σ := Nat) 1 #[true, true, true, true, true, true, true, true, false] (fun s_ => [(24, .agg #[.int .u64 t632, .int .u64 t633]), (28, .agg #[.int .u64 t634, .int .u64 t635]), (6, .pointer (some ⟨s_, 0, none⟩))]) (fun s_ w' => (w'.cell? ⟨gb625, 0, none⟩ = some (.bool a0_0) ∧ w'.cell? ⟨gb625, 1, none⟩ = some (.int .i64 a0_1) ∧ w'.cell? ⟨gb625, 2, none⟩ = some (.int .i64 a0_2) ∧ w'.cell? ⟨gb625, 3, none⟩ = some (.int .u64 a0_3)) ∧ (w'.heap[gb625]? = some (.cells #[.bool a0_0, .int .i64 a0_1, .int .i64 a0_2, .int .u64 a0_3] 75 (0, 0))) ∧ (w'.heap[s_]? = some (.cells #[.int .u64 0, .int .u64 0] 99 (0, 0))) ∧ (w.heap.size ≤ s_) ∧ (w.heap.size ≤ s_) ∧ (gb625 ≠ s_) ∧ (s_ ≠ gb625) ∧ (Below w.heap.size w w')) ?_ ?_
  rotate_left
  ·intro hCont
   refine two_ (i := 2) (j := 7) (Ni := some 24) (Nj := some 6) #[true, true, true, true, true, true, false, false, false] #[true, true, false, true, true, true, false, true, false] rfl rfl rfl rfl (two_of HT_.out (by kernel_rfl)) (by decide) (by decide) (fun K hK => ?_) (fun K hK => ?_)
   ·skip
    refine goes_ Tryd.func85 (by kernel_rfl) rfl #[.int .u64 a0_3] (by rfl) rfl rfl mp_ ?_
    with_reducible refine (wide_Of.calls a0_3 t632 t633 _ A16.out).mono ?_
    rintro e w22 ⟨rfl, hb⟩
    refine ⟨_, rfl, ?_⟩
    replace BK625 := A_ (bb_ BK625.out hb)
    replace HB := A_ (below_step (hb1_ HB.out GE625.out) hb);(try clear hb);(try clear hb2);(try clear hk);(try clear hi)
    refine hK.out _ _ ⟨bc_ BK625.out 0, bc_ BK625.out 1, bc_ BK625.out 2, bc_ BK625.out 3⟩ (fun hHeld => ?_)
    clear hK K
    refine norm_ (a' := ?_) ?_ ?_
    rotate_left
    ·show Act.put _ (some 24) _ = _
     simp only [Act.put, lI_, l0_, lS_, i64_w, i32_w]
     rfl
    refine two_ (i := 6) (j := 7) (Ni := some 28) (Nj := some 6) #[true, true, true, true, true, true, true, false, false] #[true, true, true, true, true, true, false, true, false] rfl rfl rfl rfl (two_of HT_.out (by kernel_rfl)) (by decide) (by decide) (fun K hK => ?_) (fun K hK => ?_)
    ·skip
     refine goes_ Tryd.func104 (by kernel_rfl) rfl #[.agg #[.int .u64 t632, .int .u64 t633], .int .i64 ji17] (by rfl) rfl rfl (by (try simp only [List.map_toArray, List.map_cons, List.map_nil]); first | done | (simp only [hji17]; rfl) | rfl | (simp only [List.length_drop, List.length_take]; rfl)) ?_
     with_reducible refine (wide_Left.calls t632 t633 ji17 t634 t635 _ A18.out).mono ?_
     rintro e w23 ⟨rfl, hb⟩
     refine ⟨_, rfl, ?_⟩
     replace BK625 := A_ (bb_ BK625.out hb)
     replace HB := A_ (below_step (hb1_ HB.out GE625.out) hb);(try clear hb);(try clear hb2);(try clear hk);(try clear hi)
     refine hK.out _ _ ⟨bc_ BK625.out 0, bc_ BK625.out 1, bc_ BK625.out 2, bc_ BK625.out 3⟩ (fun hHeld => ?_)
     clear hK K
     refine norm_ (a' := ?_) ?_ ?_
     rotate_left
     ·show Act.put _ (some 28) _ = _
      simp only [Act.put, lI_, l0_, lS_, i64_w, i32_w]
      rfl
     refine one_ (i := 7) (N := some 6) #[true, true, true, true, true, true, true, true, false] rfl rfl (one_of HT_.out (by kernel_rfl)) (by decide) (fun K hK => ?_)
     refine box_step ?hg (N := 6) ?hd (cs := #[.int .u64 0, .int .u64 0]) (t := 99) ?hr ?_; (case hd => rfl); (case hg => rfl); (case hr => first | (go_simp; done) | (go_simp; rfl))
     intro gb636 hg w24 hbox hb
     have BK636 := A_ (hbox)
     have GW636 := A_ (sz_ hg (hb1_ HB.out GE625.out))
     have GE636 := A_ (sz_ hg (hb1_ HB.out GE625.out))
     have NB625_636 := A_ (nl_ hg BK625.out)
     have NB636_625 := A_ (ng_ hg BK625.out)
     replace BK625 := A_ (bb_ BK625.out hb)
     replace HB := A_ (below_step (hb1_ HB.out GE625.out) hb);clear hb hbox hg
     refine hK.out _ _ ⟨bc_ BK625.out 0, bc_ BK625.out 1, bc_ BK625.out 2, bc_ BK625.out 3⟩ (fun hHeld => ?_)
     clear hK K
     refine norm_ (a' := ?_) ?_ ?_
     rotate_left
     ·show Act.put _ (some 6) _ = _
      simp only [Act.put, lI_, l0_, lS_, i64_w, i32_w]
      rfl
     exact norm_ (by simp only [putAll, Act.put, lI_, l0_, lS_]) (hCont (gb636) _ ⟨hHeld, (bk_ BK625.out), (bk_ BK636.out), GW636.out, GE636.out, NB625_636.out, NB636_625.out, (hb2_ HB.out GE625.out GE636.out)⟩)
    ·skip
     refine box_step ?hg (N := 6) ?hd (cs := #[.int .u64 0, .int .u64 0]) (t := 99) ?hr ?_; (case hd => rfl); (case hg => rfl); (case hr => first | (go_simp; done) | (go_simp; rfl))
     intro gb636 hg w23 hbox hb
     have BK636 := A_ (hbox)
     have GW636 := A_ (sz_ hg (hb1_ HB.out GE625.out))
     have GE636 := A_ (sz_ hg (hb1_ HB.out GE625.out))
     have NB625_636 := A_ (nl_ hg BK625.out)
     have NB636_625 := A_ (ng_ hg BK625.out)
     replace BK625 := A_ (bb_ BK625.out hb)
     replace HB := A_ (below_step (hb1_ HB.out GE625.out) hb);clear hb hbox hg
     refine hK.out _ _ ⟨bc_ BK625.out 0, bc_ BK625.out 1, bc_ BK625.out 2, bc_ BK625.out 3⟩ (fun hHeld => ?_)
     clear hK K
     refine norm_ (a' := ?_) ?_ ?_
     rotate_left
     ·show Act.put _ (some 6) _ = _
      simp only [Act.put, lI_, l0_, lS_, i64_w, i32_w]
      rfl
     refine one_ (i := 6) (N := some 28) #[true, true, true, true, true, true, true, true, false] rfl rfl (one_of HT_.out (by kernel_rfl)) (by decide) (fun K hK => ?_)
     refine goes_ Tryd.func104 (by kernel_rfl) rfl #[.agg #[.int .u64 t632, .int .u64 t633], .int .i64 ji17] (by rfl) rfl rfl (by (try simp only [List.map_toArray, List.map_cons, List.map_nil]); first | done | (simp only [hji17]; rfl) | rfl | (simp only [List.length_drop, List.length_take]; rfl)) ?_
     with_reducible refine (wide_Left.calls t632 t633 ji17 t634 t635 _ A18.out).mono ?_
     rintro e w24 ⟨rfl, hb⟩
     refine ⟨_, rfl, ?_⟩
     replace BK625 := A_ (bb_ BK625.out hb)
     replace BK636 := A_ (bb_ BK636.out hb)
     replace HB := A_ (below_step (hb2_ HB.out GE625.out GE636.out) hb);(try clear hb);(try clear hb2);(try clear hk);(try clear hi)
     refine hK.out _ _ ⟨bc_ BK625.out 0, bc_ BK625.out 1, bc_ BK625.out 2, bc_ BK625.out 3⟩ (fun hHeld => ?_)
     clear hK K
     refine norm_ (a' := ?_) ?_ ?_
     rotate_left
     ·show Act.put _ (some 28) _ = _
      simp only [Act.put, lI_, l0_, lS_, i64_w, i32_w]
      rfl
     exact norm_ (by simp only [putAll, Act.put, lI_, l0_, lS_]) (hCont (gb636) _ ⟨hHeld, (bk_ BK625.out), (bk_ BK636.out), GW636.out, GE636.out, NB625_636.out, NB636_625.out, (hb2_ HB.out GE625.out GE636.out)⟩)
   ·skip
    refine box_step ?hg (N := 6) ?hd (cs := #[.int .u64 0, .int .u64 0]) (t := 99) ?hr ?_; (case hd => rfl); (case hg => rfl); (case hr => first | (go_simp; done) | (go_simp; rfl))
    intro gb636 hg w22 hbox hb
    have BK636 := A_ (hbox)
    have GW636 := A_ (sz_ hg (hb1_ HB.out GE625.out))
    have GE636 := A_ (sz_ hg (hb1_ HB.out GE625.out))
    have NB625_636 := A_ (nl_ hg BK625.out)
    have NB636_625 := A_ (ng_ hg BK625.out)
    replace BK625 := A_ (bb_ BK625.out hb)
    replace HB := A_ (below_step (hb1_ HB.out GE625.out) hb);clear hb hbox hg
    refine hK.out _ _ ⟨bc_ BK625.out 0, bc_ BK625.out 1, bc_ BK625.out 2, bc_ BK625.out 3⟩ (fun hHeld => ?_)
    clear hK K
    refine norm_ (a' := ?_) ?_ ?_
    rotate_left
    ·show Act.put _ (some 6) _ = _
     simp only [Act.put, lI_, l0_, lS_, i64_w, i32_w]
     rfl
    refine one_ (i := 2) (N := some 24) #[true, true, true, true, true, true, false, true, false] rfl rfl (one_of HT_.out (by kernel_rfl)) (by decide) (fun K hK => ?_)
    refine goes_ Tryd.func85 (by kernel_rfl) rfl #[.int .u64 a0_3] (by rfl) rfl rfl mp_ ?_
    with_reducible refine (wide_Of.calls a0_3 t632 t633 _ A16.out).mono ?_
    rintro e w23 ⟨rfl, hb⟩
    refine ⟨_, rfl, ?_⟩
    replace BK625 := A_ (bb_ BK625.out hb)
    replace BK636 := A_ (bb_ BK636.out hb)
    replace HB := A_ (below_step (hb2_ HB.out GE625.out GE636.out) hb);(try clear hb);(try clear hb2);(try clear hk);(try clear hi)
    refine hK.out _ _ ⟨bc_ BK625.out 0, bc_ BK625.out 1, bc_ BK625.out 2, bc_ BK625.out 3⟩ (fun hHeld => ?_)
    clear hK K
    refine norm_ (a' := ?_) ?_ ?_
    rotate_left
    ·show Act.put _ (some 24) _ = _
     simp only [Act.put, lI_, l0_, lS_, i64_w, i32_w]
     rfl
    refine one_ (i := 6) (N := some 28) #[true, true, true, true, true, true, true, true, false] rfl rfl (one_of HT_.out (by kernel_rfl)) (by decide) (fun K hK => ?_)
    refine goes_ Tryd.func104 (by kernel_rfl) rfl #[.agg #[.int .u64 t632, .int .u64 t633], .int .i64 ji17] (by rfl) rfl rfl (by (try simp only [List.map_toArray, List.map_cons, List.map_nil]); first | done | (simp only [hji17]; rfl) | rfl | (simp only [List.length_drop, List.length_take]; rfl)) ?_
    with_reducible refine (wide_Left.calls t632 t633 ji17 t634 t635 _ A18.out).mono ?_
    rintro e w24 ⟨rfl, hb⟩
    refine ⟨_, rfl, ?_⟩
    replace BK625 := A_ (bb_ BK625.out hb)
    replace BK636 := A_ (bb_ BK636.out hb)
    replace HB := A_ (below_step (hb2_ HB.out GE625.out GE636.out) hb);(try clear hb);(try clear hb2);(try clear hk);(try clear hi)
    refine hK.out _ _ ⟨bc_ BK625.out 0, bc_ BK625.out 1, bc_ BK625.out 2, bc_ BK625.out 3⟩ (fun hHeld => ?_)
    clear hK K
    refine norm_ (a' := ?_) ?_ ?_
    rotate_left
    ·show Act.put _ (some 28) _ = _
     simp only [Act.put, lI_, l0_, lS_, i64_w, i32_w]
     rfl
    exact norm_ (by simp only [putAll, Act.put, lI_, l0_, lS_]) (hCont (gb636) _ ⟨hHeld, (bk_ BK625.out), (bk_ BK636.out), GW636.out, GE636.out, NB625_636.out, NB636_625.out, (hb2_ HB.out GE625.out GE636.out)⟩)
  rintro gb636 w25 ⟨hS_, h0_, h1_, h2_, h3_, h4_, h5_, h6_⟩
  have n0_ : Aside0 (w25.heap[gb625]? = some (.cells #[.bool a0_0, .int .i64 a0_1, .int .i64 a0_2, .int .u64 a0_3] 75 (0, 0))) := ⟨h0_⟩
  have n1_ : Aside0 (w25.heap[gb636]? = some (.cells #[.int .u64 0, .int .u64 0] 99 (0, 0))) := ⟨h1_⟩
  have n2_ : Aside0 (w.heap.size ≤ gb636) := ⟨h2_⟩
  have n3_ : Aside0 (w.heap.size ≤ gb636) := ⟨h3_⟩
  have n4_ : Aside0 (gb625 ≠ gb636) := ⟨h4_⟩
  have n5_ : Aside0 (gb636 ≠ gb625) := ⟨h5_⟩
  have n6_ : Aside0 (Below w.heap.size w w25) := ⟨h6_⟩
  clear BK625;clear HB;clear h0_ h1_ h2_ h3_ h4_ h5_ h6_;have BK625 := n0_;have BK636 := n1_;have GW636 := n2_;have GE636 := n3_;have NB625_636 := n4_;have NB636_625 := n5_;have HB := n6_;clear n0_ n1_ n2_ n3_ n4_ n5_ n6_
  have hHeld : w25.cell? ⟨gb625, 0, none⟩ = some (.bool a0_0) ∧ w25.cell? ⟨gb625, 1, none⟩ = some (.int .i64 a0_1) ∧ w25.cell? ⟨gb625, 2, none⟩ = some (.int .i64 a0_2) ∧ w25.cell? ⟨gb625, 3, none⟩ = some (.int .u64 a0_3) := hS_
  refine norm_ (a' := ?_) ?_ ?_
  rotate_left
  ·simp only [putAll, Act.put, lI_, l0_, lS_]
   rfl
  refine one_ (i := 8) (N := none) #[true, true, true, true, true, true, true, true, true] rfl rfl (one_of HT_.out (by kernel_rfl)) (by decide) (fun K hK => ?_)
  have hs26 : w25.cell? ⟨gb636, 0, none⟩ = some (.int .u64 0) := bc_ BK636.out 0
  have hfs26 := blk_frozen BK636.out 0
  have hns26_0 := NB625_636.out
  have hms26_0 := NB636_625.out
  have hs27 : w25.cell? ⟨gb636, 1, none⟩ = some (.int .u64 0) := bc_ BK636.out 1
  have hfs27 := blk_frozen BK636.out 1
  have hns27_0 := NB625_636.out
  have hms27_0 := NB636_625.out
  refine skip_ (w1 := ?_) (by rfl) rfl ?_ ?_
  rotate_left
  ·go_simp
   rfl
  refine hK.out _ _ ⟨((cell_far (p := ⟨gb636, _, none⟩) NB625_636.out _).trans (((cell_far (p := ⟨gb636, _, none⟩) NB625_636.out _).trans (hHeld.1)))), ((cell_far (p := ⟨gb636, _, none⟩) NB625_636.out _).trans (((cell_far (p := ⟨gb636, _, none⟩) NB625_636.out _).trans (hHeld.2.1)))), ((cell_far (p := ⟨gb636, _, none⟩) NB625_636.out _).trans (((cell_far (p := ⟨gb636, _, none⟩) NB625_636.out _).trans (hHeld.2.2.1)))), ((cell_far (p := ⟨gb636, _, none⟩) NB625_636.out _).trans (((cell_far (p := ⟨gb636, _, none⟩) NB625_636.out _).trans (hHeld.2.2.2))))⟩ (fun hHeld => ?_)
  clear hK K
  refine done_ (done_of HT_.out (by kernel_rfl)) ?_
  try go_wp2
  have n0_ : Aside0 (((w25.setCell ⟨gb636, 0, none⟩ (.int .u64 t634)).setCell ⟨gb636, 1, none⟩ (.int .u64 t635)).heap[gb625]? = some (.cells #[.bool a0_0, .int .i64 a0_1, .int .i64 a0_2, .int .u64 a0_3] 75 (0, 0))) := ⟨bf2_ BK625.out NB625_636.out NB625_636.out⟩
  have n1_ : Aside0 (((w25.setCell ⟨gb636, 0, none⟩ (.int .u64 t634)).setCell ⟨gb636, 1, none⟩ (.int .u64 t635)).heap[gb636]? = some (.cells #[.int .u64 t634, .int .u64 t635] 99 (0, 0))) := ⟨by (with_reducible repeat (first | refine blk_drewN ?_ _ | refine blk_drew ?_ | refine blk_alloc ?_ _)); refine blk_put (cs := #[.int .u64 t634, .int .u64 0]) ?_ 1 _ rfl; (with_reducible repeat (first | refine blk_drewN ?_ _ | refine blk_drew ?_ | refine blk_alloc ?_ _)); refine blk_put (cs := #[.int .u64 0, .int .u64 0]) ?_ 0 _ rfl; (with_reducible repeat (first | refine blk_drewN ?_ _ | refine blk_drew ?_ | refine blk_alloc ?_ _)); exact BK636.out⟩
  have n2_ : Aside0 (Below w.heap.size w ((w25.setCell ⟨gb636, 0, none⟩ (.int .u64 t634)).setCell ⟨gb636, 1, none⟩ (.int .u64 t635))) := ⟨hb2_ HB.out GE625.out GE636.out⟩
  (try clear BK625);(try clear BK636);(try clear HB)
  generalize ((w25.setCell ⟨gb636, 0, none⟩ (.int .u64 t634)).setCell ⟨gb636, 1, none⟩ (.int .u64 t635)) = w28 at n0_ n1_ n2_ ⊢
  have BK625 := n0_;have BK636 := n1_;have HB := n2_;clear n0_ n1_ n2_
  replace BK625 := A_ (blk_drew BK625.out)
  replace BK636 := A_ (blk_drew BK636.out)
  replace HB := A_ (below_drew1 HB.out)
  refine start_ (n := 7) (S := fun w' => w'.cell? ⟨gb636, 0, none⟩ = some (.int .u64 t634) ∧ w'.cell? ⟨gb636, 1, none⟩ = some (.int .u64 t635)) (ds := []) #[false, false, false, false, false, false, false] (by kernel_rfl) rfl rfl ⟨bc_ BK636.out 0, bc_ BK636.out 1⟩ (fun hHeld => ?_)
  generalize w28.drew = w29 at BK625 BK636 HB hHeld ⊢
  refine pu_ 0 (some 29) #[true, false, false, false, false, false, false] rfl rfl (by kernel_rfl) ?_
  refine pu_ 2 (some 31) #[true, false, true, false, false, false, false] rfl rfl (by kernel_rfl) ?_
  refine tk2_ 1 (some 30) #[true, true, true, false, false, false, false] rfl rfl (by kernel_rfl) hHeld ?_
  refine pu_ 5 (some 2) #[true, true, true, false, false, true, false] rfl rfl (by kernel_rfl) ?_
  refine tk2_ 3 (some 32) #[true, true, true, true, false, true, false] rfl rfl (by kernel_rfl) hHeld ?_
  refine pu_ 4 (some 33) #[true, true, true, true, true, true, false] rfl rfl (by kernel_rfl) ?_
  refine pu_ 6 (some 3) #[true, true, true, true, true, true, true] rfl rfl (by kernel_rfl) ?_
  refine done_ (by kernel_rfl) ?_
  try go_wp2
  go_ret2
  exact ⟨by first | rfl | (simp [errW_none, errW_some] <;> rfl) | (simp only [← hji17]; first | rfl | (simp [errW_none, errW_some] <;> rfl)) | (simp [*, errW_none, errW_some] <;> rfl), hb2_ HB.out GE625.out GE636.out⟩
def chop_sized.j0 : Nat → Bool → Int → Int → Bool → Option (Int)
 | 0, _, _, _, _ => none
 | k + 1, x0, x1, x10, x17 => if x17 = true then (some 2) else (if x0 = true then (some 0) else (if x1 > x10 then (some 3) else (some 0)))
def chop_sized.f (k : Nat) (a0 : Bool) (a1 : Int) (a2 : Int) (a3 : Bool) : Option (Int) := (chop_Ends.f a2 a3).bind fun bt638 => (if a0 = true then (chop_sized.j0 k a0 a1 bt638.2 (decide (a1 > bt638.1))) else (chop_sized.j0 k a0 a1 bt638.2 false))
theorem chop_sized.mono_l : ∀ k, (∀ y0 y1 y2 y3, LeO (chop_sized.j0 k y0 y1 y2 y3) (chop_sized.j0 (k + 1) y0 y1 y2 y3))
 | 0 => fun _ _ _ _ r h => by simp [chop_sized.j0] at h
 | k + 1 => by
  have ih0 := chop_sized.mono_l k
  ·intro y0 y1 y2 y3
   unfold chop_sized.j0
   repeat' first
   | (with_reducible exact ih0 _ _ _ _)
   | (with_reducible exact LeO.refl _)
   | (with_reducible exact LeO.none _)
   | (with_reducible refine LeO.ite ?_ ?_)
   | (with_reducible refine LeO.bind ?_ (fun _ => ?_))
   | exact ih0 _ _ _ _
   | exact LeO.none _
   | refine LeO.ite ?_ ?_
   | refine LeO.bind ?_ (fun _ => ?_)
theorem chop_sized.mono : ∀ a0 a1 a2 a3 k, LeO (chop_sized.f k a0 a1 a2 a3) (chop_sized.f (k + 1) a0 a1 a2 a3) := by
 intro a0 a1 a2 a3 k
 have ih0 := chop_sized.mono_l k
 unfold chop_sized.f
 repeat' first
   | (with_reducible exact ih0 _ _ _ _)
   | (with_reducible exact LeO.refl _)
   | (with_reducible exact LeO.none _)
   | (with_reducible refine LeO.ite ?_ ?_)
   | (with_reducible refine LeO.bind ?_ (fun _ => ?_))
   | exact ih0 _ _ _ _
   | exact LeO.none _
   | refine LeO.ite ?_ ?_
   | refine LeO.bind ?_ (fun _ => ?_)
theorem chop_sized.calls (k : Nat) (a0 : Bool) (a1 : Int) (a2 : Int) (a3 : Bool) (r : Int) (w : World) (h : chop_sized.f k a0 a1 a2 a3 = some r) :
  Calls Tryd.prog 91 #[.bool a0, .int .u64 a1, .int .i64 a2, .bool a3] w fun e w' => e = .returned (.int .i64 r) ∧ Drawn0 w w' := by
 have H : ((chop_Ends.f a2 a3).bind fun bt638 => (if a0 = true then (chop_sized.j0 k a0 a1 bt638.2 (decide (a1 > bt638.1))) else (chop_sized.j0 k a0 a1 bt638.2 false))) = some r := h
 clear h
 replace H := ob_ H
 obtain ⟨⟨t638, t639⟩, A50, H⟩ := H
 replace H : (if a0 = true then (chop_sized.j0 k a0 a1 t639 (decide (a1 > t638))) else (chop_sized.j0 k a0 a1 t639 false)) = some r := H
 have A5 := A_ A50;clear A50;have HC6 := A_ H;clear H
 go_enter Tryd.func91, Tryd.ntmps91
 go_upto_region 2 with (first | ((with_reducible refine gate_callee (f := 68) rfl ?_); refine goesL_ (some 14) rfl rfl Tryd.func68 (by kernel_rfl) rfl #[.int .i64 a2, .bool a3] rfl mp_ ?_; (with_reducible refine (chop_Ends.calls a2 a3 t638 t639 _ A5.out).mono ?_); rintro e w' ⟨rfl, ⟨nd, rfl⟩⟩; refine ⟨_, rfl, ?_⟩))
 (try simp only [Act.put, lI_, l0_, lS_])
 go_cut [17] (fun v17 wc => ∃ (kq : Nat) (x17_5 : Bool), v17 = .bool x17_5 ∧ Aside0 (chop_sized.j0 kq a0 a1 t639 x17_5 = some r) ∧ Aside0 (kq ≤ k) ∧ Drawn0 w wc)
 case first =>
  have H := HC6.out
  clear HC6
  by_cases c7 : a0 = true
  ·subst c7
   have H1 : (chop_sized.j0 k true a1 t639 (decide (a1 > t638))) = some r := by rw [if_pos rfl] at H; exact H
   clear H;have H := H1;clear H1
   have H' := A_ H
   clear H
   go_wp2
   go_meet
   case rel => exact ⟨_, (decide (a1 > t638)), sm_, H', ⟨by first | omega | exact Nat.le_refl _⟩, by repeat (first | exact Drawn0.refl _ | apply Drawn0.step)⟩
  ·replace c7 := Bool.eq_false_iff.mpr c7
   subst c7
   have H1 : (chop_sized.j0 k false a1 t639 false) = some r := by rw [if_neg (show ¬ (false = true) by decide)] at H; exact H
   clear H;have H := H1;clear H1
   have H' := A_ H
   clear H
   go_wp2
   go_meet
   case rel => exact ⟨_, (false), sm_, H', ⟨by first | omega | exact Nat.le_refl _⟩, by repeat (first | exact Drawn0.refl _ | apply Drawn0.step)⟩
 case rest =>
  clear HC6
  try clear p2
  try clear c6
  try clear c7
  obtain ⟨kq, x17_5, rfl, HA, HJ5, ⟨mc5, rfl⟩⟩ := hcut
  cases kq with
  | zero => exact absurd HA.out (by simp [chop_sized.j0])
  | succ kj5 =>
   have H := HA.out
   clear HA
   simp only [chop_sized.j0] at H
   by_cases c8 : x17_5 = true
   ·subst c8
    have H1 : (some 2) = some r := by rw [if_pos rfl] at H; exact H
    clear H;have H := H1;clear H1
    obtain rfl := Option.some.inj H
    go_wp2
    go_ret
    exact ⟨sm_, by repeat (first | exact Drawn0.refl _ | apply Drawn0.step)⟩
   ·replace c8 := Bool.eq_false_iff.mpr c8
    subst c8
    have H1 : (if a0 = true then (some 0) else (if a1 > t639 then (some 3) else (some 0))) = some r := by rw [if_neg (show ¬ (false = true) by decide)] at H; exact H
    clear H;have H := H1;clear H1
    by_cases c9 : a0 = true
    ·subst c9
     have H1 : (some 0) = some r := by rw [if_pos rfl] at H; exact H
     clear H;have H := H1;clear H1
     obtain rfl := Option.some.inj H
     go_wp2
     go_ret
     exact ⟨sm_, by repeat (first | exact Drawn0.refl _ | apply Drawn0.step)⟩
    ·replace c9 := Bool.eq_false_iff.mpr c9
     subst c9
     have H1 : (if a1 > t639 then (some 3) else (some 0)) = some r := by rw [if_neg (show ¬ (false = true) by decide)] at H; exact H
     clear H;have H := H1;clear H1
     by_cases c10 : a1 > t639
     ·rw [if_pos c10] at H
      have c10b0 : decide (t639 < a1) = true := decide_eq_true c10
      clear c10
      obtain rfl := Option.some.inj H
      go_wp2
      go_ret
      exact ⟨sm_, by repeat (first | exact Drawn0.refl _ | apply Drawn0.step)⟩
     ·rw [if_neg c10] at H
      have c10b0 : decide (t639 < a1) = false := decide_eq_false c10
      clear c10
      obtain rfl := Option.some.inj H
      go_wp2
      go_ret
      exact ⟨sm_, by repeat (first | exact Drawn0.refl _ | apply Drawn0.step)⟩
def chop_chopped.j0 : Nat → Int → Bool → Int → Bool → Int → Int → Int → Option (Int × Int)
 | 0, _, _, _, _, _, _, _ => none
 | k + 1, x1, x3, x11, x645000, x645001, x645002, x645003 => if x645001 = 3 then (some (0, 1)) else (if x645001 = 2 then (some (0, x11)) else (if x645001 = 0 then (some (0, 0)) else ((chop_amount.f x645000 x645001 x645002 x645003).bind fun bt645 => (if bt645.2 = true then ((chop_sized.f k x645000 bt645.1 x1 x3).bind fun t647 => (if x645000 = true then ((shape_Cut.f x1 (IntKind.u64.wrap (-bt645.1))).bind fun t648 => (some (t648, t647))) else ((shape_Cut.f x1 bt645.1).bind fun t649 => (some (t649, t647))))) else (some (0, x11))))))
def chop_chopped.f (k : Nat) (a0 : Int) (a1 : Int) (a2 : Int) (a3 : Bool) : Option (Int × Int) := (shape_Open.f k a0 a2).bind fun bt640 => (if bt640.1 = true then (chop_chopped.j0 k a1 a3 2 bt640.1 bt640.2.1 bt640.2.2.1 bt640.2.2.2) else (chop_chopped.j0 k a1 a3 3 bt640.1 bt640.2.1 bt640.2.2.1 bt640.2.2.2))
theorem chop_chopped.mono_l : ∀ k, (∀ y0 y1 y2 y3 y4 y5 y6, LeO (chop_chopped.j0 k y0 y1 y2 y3 y4 y5 y6) (chop_chopped.j0 (k + 1) y0 y1 y2 y3 y4 y5 y6))
 | 0 => fun _ _ _ _ _ _ _ r h => by simp [chop_chopped.j0] at h
 | k + 1 => by
  have ih0 := chop_chopped.mono_l k
  ·intro y0 y1 y2 y3 y4 y5 y6
   unfold chop_chopped.j0
   repeat' first
   | (with_reducible exact ih0 _ _ _ _ _ _ _)
   | (with_reducible exact chop_sized.mono _ _ _ _ _)
   | (with_reducible exact shape_Open.mono _ _ _)
   | (with_reducible exact LeO.refl _)
   | (with_reducible exact LeO.none _)
   | (with_reducible refine LeO.ite ?_ ?_)
   | (with_reducible refine LeO.bind ?_ (fun _ => ?_))
   | exact ih0 _ _ _ _ _ _ _
   | exact chop_sized.mono _ _ _ _ _
   | exact shape_Open.mono _ _ _
   | exact LeO.none _
   | refine LeO.ite ?_ ?_
   | refine LeO.bind ?_ (fun _ => ?_)
theorem chop_chopped.mono : ∀ a0 a1 a2 a3 k, LeO (chop_chopped.f k a0 a1 a2 a3) (chop_chopped.f (k + 1) a0 a1 a2 a3) := by
 intro a0 a1 a2 a3 k
 have ih0 := chop_chopped.mono_l k
 unfold chop_chopped.f
 repeat' first
   | (with_reducible exact ih0 _ _ _ _ _ _ _)
   | (with_reducible exact chop_sized.mono _ _ _ _ _)
   | (with_reducible exact shape_Open.mono _ _ _)
   | (with_reducible exact LeO.refl _)
   | (with_reducible exact LeO.none _)
   | (with_reducible refine LeO.ite ?_ ?_)
   | (with_reducible refine LeO.bind ?_ (fun _ => ?_))
   | exact ih0 _ _ _ _ _ _ _
   | exact chop_sized.mono _ _ _ _ _
   | exact shape_Open.mono _ _ _
   | exact LeO.none _
   | refine LeO.ite ?_ ?_
   | refine LeO.bind ?_ (fun _ => ?_)
theorem chop_chopped.calls (k : Nat) (a0 : Int) (a1 : Int) (a2 : Int) (a3 : Bool) (r1 : Int) (r2 : Int) (w : World) (h : chop_chopped.f k a0 a1 a2 a3 = some (r1, r2)) :
  Calls Tryd.prog 67 #[.int .i64 a0, .int .i64 a1, .int .u64 a2, .bool a3] w fun e w' => e = .returned (.tuple #[.int .u64 r1, .int .i64 r2]) ∧ Below w.heap.size w w' := by
 have hu75 := Tryd.underlying75
 have HB := A_ (Below.refl w.heap.size w)
 have H : ((shape_Open.f k a0 a2).bind fun bt640 => (if bt640.1 = true then (chop_chopped.j0 k a1 a3 2 bt640.1 bt640.2.1 bt640.2.2.1 bt640.2.2.2) else (chop_chopped.j0 k a1 a3 3 bt640.1 bt640.2.1 bt640.2.2.1 bt640.2.2.2))) = some (r1, r2) := h
 clear h
 replace H := ob_ H
 obtain ⟨⟨t640, t641, t642, t643⟩, A50, H⟩ := H
 replace H : (if t640 = true then (chop_chopped.j0 k a1 a3 2 t640 t641 t642 t643) else (chop_chopped.j0 k a1 a3 3 t640 t641 t642 t643)) = some (r1, r2) := H
 have A5 := A_ A50;clear A50;have HC6 := A_ H;clear H
 go_enter Tryd.func67, Tryd.ntmps67
 go_upto_if 19 with (first | ((with_reducible refine gate_callee (f := 62) rfl ?_); refine goesL_ (some 17) rfl rfl Tryd.func62 (by kernel_rfl) rfl #[.int .i64 a0, .int .u64 a2] rfl mp_ ?_; (with_reducible refine (shape_Open.calls k a0 a2 t640 t641 t642 t643 _ A5.out).mono ?_); rintro e w7 ⟨rfl, hb⟩; refine ⟨_, rfl, ?_⟩; replace HB := A_ (below_step (hb_ HB.out) hb); (try clear hb); (try clear hb2); (try clear hk); (try clear hi)) | ((with_reducible refine gate_dst (N := 10) rfl ?_); refine be_ 10 #[.bool false, .int .i64 0, .int .i64 0, .int .u64 0] 75 ?_; intro gb644 hg w8 hbox hb; have BK644 := A_ (hbox); have GW644 := A_ (sz_ hg (hb_ HB.out)); have GE644 := A_ (sz_ hg (hb_ HB.out)); replace HB := A_ (below_step (hb_ HB.out) hb); clear hb hbox hg; have hcz9_0 := bv_ BK644.out 0; have hcz9_1 := bv_ BK644.out 1; have hcz9_2 := bv_ BK644.out 2; have hcz9_3 := bv_ BK644.out 3; have hfz9_0 := blk_frozen BK644.out 0; have hfz9_1 := blk_frozen BK644.out 1; have hfz9_2 := blk_frozen BK644.out 2; have hfz9_3 := blk_frozen BK644.out 3))
 (try simp only [Act.put, lI_, l0_, lS_])
 go_cut [11] (fun v11 wc => ∃ (kq : Nat) (x11_5 : Int), v11 = .int .i64 x11_5 ∧ Aside0 (chop_chopped.j0 kq a1 a3 x11_5 t640 t641 t642 t643 = some (r1, r2)) ∧ Aside0 (kq ≤ k) ∧ Aside0 (wc.heap[gb644]? = some (.cells #[.bool t640, .int .i64 t641, .int .i64 t642, .int .u64 t643] 75 (0, 0))) ∧ Aside0 (Below w.heap.size w wc))
 case first =>
  have H := HC6.out
  clear HC6
  by_cases c10 : t640 = true
  ·subst c10
   have H1 : (chop_chopped.j0 k a1 a3 2 true t641 t642 t643) = some (r1, r2) := by rw [if_pos rfl] at H; exact H
   clear H;have H := H1;clear H1
   have H' := A_ H
   clear H
   go_wp2
   go_meet
   case rel => exact ⟨_, (2), sm_, H', ⟨by first | omega | exact Nat.le_refl _⟩, ⟨by (with_reducible repeat (first | refine blk_drewN ?_ _ | refine blk_drew ?_ | refine blk_alloc ?_ _)); refine blk_put (cs := #[.bool true, .int .i64 t641, .int .i64 t642, .int .u64 0]) ?_ 3 _ rfl; (with_reducible repeat (first | refine blk_drewN ?_ _ | refine blk_drew ?_ | refine blk_alloc ?_ _)); refine blk_put (cs := #[.bool true, .int .i64 t641, .int .i64 0, .int .u64 0]) ?_ 2 _ rfl; (with_reducible repeat (first | refine blk_drewN ?_ _ | refine blk_drew ?_ | refine blk_alloc ?_ _)); refine blk_put (cs := #[.bool true, .int .i64 0, .int .i64 0, .int .u64 0]) ?_ 1 _ rfl; (with_reducible repeat (first | refine blk_drewN ?_ _ | refine blk_drew ?_ | refine blk_alloc ?_ _)); refine blk_put (cs := #[.bool false, .int .i64 0, .int .i64 0, .int .u64 0]) ?_ 0 _ rfl; (with_reducible repeat (first | refine blk_drewN ?_ _ | refine blk_drew ?_ | refine blk_alloc ?_ _)); exact BK644.out⟩, ⟨hb1_ HB.out GE644.out⟩⟩
  ·replace c10 := Bool.eq_false_iff.mpr c10
   subst c10
   have H1 : (chop_chopped.j0 k a1 a3 3 false t641 t642 t643) = some (r1, r2) := by rw [if_neg (show ¬ (false = true) by decide)] at H; exact H
   clear H;have H := H1;clear H1
   have H' := A_ H
   clear H
   go_wp2
   go_meet
   case rel => exact ⟨_, (3), sm_, H', ⟨by first | omega | exact Nat.le_refl _⟩, ⟨by (with_reducible repeat (first | refine blk_drewN ?_ _ | refine blk_drew ?_ | refine blk_alloc ?_ _)); refine blk_put (cs := #[.bool false, .int .i64 t641, .int .i64 t642, .int .u64 0]) ?_ 3 _ rfl; (with_reducible repeat (first | refine blk_drewN ?_ _ | refine blk_drew ?_ | refine blk_alloc ?_ _)); refine blk_put (cs := #[.bool false, .int .i64 t641, .int .i64 0, .int .u64 0]) ?_ 2 _ rfl; (with_reducible repeat (first | refine blk_drewN ?_ _ | refine blk_drew ?_ | refine blk_alloc ?_ _)); refine blk_put (cs := #[.bool false, .int .i64 0, .int .i64 0, .int .u64 0]) ?_ 1 _ rfl; (with_reducible repeat (first | refine blk_drewN ?_ _ | refine blk_drew ?_ | refine blk_alloc ?_ _)); refine blk_put (cs := #[.bool false, .int .i64 0, .int .i64 0, .int .u64 0]) ?_ 0 _ rfl; (with_reducible repeat (first | refine blk_drewN ?_ _ | refine blk_drew ?_ | refine blk_alloc ?_ _)); exact BK644.out⟩, ⟨hb1_ HB.out GE644.out⟩⟩
 case rest =>
  clear HC6
  try clear c1
  try clear p2
  try clear c6
  try clear c10
  try clear hcz9_0
  try clear hcz9_1
  try clear hcz9_2
  try clear hcz9_3
  try clear hfz9_0
  try clear hfz9_1
  try clear hfz9_2
  try clear hfz9_3
  obtain ⟨kq, x11_5, rfl, HA, HJ5, BK644, HB⟩ := hcut
  cases kq with
  | zero => exact absurd HA.out (by simp [chop_chopped.j0])
  | succ kj5 =>
   have H := HA.out
   clear HA
   simp only [chop_chopped.j0] at H
   by_cases c11 : t641 = 3
   ·rw [if_pos c11] at H
    have c11b0 : (t641 == 3) = true := beq_iff_eq.mpr c11
    have c11b1 : (t641 != 3) = false := bne_eq_false_iff_eq.mpr c11
    clear c11
    simp only [Option.some.injEq, Prod.mk.injEq] at H
    obtain ⟨rfl, rfl⟩ := H
    have hcz12_0 := bv_ BK644.out 0
    have hcz12_1 := bv_ BK644.out 1
    have hcz12_2 := bv_ BK644.out 2
    have hcz12_3 := bv_ BK644.out 3
    have hfz12_0 := blk_frozen BK644.out 0
    have hfz12_1 := blk_frozen BK644.out 1
    have hfz12_2 := blk_frozen BK644.out 2
    have hfz12_3 := blk_frozen BK644.out 3
    go_wp2
    go_ret2
    exact ⟨er_, hb1_ HB.out GE644.out⟩
   ·rw [if_neg c11] at H
    have c11b0 : (t641 == 3) = false := beq_eq_false_iff_ne.mpr c11
    have c11b1 : (t641 != 3) = true := bne_iff_ne.mpr c11
    by_cases c13 : t641 = 2
    ·rw [if_pos c13] at H
     have c13b0 : (t641 == 2) = true := beq_iff_eq.mpr c13
     have c13b1 : (t641 != 2) = false := bne_eq_false_iff_eq.mpr c13
     clear c13
     simp only [Option.some.injEq, Prod.mk.injEq] at H
     obtain ⟨rfl, rfl⟩ := H
     have hcz14_0 := bv_ BK644.out 0
     have hcz14_1 := bv_ BK644.out 1
     have hcz14_2 := bv_ BK644.out 2
     have hcz14_3 := bv_ BK644.out 3
     have hfz14_0 := blk_frozen BK644.out 0
     have hfz14_1 := blk_frozen BK644.out 1
     have hfz14_2 := blk_frozen BK644.out 2
     have hfz14_3 := blk_frozen BK644.out 3
     go_wp2
     go_ret2
     exact ⟨er_, hb1_ HB.out GE644.out⟩
    ·rw [if_neg c13] at H
     have c13b0 : (t641 == 2) = false := beq_eq_false_iff_ne.mpr c13
     have c13b1 : (t641 != 2) = true := bne_iff_ne.mpr c13
     by_cases c15 : t641 = 0
     ·rw [if_pos c15] at H
      have c15b0 : (t641 == 0) = true := beq_iff_eq.mpr c15
      have c15b1 : (t641 != 0) = false := bne_eq_false_iff_eq.mpr c15
      clear c15
      simp only [Option.some.injEq, Prod.mk.injEq] at H
      obtain ⟨rfl, rfl⟩ := H
      have hcz16_0 := bv_ BK644.out 0
      have hcz16_1 := bv_ BK644.out 1
      have hcz16_2 := bv_ BK644.out 2
      have hcz16_3 := bv_ BK644.out 3
      have hfz16_0 := blk_frozen BK644.out 0
      have hfz16_1 := blk_frozen BK644.out 1
      have hfz16_2 := blk_frozen BK644.out 2
      have hfz16_3 := blk_frozen BK644.out 3
      go_wp2
      go_ret2
      exact ⟨er_, hb1_ HB.out GE644.out⟩
     ·rw [if_neg c15] at H
      have c15b0 : (t641 == 0) = false := beq_eq_false_iff_ne.mpr c15
      have c15b1 : (t641 != 0) = true := bne_iff_ne.mpr c15
      replace H := ob_ H
      obtain ⟨⟨t645, t646⟩, A170, H⟩ := H
      replace H : (if t646 = true then ((chop_sized.f kj5 t640 t645 a1 a3).bind fun t647 => (if t640 = true then ((shape_Cut.f a1 (IntKind.u64.wrap (-t645))).bind fun t648 => (some (t648, t647))) else ((shape_Cut.f a1 t645).bind fun t649 => (some (t649, t647))))) else (some (0, x11_5))) = some (r1, r2) := H
      have A17 := A_ A170;clear A170
      by_cases c18 : t646 = true
      ·subst c18
       have H1 : ((chop_sized.f kj5 t640 t645 a1 a3).bind fun t647 => (if t640 = true then ((shape_Cut.f a1 (IntKind.u64.wrap (-t645))).bind fun t648 => (some (t648, t647))) else ((shape_Cut.f a1 t645).bind fun t649 => (some (t649, t647))))) = some (r1, r2) := by rw [if_pos rfl] at H; exact H
       clear H;have H := H1;clear H1
       replace H := ob_ H
       obtain ⟨t647, A190, H⟩ := H
       replace H : (if t640 = true then ((shape_Cut.f a1 (IntKind.u64.wrap (-t645))).bind fun t648 => (some (t648, t647))) else ((shape_Cut.f a1 t645).bind fun t649 => (some (t649, t647)))) = some (r1, r2) := H
       have A19 := A_ A190;clear A190
       by_cases c20 : t640 = true
       ·subst c20
        have H1 : ((shape_Cut.f a1 (IntKind.u64.wrap (-t645))).bind fun t648 => (some (t648, t647))) = some (r1, r2) := by rw [if_pos rfl] at H; exact H
        clear H;have H := H1;clear H1
        replace H := ob_ H
        obtain ⟨t648, A210, H⟩ := H
        replace H : (some (t648, t647)) = some (r1, r2) := H
        have A21 := A_ A210;clear A210
        simp only [Option.some.injEq, Prod.mk.injEq] at H
        obtain ⟨rfl, rfl⟩ := H
        have hcz22_0 := bv_ BK644.out 0
        have hcz22_1 := bv_ BK644.out 1
        have hcz22_2 := bv_ BK644.out 2
        have hcz22_3 := bv_ BK644.out 3
        have hfz22_0 := blk_frozen BK644.out 0
        have hfz22_1 := blk_frozen BK644.out 1
        have hfz22_2 := blk_frozen BK644.out 2
        have hfz22_3 := blk_frozen BK644.out 3
        go_wp2_with (first | ((with_reducible refine gate_callee (f := 90) rfl ?_); refine goesL_ (some 31) rfl rfl Tryd.func90 (by kernel_rfl) rfl #[.agg #[.bool true, .int .i64 t641, .int .i64 t642, .int .u64 t643]] rfl mp_ ?_; (with_reducible refine (chop_amount.calls true t641 t642 t643 t645 true _ A17.out).mono ?_); rintro e w23 ⟨rfl, hb⟩; refine ⟨_, rfl, ?_⟩; replace BK644 := A_ (bb_ BK644.out hb); replace HB := A_ (below_step (hb1_ HB.out GE644.out) hb); (try clear hb); (try clear hb2); (try clear hk); (try clear hi); have hcz24_0 := bv_ BK644.out 0; have hcz24_1 := bv_ BK644.out 1; have hcz24_2 := bv_ BK644.out 2; have hcz24_3 := bv_ BK644.out 3; have hfz24_0 := blk_frozen BK644.out 0; have hfz24_1 := blk_frozen BK644.out 1; have hfz24_2 := blk_frozen BK644.out 2; have hfz24_3 := blk_frozen BK644.out 3) | ((with_reducible refine gate_callee (f := 91) rfl ?_); refine goesL_ (some 42) rfl rfl Tryd.func91 (by kernel_rfl) rfl #[.bool true, .int .u64 t645, .int .i64 a1, .bool a3] rfl mp_ ?_; (with_reducible refine (chop_sized.calls kj5 true t645 a1 a3 t647 _ A19.out).mono ?_); rintro e w' ⟨rfl, ⟨nd, rfl⟩⟩; refine ⟨_, rfl, ?_⟩) | ((with_reducible refine gate_callee (f := 34) rfl ?_); refine goesL_ (some 49) rfl rfl Tryd.func34 (by kernel_rfl) rfl #[.int .i64 a1, .int .u64 (IntKind.u64.wrap (-t645))] rfl mp_ ?_; (with_reducible refine (shape_Cut.calls a1 (IntKind.u64.wrap (-t645)) t648 _ A21.out).mono ?_); rintro e w' ⟨rfl, ⟨nd, rfl⟩⟩; refine ⟨_, rfl, ?_⟩))
        go_ret2
        exact ⟨er_, hb1_ HB.out GE644.out⟩
       ·replace c20 := Bool.eq_false_iff.mpr c20
        subst c20
        have H1 : ((shape_Cut.f a1 t645).bind fun t649 => (some (t649, t647))) = some (r1, r2) := by rw [if_neg (show ¬ (false = true) by decide)] at H; exact H
        clear H;have H := H1;clear H1
        replace H := ob_ H
        obtain ⟨t649, A250, H⟩ := H
        replace H : (some (t649, t647)) = some (r1, r2) := H
        have A25 := A_ A250;clear A250
        simp only [Option.some.injEq, Prod.mk.injEq] at H
        obtain ⟨rfl, rfl⟩ := H
        have hcz26_0 := bv_ BK644.out 0
        have hcz26_1 := bv_ BK644.out 1
        have hcz26_2 := bv_ BK644.out 2
        have hcz26_3 := bv_ BK644.out 3
        have hfz26_0 := blk_frozen BK644.out 0
        have hfz26_1 := blk_frozen BK644.out 1
        have hfz26_2 := blk_frozen BK644.out 2
        have hfz26_3 := blk_frozen BK644.out 3
        go_wp2_with (first | ((with_reducible refine gate_callee (f := 90) rfl ?_); refine goesL_ (some 31) rfl rfl Tryd.func90 (by kernel_rfl) rfl #[.agg #[.bool false, .int .i64 t641, .int .i64 t642, .int .u64 t643]] rfl mp_ ?_; (with_reducible refine (chop_amount.calls false t641 t642 t643 t645 true _ A17.out).mono ?_); rintro e w27 ⟨rfl, hb⟩; refine ⟨_, rfl, ?_⟩; replace BK644 := A_ (bb_ BK644.out hb); replace HB := A_ (below_step (hb1_ HB.out GE644.out) hb); (try clear hb); (try clear hb2); (try clear hk); (try clear hi); have hcz28_0 := bv_ BK644.out 0; have hcz28_1 := bv_ BK644.out 1; have hcz28_2 := bv_ BK644.out 2; have hcz28_3 := bv_ BK644.out 3; have hfz28_0 := blk_frozen BK644.out 0; have hfz28_1 := blk_frozen BK644.out 1; have hfz28_2 := blk_frozen BK644.out 2; have hfz28_3 := blk_frozen BK644.out 3) | ((with_reducible refine gate_callee (f := 91) rfl ?_); refine goesL_ (some 42) rfl rfl Tryd.func91 (by kernel_rfl) rfl #[.bool false, .int .u64 t645, .int .i64 a1, .bool a3] rfl mp_ ?_; (with_reducible refine (chop_sized.calls kj5 false t645 a1 a3 t647 _ A19.out).mono ?_); rintro e w' ⟨rfl, ⟨nd, rfl⟩⟩; refine ⟨_, rfl, ?_⟩) | ((with_reducible refine gate_callee (f := 34) rfl ?_); refine goesL_ (some 49) rfl rfl Tryd.func34 (by kernel_rfl) rfl #[.int .i64 a1, .int .u64 t645] rfl mp_ ?_; (with_reducible refine (shape_Cut.calls a1 t645 t649 _ A25.out).mono ?_); rintro e w' ⟨rfl, ⟨nd, rfl⟩⟩; refine ⟨_, rfl, ?_⟩))
        go_ret2
        exact ⟨er_, hb1_ HB.out GE644.out⟩
      ·replace c18 := Bool.eq_false_iff.mpr c18
       subst c18
       have H1 : (some (0, x11_5)) = some (r1, r2) := by rw [if_neg (show ¬ (false = true) by decide)] at H; exact H
       clear H;have H := H1;clear H1
       simp only [Option.some.injEq, Prod.mk.injEq] at H
       obtain ⟨rfl, rfl⟩ := H
       have hcz29_0 := bv_ BK644.out 0
       have hcz29_1 := bv_ BK644.out 1
       have hcz29_2 := bv_ BK644.out 2
       have hcz29_3 := bv_ BK644.out 3
       have hfz29_0 := blk_frozen BK644.out 0
       have hfz29_1 := blk_frozen BK644.out 1
       have hfz29_2 := blk_frozen BK644.out 2
       have hfz29_3 := blk_frozen BK644.out 3
       go_wp2_with (first | ((with_reducible refine gate_callee (f := 90) rfl ?_); refine goesL_ (some 31) rfl rfl Tryd.func90 (by kernel_rfl) rfl #[.agg #[.bool t640, .int .i64 t641, .int .i64 t642, .int .u64 t643]] rfl mp_ ?_; (with_reducible refine (chop_amount.calls t640 t641 t642 t643 t645 false _ A17.out).mono ?_); rintro e w30 ⟨rfl, hb⟩; refine ⟨_, rfl, ?_⟩; replace BK644 := A_ (bb_ BK644.out hb); replace HB := A_ (below_step (hb1_ HB.out GE644.out) hb); (try clear hb); (try clear hb2); (try clear hk); (try clear hi)))
       go_ret2
       exact ⟨er_, hb1_ HB.out GE644.out⟩
def chop_Sat.j0 : Nat → Int → Int → Int → Bool → Bool → Option (Int)
 | 0, _, _, _, _, _ => none
 | k + 1, x0, x1, x2, x3, x20 => if x20 = true then (some 0) else ((chop_Ends.f x1 x3).bind fun bt656 => ((chop_chopped.f k x0 x1 x2 x3).bind fun bt658 => (if bt658.2 = 1 then (some 0) else (if bt658.2 = 2 then (some bt656.1) else (if bt658.2 = 3 then (some bt656.2) else (some bt658.1))))))
def chop_Sat.f (k : Nat) (a0 : Int) (a1 : Int) (a2 : Int) (a3 : Bool) : Option (Int) := (chop_known.f a0).bind fun t654 => (if t654 = true then ((chop_known.f a1).bind fun t655 => (chop_Sat.j0 k a0 a1 a2 a3 (!t655))) else (chop_Sat.j0 k a0 a1 a2 a3 true))
theorem chop_Sat.mono_l : ∀ k, (∀ y0 y1 y2 y3 y4, LeO (chop_Sat.j0 k y0 y1 y2 y3 y4) (chop_Sat.j0 (k + 1) y0 y1 y2 y3 y4))
 | 0 => fun _ _ _ _ _ r h => by simp [chop_Sat.j0] at h
 | k + 1 => by
  have ih0 := chop_Sat.mono_l k
  ·intro y0 y1 y2 y3 y4
   unfold chop_Sat.j0
   repeat' first
   | (with_reducible exact ih0 _ _ _ _ _)
   | (with_reducible exact chop_chopped.mono _ _ _ _ _)
   | (with_reducible exact LeO.refl _)
   | (with_reducible exact LeO.none _)
   | (with_reducible refine LeO.ite ?_ ?_)
   | (with_reducible refine LeO.bind ?_ (fun _ => ?_))
   | exact ih0 _ _ _ _ _
   | exact chop_chopped.mono _ _ _ _ _
   | exact LeO.none _
   | refine LeO.ite ?_ ?_
   | refine LeO.bind ?_ (fun _ => ?_)
theorem chop_Sat.mono : ∀ a0 a1 a2 a3 k, LeO (chop_Sat.f k a0 a1 a2 a3) (chop_Sat.f (k + 1) a0 a1 a2 a3) := by
 intro a0 a1 a2 a3 k
 have ih0 := chop_Sat.mono_l k
 unfold chop_Sat.f
 repeat' first
   | (with_reducible exact ih0 _ _ _ _ _)
   | (with_reducible exact chop_chopped.mono _ _ _ _ _)
   | (with_reducible exact LeO.refl _)
   | (with_reducible exact LeO.none _)
   | (with_reducible refine LeO.ite ?_ ?_)
   | (with_reducible refine LeO.bind ?_ (fun _ => ?_))
   | exact ih0 _ _ _ _ _
   | exact chop_chopped.mono _ _ _ _ _
   | exact LeO.none _
   | refine LeO.ite ?_ ?_
   | refine LeO.bind ?_ (fun _ => ?_)
theorem chop_Sat.calls (k : Nat) (a0 : Int) (a1 : Int) (a2 : Int) (a3 : Bool) (r : Int) (w : World) (h : chop_Sat.f k a0 a1 a2 a3 = some r) :
  Calls Tryd.prog 37 #[.int .i64 a0, .int .i64 a1, .int .u64 a2, .bool a3] w fun e w' => e = .returned (.int .u64 r) ∧ Below w.heap.size w w' := by
 have HB := A_ (Below.refl w.heap.size w)
 have H : ((chop_known.f a0).bind fun t654 => (if t654 = true then ((chop_known.f a1).bind fun t655 => (chop_Sat.j0 k a0 a1 a2 a3 (!t655))) else (chop_Sat.j0 k a0 a1 a2 a3 true))) = some r := h
 clear h;have HC5 := A_ H;clear H
 go_enter Tryd.func37, Tryd.ntmps37
 go_upto_region 1 with (fail)
 go_cut [20] (fun v20 wc => ∃ (kq : Nat) (x20_4 : Bool), v20 = .bool x20_4 ∧ Aside0 (chop_Sat.j0 kq a0 a1 a2 a3 x20_4 = some r) ∧ Aside0 (kq ≤ k) ∧ Aside0 (Below w.heap.size w wc))
 case first =>
  have H := HC5.out
  clear HC5
  replace H := ob_ H
  obtain ⟨t654, A60, H⟩ := H
  replace H : (if t654 = true then ((chop_known.f a1).bind fun t655 => (chop_Sat.j0 k a0 a1 a2 a3 (!t655))) else (chop_Sat.j0 k a0 a1 a2 a3 true)) = some r := H
  have A6 := A_ A60;clear A60
  by_cases c7 : t654 = true
  ·subst c7
   have H1 : ((chop_known.f a1).bind fun t655 => (chop_Sat.j0 k a0 a1 a2 a3 (!t655))) = some r := by rw [if_pos rfl] at H; exact H
   clear H;have H := H1;clear H1
   replace H := ob_ H
   obtain ⟨t655, A80, H⟩ := H
   replace H : (chop_Sat.j0 k a0 a1 a2 a3 (!t655)) = some r := H
   have A8 := A_ A80;clear A80
   have H' := A_ H
   clear H
   go_wp2_with (first | ((with_reducible refine gate_callee (f := 66) rfl ?_); refine goesL_ (some 14) rfl rfl Tryd.func66 (by kernel_rfl) rfl #[.int .i64 a0] rfl mp_ ?_; (with_reducible refine (chop_known.calls a0 true _ A6.out).mono ?_); rintro e w' ⟨rfl, ⟨nd, rfl⟩⟩; refine ⟨_, rfl, ?_⟩) | (go_at_call 66; (with_reducible refine (chop_known.calls a1 t655 _ A8.out).mono ?_); rintro e w' ⟨rfl, ⟨nd, rfl⟩⟩))
   go_meet
   case rel => exact ⟨_, (!t655), sm_, H', ⟨by first | omega | exact Nat.le_refl _⟩, ⟨hb_ HB.out⟩⟩
  ·replace c7 := Bool.eq_false_iff.mpr c7
   subst c7
   have H1 : (chop_Sat.j0 k a0 a1 a2 a3 true) = some r := by rw [if_neg (show ¬ (false = true) by decide)] at H; exact H
   clear H;have H := H1;clear H1
   have H' := A_ H
   clear H
   go_wp2_with (first | ((with_reducible refine gate_callee (f := 66) rfl ?_); refine goesL_ (some 14) rfl rfl Tryd.func66 (by kernel_rfl) rfl #[.int .i64 a0] rfl mp_ ?_; (with_reducible refine (chop_known.calls a0 false _ A6.out).mono ?_); rintro e w' ⟨rfl, ⟨nd, rfl⟩⟩; refine ⟨_, rfl, ?_⟩))
   go_meet
   case rel => exact ⟨_, (true), sm_, H', ⟨by first | omega | exact Nat.le_refl _⟩, ⟨hb_ HB.out⟩⟩
 case rest =>
  clear HC5
  try clear p2
  try clear c3
  try clear c6
  try clear c7
  obtain ⟨kq, x20_4, rfl, HA, HJ4, HB⟩ := hcut
  cases kq with
  | zero => exact absurd HA.out (by simp [chop_Sat.j0])
  | succ kj4 =>
   have H := HA.out
   clear HA
   simp only [chop_Sat.j0] at H
   by_cases c9 : x20_4 = true
   ·subst c9
    have H1 : (some 0) = some r := by rw [if_pos rfl] at H; exact H
    clear H;have H := H1;clear H1
    obtain rfl := Option.some.inj H
    go_wp2
    go_ret
    exact ⟨er_, hb_ HB.out⟩
   ·replace c9 := Bool.eq_false_iff.mpr c9
    subst c9
    have H1 : ((chop_Ends.f a1 a3).bind fun bt656 => ((chop_chopped.f kj4 a0 a1 a2 a3).bind fun bt658 => (if bt658.2 = 1 then (some 0) else (if bt658.2 = 2 then (some bt656.1) else (if bt658.2 = 3 then (some bt656.2) else (some bt658.1)))))) = some r := by rw [if_neg (show ¬ (false = true) by decide)] at H; exact H
    clear H;have H := H1;clear H1
    replace H := ob_ H
    obtain ⟨⟨t656, t657⟩, A100, H⟩ := H
    replace H : ((chop_chopped.f kj4 a0 a1 a2 a3).bind fun bt658 => (if bt658.2 = 1 then (some 0) else (if bt658.2 = 2 then (some t656) else (if bt658.2 = 3 then (some t657) else (some bt658.1))))) = some r := H
    have A10 := A_ A100;clear A100
    replace H := ob_ H
    obtain ⟨⟨t658, t659⟩, A110, H⟩ := H
    replace H : (if t659 = 1 then (some 0) else (if t659 = 2 then (some t656) else (if t659 = 3 then (some t657) else (some t658)))) = some r := H
    have A11 := A_ A110;clear A110
    by_cases c12 : t659 = 1
    ·rw [if_pos c12] at H
     have c12b0 : (t659 == 1) = true := beq_iff_eq.mpr c12
     have c12b1 : (t659 != 1) = false := bne_eq_false_iff_eq.mpr c12
     clear c12
     obtain rfl := Option.some.inj H
     go_wp2_with (first | ((with_reducible refine gate_callee (f := 68) rfl ?_); refine goesL_ (some 24) rfl rfl Tryd.func68 (by kernel_rfl) rfl #[.int .i64 a1, .bool a3] rfl mp_ ?_; (with_reducible refine (chop_Ends.calls a1 a3 t656 t657 _ A10.out).mono ?_); rintro e w' ⟨rfl, ⟨nd, rfl⟩⟩; refine ⟨_, rfl, ?_⟩) | ((with_reducible refine gate_callee (f := 67) rfl ?_); refine goesL_ (some 32) rfl rfl Tryd.func67 (by kernel_rfl) rfl #[.int .i64 a0, .int .i64 a1, .int .u64 a2, .bool a3] rfl mp_ ?_; (with_reducible refine (chop_chopped.calls kj4 a0 a1 a2 a3 t658 t659 _ A11.out).mono ?_); rintro e w13 ⟨rfl, hb⟩; refine ⟨_, rfl, ?_⟩; replace HB := A_ (below_step (hb_ HB.out) hb); (try clear hb); (try clear hb2); (try clear hk); (try clear hi)))
     go_ret
     exact ⟨er_, hb_ HB.out⟩
    ·rw [if_neg c12] at H
     have c12b0 : (t659 == 1) = false := beq_eq_false_iff_ne.mpr c12
     have c12b1 : (t659 != 1) = true := bne_iff_ne.mpr c12
     by_cases c14 : t659 = 2
     ·rw [if_pos c14] at H
      have c14b0 : (t659 == 2) = true := beq_iff_eq.mpr c14
      have c14b1 : (t659 != 2) = false := bne_eq_false_iff_eq.mpr c14
      clear c14
      obtain rfl := Option.some.inj H
      go_wp2_with (first | ((with_reducible refine gate_callee (f := 68) rfl ?_); refine goesL_ (some 24) rfl rfl Tryd.func68 (by kernel_rfl) rfl #[.int .i64 a1, .bool a3] rfl mp_ ?_; (with_reducible refine (chop_Ends.calls a1 a3 t656 t657 _ A10.out).mono ?_); rintro e w' ⟨rfl, ⟨nd, rfl⟩⟩; refine ⟨_, rfl, ?_⟩) | ((with_reducible refine gate_callee (f := 67) rfl ?_); refine goesL_ (some 32) rfl rfl Tryd.func67 (by kernel_rfl) rfl #[.int .i64 a0, .int .i64 a1, .int .u64 a2, .bool a3] rfl mp_ ?_; (with_reducible refine (chop_chopped.calls kj4 a0 a1 a2 a3 t658 t659 _ A11.out).mono ?_); rintro e w15 ⟨rfl, hb⟩; refine ⟨_, rfl, ?_⟩; replace HB := A_ (below_step (hb_ HB.out) hb); (try clear hb); (try clear hb2); (try clear hk); (try clear hi)))
      go_ret
      exact ⟨er_, hb_ HB.out⟩
     ·rw [if_neg c14] at H
      have c14b0 : (t659 == 2) = false := beq_eq_false_iff_ne.mpr c14
      have c14b1 : (t659 != 2) = true := bne_iff_ne.mpr c14
      by_cases c16 : t659 = 3
      ·rw [if_pos c16] at H
       have c16b0 : (t659 == 3) = true := beq_iff_eq.mpr c16
       have c16b1 : (t659 != 3) = false := bne_eq_false_iff_eq.mpr c16
       clear c16
       obtain rfl := Option.some.inj H
       go_wp2_with (first | ((with_reducible refine gate_callee (f := 68) rfl ?_); refine goesL_ (some 24) rfl rfl Tryd.func68 (by kernel_rfl) rfl #[.int .i64 a1, .bool a3] rfl mp_ ?_; (with_reducible refine (chop_Ends.calls a1 a3 t656 t657 _ A10.out).mono ?_); rintro e w' ⟨rfl, ⟨nd, rfl⟩⟩; refine ⟨_, rfl, ?_⟩) | ((with_reducible refine gate_callee (f := 67) rfl ?_); refine goesL_ (some 32) rfl rfl Tryd.func67 (by kernel_rfl) rfl #[.int .i64 a0, .int .i64 a1, .int .u64 a2, .bool a3] rfl mp_ ?_; (with_reducible refine (chop_chopped.calls kj4 a0 a1 a2 a3 t658 t659 _ A11.out).mono ?_); rintro e w17 ⟨rfl, hb⟩; refine ⟨_, rfl, ?_⟩; replace HB := A_ (below_step (hb_ HB.out) hb); (try clear hb); (try clear hb2); (try clear hk); (try clear hi)))
       go_ret
       exact ⟨er_, hb_ HB.out⟩
      ·rw [if_neg c16] at H
       have c16b0 : (t659 == 3) = false := beq_eq_false_iff_ne.mpr c16
       have c16b1 : (t659 != 3) = true := bne_iff_ne.mpr c16
       obtain rfl := Option.some.inj H
       go_wp2_with (first | ((with_reducible refine gate_callee (f := 68) rfl ?_); refine goesL_ (some 24) rfl rfl Tryd.func68 (by kernel_rfl) rfl #[.int .i64 a1, .bool a3] rfl mp_ ?_; (with_reducible refine (chop_Ends.calls a1 a3 t656 t657 _ A10.out).mono ?_); rintro e w' ⟨rfl, ⟨nd, rfl⟩⟩; refine ⟨_, rfl, ?_⟩) | ((with_reducible refine gate_callee (f := 67) rfl ?_); refine goesL_ (some 32) rfl rfl Tryd.func67 (by kernel_rfl) rfl #[.int .i64 a0, .int .i64 a1, .int .u64 a2, .bool a3] rfl mp_ ?_; (with_reducible refine (chop_chopped.calls kj4 a0 a1 a2 a3 t658 t659 _ A11.out).mono ?_); rintro e w18 ⟨rfl, hb⟩; refine ⟨_, rfl, ?_⟩; replace HB := A_ (below_step (hb_ HB.out) hb); (try clear hb); (try clear hb2); (try clear hk); (try clear hi)))
       go_ret
       exact ⟨er_, hb_ HB.out⟩
def chop_Trap.j0 : Nat → Int → Int → Int → Bool → Bool → Option (Int × Int)
 | 0, _, _, _, _, _ => none
 | k + 1, x0, x1, x2, x3, x19 => if x19 = true then (some (0, 0)) else ((chop_chopped.f k x0 x1 x2 x3).bind fun bt652 => (if bt652.2 = 1 then (some (0, 4)) else (if bt652.2 = 2 then (some (0, 3)) else (if bt652.2 = 3 then (some (0, 3)) else (some (bt652.1, 0))))))
def chop_Trap.f (k : Nat) (a0 : Int) (a1 : Int) (a2 : Int) (a3 : Bool) : Option (Int × Int) := (chop_known.f a0).bind fun t650 => (if t650 = true then ((chop_known.f a1).bind fun t651 => (chop_Trap.j0 k a0 a1 a2 a3 (!t651))) else (chop_Trap.j0 k a0 a1 a2 a3 true))
theorem chop_Trap.mono_l : ∀ k, (∀ y0 y1 y2 y3 y4, LeO (chop_Trap.j0 k y0 y1 y2 y3 y4) (chop_Trap.j0 (k + 1) y0 y1 y2 y3 y4))
 | 0 => fun _ _ _ _ _ r h => by simp [chop_Trap.j0] at h
 | k + 1 => by
  have ih0 := chop_Trap.mono_l k
  ·intro y0 y1 y2 y3 y4
   unfold chop_Trap.j0
   repeat' first
   | (with_reducible exact ih0 _ _ _ _ _)
   | (with_reducible exact chop_chopped.mono _ _ _ _ _)
   | (with_reducible exact LeO.refl _)
   | (with_reducible exact LeO.none _)
   | (with_reducible refine LeO.ite ?_ ?_)
   | (with_reducible refine LeO.bind ?_ (fun _ => ?_))
   | exact ih0 _ _ _ _ _
   | exact chop_chopped.mono _ _ _ _ _
   | exact LeO.none _
   | refine LeO.ite ?_ ?_
   | refine LeO.bind ?_ (fun _ => ?_)
theorem chop_Trap.mono : ∀ a0 a1 a2 a3 k, LeO (chop_Trap.f k a0 a1 a2 a3) (chop_Trap.f (k + 1) a0 a1 a2 a3) := by
 intro a0 a1 a2 a3 k
 have ih0 := chop_Trap.mono_l k
 unfold chop_Trap.f
 repeat' first
   | (with_reducible exact ih0 _ _ _ _ _)
   | (with_reducible exact chop_chopped.mono _ _ _ _ _)
   | (with_reducible exact LeO.refl _)
   | (with_reducible exact LeO.none _)
   | (with_reducible refine LeO.ite ?_ ?_)
   | (with_reducible refine LeO.bind ?_ (fun _ => ?_))
   | exact ih0 _ _ _ _ _
   | exact chop_chopped.mono _ _ _ _ _
   | exact LeO.none _
   | refine LeO.ite ?_ ?_
   | refine LeO.bind ?_ (fun _ => ?_)
theorem chop_Trap.calls (k : Nat) (a0 : Int) (a1 : Int) (a2 : Int) (a3 : Bool) (r1 : Int) (r2 : Int) (w : World) (h : chop_Trap.f k a0 a1 a2 a3 = some (r1, r2)) :
  Calls Tryd.prog 36 #[.int .i64 a0, .int .i64 a1, .int .u64 a2, .bool a3] w fun e w' => e = .returned (.tuple #[.int .u64 r1, .int .i64 r2]) ∧ Below w.heap.size w w' := by
 have HB := A_ (Below.refl w.heap.size w)
 have H : ((chop_known.f a0).bind fun t650 => (if t650 = true then ((chop_known.f a1).bind fun t651 => (chop_Trap.j0 k a0 a1 a2 a3 (!t651))) else (chop_Trap.j0 k a0 a1 a2 a3 true))) = some (r1, r2) := h
 clear h;have HC5 := A_ H;clear H
 go_enter Tryd.func36, Tryd.ntmps36
 go_upto_region 1 with (fail)
 go_cut [19] (fun v19 wc => ∃ (kq : Nat) (x19_4 : Bool), v19 = .bool x19_4 ∧ Aside0 (chop_Trap.j0 kq a0 a1 a2 a3 x19_4 = some (r1, r2)) ∧ Aside0 (kq ≤ k) ∧ Aside0 (Below w.heap.size w wc))
 case first =>
  have H := HC5.out
  clear HC5
  replace H := ob_ H
  obtain ⟨t650, A60, H⟩ := H
  replace H : (if t650 = true then ((chop_known.f a1).bind fun t651 => (chop_Trap.j0 k a0 a1 a2 a3 (!t651))) else (chop_Trap.j0 k a0 a1 a2 a3 true)) = some (r1, r2) := H
  have A6 := A_ A60;clear A60
  by_cases c7 : t650 = true
  ·subst c7
   have H1 : ((chop_known.f a1).bind fun t651 => (chop_Trap.j0 k a0 a1 a2 a3 (!t651))) = some (r1, r2) := by rw [if_pos rfl] at H; exact H
   clear H;have H := H1;clear H1
   replace H := ob_ H
   obtain ⟨t651, A80, H⟩ := H
   replace H : (chop_Trap.j0 k a0 a1 a2 a3 (!t651)) = some (r1, r2) := H
   have A8 := A_ A80;clear A80
   have H' := A_ H
   clear H
   go_wp2_with (first | ((with_reducible refine gate_callee (f := 66) rfl ?_); refine goesL_ (some 13) rfl rfl Tryd.func66 (by kernel_rfl) rfl #[.int .i64 a0] rfl mp_ ?_; (with_reducible refine (chop_known.calls a0 true _ A6.out).mono ?_); rintro e w' ⟨rfl, ⟨nd, rfl⟩⟩; refine ⟨_, rfl, ?_⟩) | (go_at_call 66; (with_reducible refine (chop_known.calls a1 t651 _ A8.out).mono ?_); rintro e w' ⟨rfl, ⟨nd, rfl⟩⟩))
   go_meet
   case rel => exact ⟨_, (!t651), sm_, H', ⟨by first | omega | exact Nat.le_refl _⟩, ⟨hb_ HB.out⟩⟩
  ·replace c7 := Bool.eq_false_iff.mpr c7
   subst c7
   have H1 : (chop_Trap.j0 k a0 a1 a2 a3 true) = some (r1, r2) := by rw [if_neg (show ¬ (false = true) by decide)] at H; exact H
   clear H;have H := H1;clear H1
   have H' := A_ H
   clear H
   go_wp2_with (first | ((with_reducible refine gate_callee (f := 66) rfl ?_); refine goesL_ (some 13) rfl rfl Tryd.func66 (by kernel_rfl) rfl #[.int .i64 a0] rfl mp_ ?_; (with_reducible refine (chop_known.calls a0 false _ A6.out).mono ?_); rintro e w' ⟨rfl, ⟨nd, rfl⟩⟩; refine ⟨_, rfl, ?_⟩))
   go_meet
   case rel => exact ⟨_, (true), sm_, H', ⟨by first | omega | exact Nat.le_refl _⟩, ⟨hb_ HB.out⟩⟩
 case rest =>
  clear HC5
  try clear p2
  try clear c3
  try clear c6
  try clear c7
  obtain ⟨kq, x19_4, rfl, HA, HJ4, HB⟩ := hcut
  cases kq with
  | zero => exact absurd HA.out (by simp [chop_Trap.j0])
  | succ kj4 =>
   have H := HA.out
   clear HA
   simp only [chop_Trap.j0] at H
   by_cases c9 : x19_4 = true
   ·subst c9
    have H1 : (some (0, 0)) = some (r1, r2) := by rw [if_pos rfl] at H; exact H
    clear H;have H := H1;clear H1
    simp only [Option.some.injEq, Prod.mk.injEq] at H
    obtain ⟨rfl, rfl⟩ := H
    go_wp2
    go_ret2
    exact ⟨er_, hb_ HB.out⟩
   ·replace c9 := Bool.eq_false_iff.mpr c9
    subst c9
    have H1 : ((chop_chopped.f kj4 a0 a1 a2 a3).bind fun bt652 => (if bt652.2 = 1 then (some (0, 4)) else (if bt652.2 = 2 then (some (0, 3)) else (if bt652.2 = 3 then (some (0, 3)) else (some (bt652.1, 0)))))) = some (r1, r2) := by rw [if_neg (show ¬ (false = true) by decide)] at H; exact H
    clear H;have H := H1;clear H1
    replace H := ob_ H
    obtain ⟨⟨t652, t653⟩, A100, H⟩ := H
    replace H : (if t653 = 1 then (some (0, 4)) else (if t653 = 2 then (some (0, 3)) else (if t653 = 3 then (some (0, 3)) else (some (t652, 0))))) = some (r1, r2) := H
    have A10 := A_ A100;clear A100
    by_cases c11 : t653 = 1
    ·rw [if_pos c11] at H
     have c11b0 : (t653 == 1) = true := beq_iff_eq.mpr c11
     have c11b1 : (t653 != 1) = false := bne_eq_false_iff_eq.mpr c11
     clear c11
     simp only [Option.some.injEq, Prod.mk.injEq] at H
     obtain ⟨rfl, rfl⟩ := H
     go_wp2_with (first | ((with_reducible refine gate_callee (f := 67) rfl ?_); refine goesL_ (some 25) rfl rfl Tryd.func67 (by kernel_rfl) rfl #[.int .i64 a0, .int .i64 a1, .int .u64 a2, .bool a3] rfl mp_ ?_; (with_reducible refine (chop_chopped.calls kj4 a0 a1 a2 a3 t652 t653 _ A10.out).mono ?_); rintro e w12 ⟨rfl, hb⟩; refine ⟨_, rfl, ?_⟩; replace HB := A_ (below_step (hb_ HB.out) hb); (try clear hb); (try clear hb2); (try clear hk); (try clear hi)))
     go_ret2
     exact ⟨er_, hb_ HB.out⟩
    ·rw [if_neg c11] at H
     have c11b0 : (t653 == 1) = false := beq_eq_false_iff_ne.mpr c11
     have c11b1 : (t653 != 1) = true := bne_iff_ne.mpr c11
     by_cases c13 : t653 = 2
     ·rw [if_pos c13] at H
      have c13b0 : (t653 == 2) = true := beq_iff_eq.mpr c13
      have c13b1 : (t653 != 2) = false := bne_eq_false_iff_eq.mpr c13
      clear c13
      simp only [Option.some.injEq, Prod.mk.injEq] at H
      obtain ⟨rfl, rfl⟩ := H
      go_wp2_with (first | ((with_reducible refine gate_callee (f := 67) rfl ?_); refine goesL_ (some 25) rfl rfl Tryd.func67 (by kernel_rfl) rfl #[.int .i64 a0, .int .i64 a1, .int .u64 a2, .bool a3] rfl mp_ ?_; (with_reducible refine (chop_chopped.calls kj4 a0 a1 a2 a3 t652 t653 _ A10.out).mono ?_); rintro e w14 ⟨rfl, hb⟩; refine ⟨_, rfl, ?_⟩; replace HB := A_ (below_step (hb_ HB.out) hb); (try clear hb); (try clear hb2); (try clear hk); (try clear hi)))
      go_ret2
      exact ⟨er_, hb_ HB.out⟩
     ·rw [if_neg c13] at H
      have c13b0 : (t653 == 2) = false := beq_eq_false_iff_ne.mpr c13
      have c13b1 : (t653 != 2) = true := bne_iff_ne.mpr c13
      by_cases c15 : t653 = 3
      ·rw [if_pos c15] at H
       have c15b0 : (t653 == 3) = true := beq_iff_eq.mpr c15
       have c15b1 : (t653 != 3) = false := bne_eq_false_iff_eq.mpr c15
       clear c15
       simp only [Option.some.injEq, Prod.mk.injEq] at H
       obtain ⟨rfl, rfl⟩ := H
       go_wp2_with (first | ((with_reducible refine gate_callee (f := 67) rfl ?_); refine goesL_ (some 25) rfl rfl Tryd.func67 (by kernel_rfl) rfl #[.int .i64 a0, .int .i64 a1, .int .u64 a2, .bool a3] rfl mp_ ?_; (with_reducible refine (chop_chopped.calls kj4 a0 a1 a2 a3 t652 t653 _ A10.out).mono ?_); rintro e w16 ⟨rfl, hb⟩; refine ⟨_, rfl, ?_⟩; replace HB := A_ (below_step (hb_ HB.out) hb); (try clear hb); (try clear hb2); (try clear hk); (try clear hi)))
       go_ret2
       exact ⟨er_, hb_ HB.out⟩
      ·rw [if_neg c15] at H
       have c15b0 : (t653 == 3) = false := beq_eq_false_iff_ne.mpr c15
       have c15b1 : (t653 != 3) = true := bne_iff_ne.mpr c15
       simp only [Option.some.injEq, Prod.mk.injEq] at H
       obtain ⟨rfl, rfl⟩ := H
       go_wp2_with (first | ((with_reducible refine gate_callee (f := 67) rfl ?_); refine goesL_ (some 25) rfl rfl Tryd.func67 (by kernel_rfl) rfl #[.int .i64 a0, .int .i64 a1, .int .u64 a2, .bool a3] rfl mp_ ?_; (with_reducible refine (chop_chopped.calls kj4 a0 a1 a2 a3 t652 t653 _ A10.out).mono ?_); rintro e w17 ⟨rfl, hb⟩; refine ⟨_, rfl, ?_⟩; replace HB := A_ (below_step (hb_ HB.out) hb); (try clear hb); (try clear hb2); (try clear hk); (try clear hi)))
       go_ret2
       exact ⟨er_, hb_ HB.out⟩
def L12_awake.f (k : Nat)  : Option (Bool) := (chop_Trap.f k 64 32 13829653735729319117 false).bind fun bt660 => ((chop_Trap.f k 64 32 13840687554816376832 false).bind fun bt662 => (if bt660.1 = 0 then (if bt660.2 = 0 then (if bt662.2 = 3 then ((chop_Sat.f k 64 32 13840687554816376832 false).bind fun t664 => (if t664 = 0 then ((chop_Sat.f k 64 32 4617315517961601024 true).bind fun t665 => (some (t665 == 5))) else (some false))) else (some false)) else (some false)) else (some false)))
theorem L12_awake.mono : ∀ k, LeO (L12_awake.f k ) (L12_awake.f (k + 1) ) := by
 intro  k
 unfold L12_awake.f
 repeat' first
   | (with_reducible exact chop_Sat.mono _ _ _ _ _)
   | (with_reducible exact chop_Trap.mono _ _ _ _ _)
   | (with_reducible exact LeO.refl _)
   | (with_reducible exact LeO.none _)
   | (with_reducible refine LeO.ite ?_ ?_)
   | (with_reducible refine LeO.bind ?_ (fun _ => ?_))
   | exact chop_Sat.mono _ _ _ _ _
   | exact chop_Trap.mono _ _ _ _ _
   | exact LeO.none _
   | refine LeO.ite ?_ ?_
   | refine LeO.bind ?_ (fun _ => ?_)
theorem L12_awake.calls (k : Nat)  (r : Bool) (w : World) (h : L12_awake.f k  = some r) :
  Calls Tryd.prog 35 #[] w fun e w' => e = .returned (.bool r) ∧ Below w.heap.size w w' := by
 have HB := A_ (Below.refl w.heap.size w)
 have H : ((chop_Trap.f k 64 32 13829653735729319117 false).bind fun bt660 => ((chop_Trap.f k 64 32 13840687554816376832 false).bind fun bt662 => (if bt660.1 = 0 then (if bt660.2 = 0 then (if bt662.2 = 3 then ((chop_Sat.f k 64 32 13840687554816376832 false).bind fun t664 => (if t664 = 0 then ((chop_Sat.f k 64 32 4617315517961601024 true).bind fun t665 => (some (t665 == 5))) else (some false))) else (some false)) else (some false)) else (some false)))) = some r := h
 clear h
 replace H := ob_ H
 obtain ⟨⟨t660, t661⟩, A10, H⟩ := H
 replace H : ((chop_Trap.f k 64 32 13840687554816376832 false).bind fun bt662 => (if t660 = 0 then (if t661 = 0 then (if bt662.2 = 3 then ((chop_Sat.f k 64 32 13840687554816376832 false).bind fun t664 => (if t664 = 0 then ((chop_Sat.f k 64 32 4617315517961601024 true).bind fun t665 => (some (t665 == 5))) else (some false))) else (some false)) else (some false)) else (some false))) = some r := H
 have A1 := A_ A10;clear A10
 replace H := ob_ H
 obtain ⟨⟨t662, t663⟩, A20, H⟩ := H
 replace H : (if t660 = 0 then (if t661 = 0 then (if t663 = 3 then ((chop_Sat.f k 64 32 13840687554816376832 false).bind fun t664 => (if t664 = 0 then ((chop_Sat.f k 64 32 4617315517961601024 true).bind fun t665 => (some (t665 == 5))) else (some false))) else (some false)) else (some false)) else (some false)) = some r := H
 have A2 := A_ A20;clear A20
 by_cases c3 : t660 = 0
 ·rw [if_pos c3] at H
  have c3b0 : (t660 == 0) = true := beq_iff_eq.mpr c3
  have c3b1 : (t660 != 0) = false := bne_eq_false_iff_eq.mpr c3
  clear c3
  by_cases c4 : t661 = 0
  ·rw [if_pos c4] at H
   have c4b0 : (t661 == 0) = true := beq_iff_eq.mpr c4
   have c4b1 : (t661 != 0) = false := bne_eq_false_iff_eq.mpr c4
   clear c4
   by_cases c5 : t663 = 3
   ·rw [if_pos c5] at H
    have c5b0 : (t663 == 3) = true := beq_iff_eq.mpr c5
    have c5b1 : (t663 != 3) = false := bne_eq_false_iff_eq.mpr c5
    clear c5
    replace H := ob_ H
    obtain ⟨t664, A60, H⟩ := H
    replace H : (if t664 = 0 then ((chop_Sat.f k 64 32 4617315517961601024 true).bind fun t665 => (some (t665 == 5))) else (some false)) = some r := H
    have A6 := A_ A60;clear A60
    by_cases c7 : t664 = 0
    ·rw [if_pos c7] at H
     have c7b0 : (t664 == 0) = true := beq_iff_eq.mpr c7
     have c7b1 : (t664 != 0) = false := bne_eq_false_iff_eq.mpr c7
     clear c7
     replace H := ob_ H
     obtain ⟨t665, A80, H⟩ := H
     replace H : (some (t665 == 5)) = some r := H
     have A8 := A_ A80;clear A80
     obtain rfl := Option.some.inj H
     go_enter Tryd.func35, Tryd.ntmps35
     go_wp2_with (first | ((with_reducible refine gate_callee (f := 36) rfl ?_); refine goesL_ (some 6) rfl rfl Tryd.func36 (by kernel_rfl) rfl #[.int .i64 64, .int .i64 32, .int .u64 13829653735729319117, .bool false] rfl mp_ ?_; (with_reducible refine (chop_Trap.calls k 64 32 13829653735729319117 false t660 t661 _ A1.out).mono ?_); rintro e w9 ⟨rfl, hb⟩; refine ⟨_, rfl, ?_⟩; replace HB := A_ (below_step (hb_ HB.out) hb); (try clear hb); (try clear hb2); (try clear hk); (try clear hi)) | ((with_reducible refine gate_callee (f := 36) rfl ?_); refine goesL_ (some 10) rfl rfl Tryd.func36 (by kernel_rfl) rfl #[.int .i64 64, .int .i64 32, .int .u64 13840687554816376832, .bool false] rfl mp_ ?_; (with_reducible refine (chop_Trap.calls k 64 32 13840687554816376832 false t662 t663 _ A2.out).mono ?_); rintro e w10 ⟨rfl, hb⟩; refine ⟨_, rfl, ?_⟩; replace HB := A_ (below_step (hb_ HB.out) hb); (try clear hb); (try clear hb2); (try clear hk); (try clear hi)) | (go_at_call 37; (with_reducible refine (chop_Sat.calls k 64 32 13840687554816376832 false t664 _ A6.out).mono ?_); rintro e w11 ⟨rfl, hb⟩; replace HB := A_ (below_step (hb_ HB.out) hb); (try clear hb); (try clear hb2); (try clear hk); (try clear hi)) | (go_at_call 37; (with_reducible refine (chop_Sat.calls k 64 32 4617315517961601024 true t665 _ A8.out).mono ?_); rintro e w12 ⟨rfl, hb⟩; replace HB := A_ (below_step (hb_ HB.out) hb); (try clear hb); (try clear hb2); (try clear hk); (try clear hi)))
     go_ret
     exact ⟨er_, hb_ HB.out⟩
    ·rw [if_neg c7] at H
     have c7b0 : (t664 == 0) = false := beq_eq_false_iff_ne.mpr c7
     have c7b1 : (t664 != 0) = true := bne_iff_ne.mpr c7
     obtain rfl := Option.some.inj H
     go_enter Tryd.func35, Tryd.ntmps35
     go_wp2_with (first | ((with_reducible refine gate_callee (f := 36) rfl ?_); refine goesL_ (some 6) rfl rfl Tryd.func36 (by kernel_rfl) rfl #[.int .i64 64, .int .i64 32, .int .u64 13829653735729319117, .bool false] rfl mp_ ?_; (with_reducible refine (chop_Trap.calls k 64 32 13829653735729319117 false t660 t661 _ A1.out).mono ?_); rintro e w13 ⟨rfl, hb⟩; refine ⟨_, rfl, ?_⟩; replace HB := A_ (below_step (hb_ HB.out) hb); (try clear hb); (try clear hb2); (try clear hk); (try clear hi)) | ((with_reducible refine gate_callee (f := 36) rfl ?_); refine goesL_ (some 10) rfl rfl Tryd.func36 (by kernel_rfl) rfl #[.int .i64 64, .int .i64 32, .int .u64 13840687554816376832, .bool false] rfl mp_ ?_; (with_reducible refine (chop_Trap.calls k 64 32 13840687554816376832 false t662 t663 _ A2.out).mono ?_); rintro e w14 ⟨rfl, hb⟩; refine ⟨_, rfl, ?_⟩; replace HB := A_ (below_step (hb_ HB.out) hb); (try clear hb); (try clear hb2); (try clear hk); (try clear hi)) | (go_at_call 37; (with_reducible refine (chop_Sat.calls k 64 32 13840687554816376832 false t664 _ A6.out).mono ?_); rintro e w15 ⟨rfl, hb⟩; replace HB := A_ (below_step (hb_ HB.out) hb); (try clear hb); (try clear hb2); (try clear hk); (try clear hi)))
     go_ret
     exact ⟨er_, hb_ HB.out⟩
   ·rw [if_neg c5] at H
    have c5b0 : (t663 == 3) = false := beq_eq_false_iff_ne.mpr c5
    have c5b1 : (t663 != 3) = true := bne_iff_ne.mpr c5
    obtain rfl := Option.some.inj H
    go_enter Tryd.func35, Tryd.ntmps35
    go_wp2_with (first | ((with_reducible refine gate_callee (f := 36) rfl ?_); refine goesL_ (some 6) rfl rfl Tryd.func36 (by kernel_rfl) rfl #[.int .i64 64, .int .i64 32, .int .u64 13829653735729319117, .bool false] rfl mp_ ?_; (with_reducible refine (chop_Trap.calls k 64 32 13829653735729319117 false t660 t661 _ A1.out).mono ?_); rintro e w16 ⟨rfl, hb⟩; refine ⟨_, rfl, ?_⟩; replace HB := A_ (below_step (hb_ HB.out) hb); (try clear hb); (try clear hb2); (try clear hk); (try clear hi)) | ((with_reducible refine gate_callee (f := 36) rfl ?_); refine goesL_ (some 10) rfl rfl Tryd.func36 (by kernel_rfl) rfl #[.int .i64 64, .int .i64 32, .int .u64 13840687554816376832, .bool false] rfl mp_ ?_; (with_reducible refine (chop_Trap.calls k 64 32 13840687554816376832 false t662 t663 _ A2.out).mono ?_); rintro e w17 ⟨rfl, hb⟩; refine ⟨_, rfl, ?_⟩; replace HB := A_ (below_step (hb_ HB.out) hb); (try clear hb); (try clear hb2); (try clear hk); (try clear hi)))
    go_ret
    exact ⟨er_, hb_ HB.out⟩
  ·rw [if_neg c4] at H
   have c4b0 : (t661 == 0) = false := beq_eq_false_iff_ne.mpr c4
   have c4b1 : (t661 != 0) = true := bne_iff_ne.mpr c4
   obtain rfl := Option.some.inj H
   go_enter Tryd.func35, Tryd.ntmps35
   go_wp2_with (first | ((with_reducible refine gate_callee (f := 36) rfl ?_); refine goesL_ (some 6) rfl rfl Tryd.func36 (by kernel_rfl) rfl #[.int .i64 64, .int .i64 32, .int .u64 13829653735729319117, .bool false] rfl mp_ ?_; (with_reducible refine (chop_Trap.calls k 64 32 13829653735729319117 false t660 t661 _ A1.out).mono ?_); rintro e w18 ⟨rfl, hb⟩; refine ⟨_, rfl, ?_⟩; replace HB := A_ (below_step (hb_ HB.out) hb); (try clear hb); (try clear hb2); (try clear hk); (try clear hi)) | ((with_reducible refine gate_callee (f := 36) rfl ?_); refine goesL_ (some 10) rfl rfl Tryd.func36 (by kernel_rfl) rfl #[.int .i64 64, .int .i64 32, .int .u64 13840687554816376832, .bool false] rfl mp_ ?_; (with_reducible refine (chop_Trap.calls k 64 32 13840687554816376832 false t662 t663 _ A2.out).mono ?_); rintro e w19 ⟨rfl, hb⟩; refine ⟨_, rfl, ?_⟩; replace HB := A_ (below_step (hb_ HB.out) hb); (try clear hb); (try clear hb2); (try clear hk); (try clear hi)))
   go_ret
   exact ⟨er_, hb_ HB.out⟩
 ·rw [if_neg c3] at H
  have c3b0 : (t660 == 0) = false := beq_eq_false_iff_ne.mpr c3
  have c3b1 : (t660 != 0) = true := bne_iff_ne.mpr c3
  obtain rfl := Option.some.inj H
  go_enter Tryd.func35, Tryd.ntmps35
  go_wp2_with (first | ((with_reducible refine gate_callee (f := 36) rfl ?_); refine goesL_ (some 6) rfl rfl Tryd.func36 (by kernel_rfl) rfl #[.int .i64 64, .int .i64 32, .int .u64 13829653735729319117, .bool false] rfl mp_ ?_; (with_reducible refine (chop_Trap.calls k 64 32 13829653735729319117 false t660 t661 _ A1.out).mono ?_); rintro e w20 ⟨rfl, hb⟩; refine ⟨_, rfl, ?_⟩; replace HB := A_ (below_step (hb_ HB.out) hb); (try clear hb); (try clear hb2); (try clear hk); (try clear hi)) | ((with_reducible refine gate_callee (f := 36) rfl ?_); refine goesL_ (some 10) rfl rfl Tryd.func36 (by kernel_rfl) rfl #[.int .i64 64, .int .i64 32, .int .u64 13840687554816376832, .bool false] rfl mp_ ?_; (with_reducible refine (chop_Trap.calls k 64 32 13840687554816376832 false t662 t663 _ A2.out).mono ?_); rintro e w21 ⟨rfl, hb⟩; refine ⟨_, rfl, ?_⟩; replace HB := A_ (below_step (hb_ HB.out) hb); (try clear hb); (try clear hb2); (try clear hk); (try clear hi)))
  go_ret
  exact ⟨er_, hb_ HB.out⟩
end Go.Proofs.YthdeeoallfbjmaaDoor.PA
