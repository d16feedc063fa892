/- What the Go functions that the statement NumericSwaps reaches compute, and the mathematics on it, in the order in which one leans on the other; for every input. -/
import Derived.Test.YtnmlmgmljoncoaaGreatDoorVNumericSwaps0
import Derived.Test.YtnmlmgmljoncoaaGreatDoorMNumericSwaps0
import Derived.Test.YtnmlmgmljoncoaaGreatDoorMNumericSwaps3
import Derived.Test.YtnmlmgmljoncoaaGreatDoorMNumericSwaps4
namespace Go.Proofs.YtnmlmgmljoncoaaGreatDoor.PA
open Go.RowKit Go.Proofs.YtnmlmgmljoncoaaGreatDoorW.PrintWords Go.Proofs.YtnmlmgmljoncoaaGreatDoorW.PrintLast Go.Proofs.YtnmlmgmljoncoaaGreatDoorW.PrintMore
attribute [local go_sem] max2_int min2_int max_two min_two max_three min_three max_four min_four   -- for this text's walks alone
set_option linter.unusedVariables false
set_option linter.unusedSimpArgs false
set_option maxHeartbeats 8000000
set_option maxRecDepth 100000
def sum_align.f (a0_0 : Bool) (a0_1 : Int) (a0_2 : Int) (a0_3 : Int) (a1_0 : Bool) (a1_1 : Int) (a1_2 : Int) (a1_3 : Int) : Option (Int × Int × Int × Int × Int × Bool) := (wide_Of.f a0_3).bind fun bt394 => ((wide_Left.f bt394.1 bt394.2 (mn (wrap64 (a0_2 - a1_2)) 64)).bind fun bt396 => ((wide_Of.f a1_3).bind fun bt399 => ((wide_Right.f bt399.1 bt399.2 (wrap64 ((wrap64 (a0_2 - a1_2)) - (mn (wrap64 (a0_2 - a1_2)) 64)))).bind fun bt401 => (some (bt396.1, bt396.2, bt401.1, bt401.2.1, wrap64 (a0_2 - (mn (wrap64 (a0_2 - a1_2)) 64)), bt401.2.2)))))
def sum_align.T3 : Bool × List (List Nat × List Nat) := (true, [([], []), ([0], [0]), ([1], [1]), ([], []), ([2, 3, 2], [2, 3]), ([], []), ([5], [5]), ([], []), ([6, 7], [6, 7]), ([4, 8], [4, 8]), ([], []), ([10, 9, 4, 0, 1, 2, 3, 4, 5, 6, 7, 8, 9, 10], [9, 10])])
def sum_align.B3 : List Nat := [0, 1, 3, 0, 15, 0, 32, 0, 224, 511, 0, 2047]
theorem sum_align.tab3 : rtab .any (opsOf Tryz.f247 3) = sum_align.T3 := by kernel_rfl
theorem sum_align.bits3 : waitsOk sum_align.T3.2 sum_align.B3 = true := by kernel_rfl
theorem sum_align.calls (a0_0 : Bool) (a0_1 : Int) (a0_2 : Int) (a0_3 : Int) (a1_0 : Bool) (a1_1 : Int) (a1_2 : Int) (a1_3 : Int) (r1 : Int) (r2 : Int) (r3 : Int) (r4 : Int) (r5 : Int) (r6 : Bool) (w : World) (h : sum_align.f a0_0 a0_1 a0_2 a0_3 a1_0 a1_1 a1_2 a1_3 = some (r1, r2, r3, r4, r5, r6)) :
  Calls Tryz.prog 247 #[.agg #[.bool a0_0, .int .i64 a0_1, .int .i64 a0_2, .int .u64 a0_3], .agg #[.bool a1_0, .int .i64 a1_1, .int .i64 a1_2, .int .u64 a1_3]] w fun e w' => e = .returned (.agg #[.int .u64 r1, .int .u64 r2, .int .u64 r3, .int .u64 r4, .int .i64 r5, .bool r6]) ∧ Below w.heap.size w w' := by
 have hu27 := Tryz.underlying27
 have hu202 := Tryz.underlying202
 have hu166 := Tryz.underlying166
 have HB := A_ (Below.refl w.heap.size w)
 have H : ((wide_Of.f a0_3).bind fun bt394 => ((wide_Left.f bt394.1 bt394.2 (mn (wrap64 (a0_2 - a1_2)) 64)).bind fun bt396 => ((wide_Of.f a1_3).bind fun bt399 => ((wide_Right.f bt399.1 bt399.2 (wrap64 ((wrap64 (a0_2 - a1_2)) - (mn (wrap64 (a0_2 - a1_2)) 64)))).bind fun bt401 => (some (bt396.1, bt396.2, bt401.1, bt401.2.1, wrap64 (a0_2 - (mn (wrap64 (a0_2 - a1_2)) 64)), bt401.2.2)))))) = some (r1, r2, r3, r4, r5, r6) := h
 clear h
 obtain ⟨ji3, hji3⟩ : ∃ j_ : Int, (mn (wrap64 (a0_2 - a1_2)) 64) = j_ := ⟨_, rfl⟩
 replace H : ((wide_Of.f a0_3).bind fun bt394 => ((wide_Left.f bt394.1 bt394.2 (ji3)).bind fun bt396 => ((wide_Of.f a1_3).bind fun bt399 => ((wide_Right.f bt399.1 bt399.2 (wrap64 ((wrap64 (a0_2 - a1_2)) - (ji3)))).bind fun bt401 => (some (bt396.1, bt396.2, bt401.1, bt401.2.1, wrap64 (a0_2 - (ji3)), bt401.2.2)))))) = some (r1, r2, r3, r4, r5, r6) := by first | (rw [hji3] at H; exact H) | (simp only [hji3] at H ⊢; exact H)
 (try (have hji3h : ji3 ≤ 64 := by (rw [← hji3]; unfold mn; (repeat' split) <;> omega)))
 (try (have hji3g : ji3 ≤ 64 := by omega))
 have hji3_ : (if 64 < (wrap64 (a0_2 - a1_2)) then 64 else (wrap64 (a0_2 - a1_2))) = ji3 := hji3
 replace H := ob_ H
 obtain ⟨⟨t394, t395⟩, A40, H⟩ := H
 replace H : ((wide_Left.f t394 t395 (ji3)).bind fun bt396 => ((wide_Of.f a1_3).bind fun bt399 => ((wide_Right.f bt399.1 bt399.2 (wrap64 ((wrap64 (a0_2 - a1_2)) - (ji3)))).bind fun bt401 => (some (bt396.1, bt396.2, bt401.1, bt401.2.1, wrap64 (a0_2 - (ji3)), bt401.2.2))))) = some (r1, r2, r3, r4, r5, r6) := H
 have A4 := A_ A40;clear A40
 replace H := ob_ H
 obtain ⟨⟨t396, t397⟩, A50, H⟩ := H
 replace H : ((wide_Of.f a1_3).bind fun bt399 => ((wide_Right.f bt399.1 bt399.2 (wrap64 ((wrap64 (a0_2 - a1_2)) - (ji3)))).bind fun bt401 => (some (t396, t397, bt401.1, bt401.2.1, wrap64 (a0_2 - (ji3)), bt401.2.2)))) = some (r1, r2, r3, r4, r5, r6) := H
 have A5 := A_ A50;clear A50
 replace H := ob_ H
 obtain ⟨⟨t399, t400⟩, A60, H⟩ := H
 replace H : ((wide_Right.f t399 t400 (wrap64 ((wrap64 (a0_2 - a1_2)) - (ji3)))).bind fun bt401 => (some (t396, t397, bt401.1, bt401.2.1, wrap64 (a0_2 - (ji3)), bt401.2.2))) = some (r1, r2, r3, r4, r5, r6) := H
 have A6 := A_ A60;clear A60
 replace H := ob_ H
 obtain ⟨⟨t401, t402, t403⟩, A70, H⟩ := H
 replace H : (some (t396, t397, t401, t402, wrap64 (a0_2 - (ji3)), t403)) = some (r1, r2, r3, r4, r5, r6) := H
 have A7 := A_ A70;clear A70
 simp only [Option.some.injEq, Prod.mk.injEq] at H
 obtain ⟨rfl, rfl, rfl, rfl, rfl, rfl⟩ := H
 go_enter Tryz.func247, Tryz.ntmps247
 try go_wp2_with (first | ((with_reducible refine gate_dst (N := 2) rfl ?_); refine be_ 2 #[.bool a0_0, .int .i64 a0_1, .int .i64 a0_2, .int .u64 a0_3] 27 ?_; intro gb391 hg w8 hbox hb; have BK391 := A_ (hbox); have GW391 := A_ (sz_ hg (hb_ HB.out)); have GE391 := A_ (sz_ hg (hb_ HB.out)); replace HB := A_ (below_step (hb_ HB.out) hb); clear hb hbox hg) | ((with_reducible refine gate_dst (N := 3) rfl ?_); refine be_ 3 #[.bool a1_0, .int .i64 a1_1, .int .i64 a1_2, .int .u64 a1_3] 27 ?_; intro gb392 hg w9 hbox hb; have BK392 := A_ (hbox); have GW392 := A_ (sz_ hg (hb1_ HB.out GE391.out)); have GE392 := A_ (sz_ hg (hb1_ HB.out GE391.out)); have NB391_392 := A_ (nl_ hg BK391.out); have NB392_391 := A_ (ng_ hg BK391.out); replace BK391 := A_ (bb_ BK391.out hb); replace HB := A_ (below_step (hb1_ HB.out GE391.out) hb); clear hb hbox hg) | ((with_reducible refine gate_dst (N := 4) rfl ?_); refine be_ 4 #[.int .u64 0, .int .u64 0, .int .u64 0, .int .u64 0, .int .i64 0, .bool false] 202 ?_; intro gb393 hg w10 hbox hb; have BK393 := A_ (hbox); have GW393 := A_ (sz_ hg (hb2_ HB.out GE391.out GE392.out)); have GE393 := A_ (sz_ hg (hb2_ HB.out GE391.out GE392.out)); have NB391_393 := A_ (nl_ hg BK391.out); have NB393_391 := A_ (ng_ hg BK391.out); have NB392_393 := A_ (nl_ hg BK392.out); have NB393_392 := A_ (ng_ hg BK392.out); replace BK391 := A_ (bb_ BK391.out hb); replace BK392 := A_ (bb_ BK392.out hb); replace HB := A_ (below_step (hb2_ HB.out GE391.out GE392.out) hb); clear hb hbox hg; have hnb11 := NB391_392.out; have hnc11 := NB392_391.out; have hnb12 := NB391_393.out; have hnc12 := NB393_391.out; have hcz13_0 := bv_ BK391.out 0; have hcz13_1 := bv_ BK391.out 1; have hcz13_2 := bv_ BK391.out 2; have hcz13_3 := bv_ BK391.out 3; have hfz13_0 := blk_frozen BK391.out 0; have hfz13_1 := blk_frozen BK391.out 1; have hfz13_2 := blk_frozen BK391.out 2; have hfz13_3 := blk_frozen BK391.out 3; have hnb14 := NB392_393.out; have hnc14 := NB393_392.out; have hcz15_0 := bv_ BK392.out 0; have hcz15_1 := bv_ BK392.out 1; have hcz15_2 := bv_ BK392.out 2; have hcz15_3 := bv_ BK392.out 3; have hfz15_0 := blk_frozen BK392.out 0; have hfz15_1 := blk_frozen BK392.out 1; have hfz15_2 := blk_frozen BK392.out 2; have hfz15_3 := blk_frozen BK392.out 3))
 replace BK391 := A_ (blk_drew BK391.out)
 replace BK392 := A_ (blk_drew BK392.out)
 replace BK393 := A_ (blk_drew BK393.out)
 replace HB := A_ (below_drew1 HB.out)
 refine start_ (n := 12) (S := fun w' => w'.cell? ⟨gb391, 0, none⟩ = some (.bool a0_0) ∧ w'.cell? ⟨gb391, 1, none⟩ = some (.int .i64 a0_1) ∧ w'.cell? ⟨gb391, 2, none⟩ = some (.int .i64 a0_2) ∧ w'.cell? ⟨gb391, 3, none⟩ = some (.int .u64 a0_3)) (ds := []) #[false, false, false, false, false, false, false, false, false, false, false, false] (by kernel_rfl) rfl rfl ⟨bc_ BK391.out 0, bc_ BK391.out 1, bc_ BK391.out 2, bc_ BK391.out 3⟩ (fun hHeld => ?_); refine with_tabW sum_align.tab3 sum_align.bits3 (fun HT_ HW_ => ?_)
 generalize w10.drew = w16 at BK391 BK392 BK393 HB hHeld ⊢
 refine pu_ 0 (some 15) #[true, false, false, false, false, false, false, false, false, false, false, false] rfl rfl (any_of HT_.out (by kernel_rfl)) ?_
 refine pu_ 3 (some 18) #[true, false, false, true, false, false, false, false, false, false, false, false] rfl rfl (any_of HT_.out (by kernel_rfl)) ?_
 refine pu_ 5 (some 20) #[true, false, false, true, false, true, false, false, false, false, false, false] rfl rfl (any_of HT_.out (by kernel_rfl)) ?_
 refine pu_ 7 (some 22) #[true, false, false, true, false, true, false, true, false, false, false, false] rfl rfl (any_of HT_.out (by kernel_rfl)) ?_
 refine tk4_ 1 (some 16) #[true, true, false, true, false, true, false, true, false, false, false, false] rfl rfl (take_ofW HT_.out HW_.out (by kernel_rfl)) hHeld ?_
 refine tk4_ 6 (some 21) #[true, true, false, true, false, true, true, true, false, false, false, false] rfl rfl (take_ofW HT_.out HW_.out (by kernel_rfl)) hHeld ?_
 refine pu_ 8 (some 23) #[true, true, false, true, false, true, true, true, true, false, false, false] rfl rfl (any_of HT_.out (by kernel_rfl)) ?_
 refine join_ (σ := Nat) 1 #[true, true, true, true, true, true, true, true, true, true, true, false] (fun s_ => [(17, .agg #[.int .u64 t394, .int .u64 t395]), (19, .agg #[.int .u64 t396, .int .u64 t397]), (7, .pointer (some ⟨s_, 0, none⟩)), (24, .agg #[.int .u64 t396, .int .u64 t397, .int .u64 0, .int .u64 0, .int .i64 (wrap64 (a0_2 - (ji3))), .bool false])]) (fun s_ w' => (w'.cell? ⟨gb391, 0, none⟩ = some (.bool a0_0) ∧ w'.cell? ⟨gb391, 1, none⟩ = some (.int .i64 a0_1) ∧ w'.cell? ⟨gb391, 2, none⟩ = some (.int .i64 a0_2) ∧ w'.cell? ⟨gb391, 3, none⟩ = some (.int .u64 a0_3)) ∧ (w'.heap[gb391]? = some (.cells #[.bool a0_0, .int .i64 a0_1, .int .i64 a0_2, .int .u64 a0_3] 27 (0, 0))) ∧ (w'.heap[gb392]? = some (.cells #[.bool a1_0, .int .i64 a1_1, .int .i64 a1_2, .int .u64 a1_3] 27 (0, 0))) ∧ (w'.heap[gb393]? = some (.cells #[.int .u64 0, .int .u64 0, .int .u64 0, .int .u64 0, .int .i64 0, .bool false] 202 (0, 0))) ∧ (w'.heap[s_]? = some (.cells #[.int .u64 0, .int .u64 0, .int .u64 0, .int .u64 0, .int .i64 0, .bool false] 202 (0, 0))) ∧ (w.heap.size ≤ s_) ∧ (w.heap.size ≤ s_) ∧ (gb391 ≠ s_) ∧ (s_ ≠ gb391) ∧ (gb392 ≠ s_) ∧ (s_ ≠ gb392) ∧ (gb393 ≠ s_) ∧ (s_ ≠ gb393) ∧ (Below w.heap.size w w')) ?_ ?_
 rotate_left
 ·intro hCont
  refine two_ (i := 2) (j := 10) (Ni := some 17) (Nj := some 7) #[true, true, true, true, false, true, true, true, true, false, false, false] #[true, true, false, true, false, true, true, true, true, false, true, false] rfl rfl rfl rfl (two_of HT_.out (by kernel_rfl)) (by decide) (by decide) (fun K hK => ?_) (fun K hK => ?_)
  ·skip
   refine goes_ Tryz.func215 (by kernel_rfl) rfl #[.int .u64 a0_3] (by rfl) rfl rfl mp_ ?_
   with_reducible refine (wide_Of.calls a0_3 t394 t395 _ A4.out).mono ?_
   rintro e w17 ⟨rfl, hb⟩
   refine ⟨_, rfl, ?_⟩
   replace BK391 := A_ (bb_ BK391.out hb)
   replace BK392 := A_ (bb_ BK392.out hb)
   replace BK393 := A_ (bb_ BK393.out hb)
   replace HB := A_ (below_step (hb3_ HB.out GE391.out GE392.out GE393.out) hb);(try clear hb);(try clear hb2);(try clear hk);(try clear hi)
   refine hK.out _ _ ⟨bc_ BK391.out 0, bc_ BK391.out 1, bc_ BK391.out 2, bc_ BK391.out 3⟩ (fun hHeld => ?_)
   clear hK K
   refine norm_ (a' := ?_) ?_ ?_
   rotate_left
   ·show Act.put _ (some 17) _ = _
    simp only [Act.put, lI_, l0_, lS_, i64_w, i32_w]
    rfl
   refine two_ (i := 4) (j := 10) (Ni := some 19) (Nj := some 7) #[true, true, true, true, true, true, true, true, true, false, false, false] #[true, true, true, true, false, true, true, true, true, false, true, false] rfl rfl rfl rfl (two_of HT_.out (by kernel_rfl)) (by decide) (by decide) (fun K hK => ?_) (fun K hK => ?_)
   ·skip
    refine goes_ Tryz.func242 (by kernel_rfl) rfl #[.agg #[.int .u64 t394, .int .u64 t395], .int .i64 ji3] (by rfl) rfl rfl (by (try simp only [List.map_toArray, List.map_cons, List.map_nil]); first | done | (simp only [hji3]; rfl) | rfl | (simp only [List.length_drop, List.length_take]; rfl)) ?_
    with_reducible refine (wide_Left.calls t394 t395 ji3 t396 t397 _ A5.out).mono ?_
    rintro e w18 ⟨rfl, hb⟩
    refine ⟨_, rfl, ?_⟩
    replace BK391 := A_ (bb_ BK391.out hb)
    replace BK392 := A_ (bb_ BK392.out hb)
    replace BK393 := A_ (bb_ BK393.out hb)
    replace HB := A_ (below_step (hb3_ HB.out GE391.out GE392.out GE393.out) hb);(try clear hb);(try clear hb2);(try clear hk);(try clear hi)
    refine hK.out _ _ ⟨bc_ BK391.out 0, bc_ BK391.out 1, bc_ BK391.out 2, bc_ BK391.out 3⟩ (fun hHeld => ?_)
    clear hK K
    refine norm_ (a' := ?_) ?_ ?_
    rotate_left
    ·show Act.put _ (some 19) _ = _
     simp only [Act.put, lI_, l0_, lS_, i64_w, i32_w]
     rfl
    refine pu_ 9 (some 24) #[true, true, true, true, true, true, true, true, true, true, false, false] rfl rfl (any_of HT_.out (by kernel_rfl)) ?_
    refine one_ (i := 10) (N := some 7) #[true, true, true, true, true, true, true, true, true, true, true, false] rfl rfl (one_of HT_.out (by kernel_rfl)) (by decide) (fun K hK => ?_)
    refine box_step ?hg (N := 7) ?hd (cs := #[.int .u64 0, .int .u64 0, .int .u64 0, .int .u64 0, .int .i64 0, .bool false]) (t := 202) ?hr ?_; (case hd => rfl); (case hg => rfl); (case hr => first | (go_simp; done) | (go_simp; rfl))
    intro gb398 hg w19 hbox hb
    have BK398 := A_ (hbox)
    have GW398 := A_ (sz_ hg (hb3_ HB.out GE391.out GE392.out GE393.out))
    have GE398 := A_ (sz_ hg (hb3_ HB.out GE391.out GE392.out GE393.out))
    have NB391_398 := A_ (nl_ hg BK391.out)
    have NB398_391 := A_ (ng_ hg BK391.out)
    have NB392_398 := A_ (nl_ hg BK392.out)
    have NB398_392 := A_ (ng_ hg BK392.out)
    have NB393_398 := A_ (nl_ hg BK393.out)
    have NB398_393 := A_ (ng_ hg BK393.out)
    replace BK391 := A_ (bb_ BK391.out hb)
    replace BK392 := A_ (bb_ BK392.out hb)
    replace BK393 := A_ (bb_ BK393.out hb)
    replace HB := A_ (below_step (hb3_ HB.out GE391.out GE392.out GE393.out) hb);clear hb hbox hg
    refine hK.out _ _ ⟨bc_ BK391.out 0, bc_ BK391.out 1, bc_ BK391.out 2, bc_ BK391.out 3⟩ (fun hHeld => ?_)
    clear hK K
    refine norm_ (a' := ?_) ?_ ?_
    rotate_left
    ·show Act.put _ (some 7) _ = _
     simp only [Act.put, lI_, l0_, lS_, i64_w, i32_w]
     rfl
    exact norm_ (by simp only [putAll, Act.put, lI_, l0_, lS_]) (hCont (gb398) _ ⟨hHeld, (bk_ BK391.out), (bk_ BK392.out), (bk_ BK393.out), (bk_ BK398.out), GW398.out, GE398.out, NB391_398.out, NB398_391.out, NB392_398.out, NB398_392.out, NB393_398.out, NB398_393.out, (hb4_ HB.out GE391.out GE392.out GE393.out GE398.out)⟩)
   ·skip
    refine box_step ?hg (N := 7) ?hd (cs := #[.int .u64 0, .int .u64 0, .int .u64 0, .int .u64 0, .int .i64 0, .bool false]) (t := 202) ?hr ?_; (case hd => rfl); (case hg => rfl); (case hr => first | (go_simp; done) | (go_simp; rfl))
    intro gb398 hg w18 hbox hb
    have BK398 := A_ (hbox)
    have GW398 := A_ (sz_ hg (hb3_ HB.out GE391.out GE392.out GE393.out))
    have GE398 := A_ (sz_ hg (hb3_ HB.out GE391.out GE392.out GE393.out))
    have NB391_398 := A_ (nl_ hg BK391.out)
    have NB398_391 := A_ (ng_ hg BK391.out)
    have NB392_398 := A_ (nl_ hg BK392.out)
    have NB398_392 := A_ (ng_ hg BK392.out)
    have NB393_398 := A_ (nl_ hg BK393.out)
    have NB398_393 := A_ (ng_ hg BK393.out)
    replace BK391 := A_ (bb_ BK391.out hb)
    replace BK392 := A_ (bb_ BK392.out hb)
    replace BK393 := A_ (bb_ BK393.out hb)
    replace HB := A_ (below_step (hb3_ HB.out GE391.out GE392.out GE393.out) hb);clear hb hbox hg
    refine hK.out _ _ ⟨bc_ BK391.out 0, bc_ BK391.out 1, bc_ BK391.out 2, bc_ BK391.out 3⟩ (fun hHeld => ?_)
    clear hK K
    refine norm_ (a' := ?_) ?_ ?_
    rotate_left
    ·show Act.put _ (some 7) _ = _
     simp only [Act.put, lI_, l0_, lS_, i64_w, i32_w]
     rfl
    refine one_ (i := 4) (N := some 19) #[true, true, true, true, true, true, true, true, true, false, true, false] rfl rfl (one_of HT_.out (by kernel_rfl)) (by decide) (fun K hK => ?_)
    refine goes_ Tryz.func242 (by kernel_rfl) rfl #[.agg #[.int .u64 t394, .int .u64 t395], .int .i64 ji3] (by rfl) rfl rfl (by (try simp only [List.map_toArray, List.map_cons, List.map_nil]); first | done | (simp only [hji3]; rfl) | rfl | (simp only [List.length_drop, List.length_take]; rfl)) ?_
    with_reducible refine (wide_Left.calls t394 t395 ji3 t396 t397 _ A5.out).mono ?_
    rintro e w19 ⟨rfl, hb⟩
    refine ⟨_, rfl, ?_⟩
    replace BK391 := A_ (bb_ BK391.out hb)
    replace BK392 := A_ (bb_ BK392.out hb)
    replace BK393 := A_ (bb_ BK393.out hb)
    replace BK398 := A_ (bb_ BK398.out hb)
    replace HB := A_ (below_step (hb4_ HB.out GE391.out GE392.out GE393.out GE398.out) hb);(try clear hb);(try clear hb2);(try clear hk);(try clear hi)
    refine hK.out _ _ ⟨bc_ BK391.out 0, bc_ BK391.out 1, bc_ BK391.out 2, bc_ BK391.out 3⟩ (fun hHeld => ?_)
    clear hK K
    refine norm_ (a' := ?_) ?_ ?_
    rotate_left
    ·show Act.put _ (some 19) _ = _
     simp only [Act.put, lI_, l0_, lS_, i64_w, i32_w]
     rfl
    refine pu_ 9 (some 24) #[true, true, true, true, true, true, true, true, true, true, true, false] rfl rfl (any_of HT_.out (by kernel_rfl)) ?_
    exact norm_ (by simp only [putAll, Act.put, lI_, l0_, lS_]) (hCont (gb398) _ ⟨hHeld, (bk_ BK391.out), (bk_ BK392.out), (bk_ BK393.out), (bk_ BK398.out), GW398.out, GE398.out, NB391_398.out, NB398_391.out, NB392_398.out, NB398_392.out, NB393_398.out, NB398_393.out, (hb4_ HB.out GE391.out GE392.out GE393.out GE398.out)⟩)
  ·skip
   refine box_step ?hg (N := 7) ?hd (cs := #[.int .u64 0, .int .u64 0, .int .u64 0, .int .u64 0, .int .i64 0, .bool false]) (t := 202) ?hr ?_; (case hd => rfl); (case hg => rfl); (case hr => first | (go_simp; done) | (go_simp; rfl))
   intro gb398 hg w17 hbox hb
   have BK398 := A_ (hbox)
   have GW398 := A_ (sz_ hg (hb3_ HB.out GE391.out GE392.out GE393.out))
   have GE398 := A_ (sz_ hg (hb3_ HB.out GE391.out GE392.out GE393.out))
   have NB391_398 := A_ (nl_ hg BK391.out)
   have NB398_391 := A_ (ng_ hg BK391.out)
   have NB392_398 := A_ (nl_ hg BK392.out)
   have NB398_392 := A_ (ng_ hg BK392.out)
   have NB393_398 := A_ (nl_ hg BK393.out)
   have NB398_393 := A_ (ng_ hg BK393.out)
   replace BK391 := A_ (bb_ BK391.out hb)
   replace BK392 := A_ (bb_ BK392.out hb)
   replace BK393 := A_ (bb_ BK393.out hb)
   replace HB := A_ (below_step (hb3_ HB.out GE391.out GE392.out GE393.out) hb);clear hb hbox hg
   refine hK.out _ _ ⟨bc_ BK391.out 0, bc_ BK391.out 1, bc_ BK391.out 2, bc_ BK391.out 3⟩ (fun hHeld => ?_)
   clear hK K
   refine norm_ (a' := ?_) ?_ ?_
   rotate_left
   ·show Act.put _ (some 7) _ = _
    simp only [Act.put, lI_, l0_, lS_, i64_w, i32_w]
    rfl
   refine one_ (i := 2) (N := some 17) #[true, true, true, true, false, true, true, true, true, false, true, false] rfl rfl (one_of HT_.out (by kernel_rfl)) (by decide) (fun K hK => ?_)
   refine goes_ Tryz.func215 (by kernel_rfl) rfl #[.int .u64 a0_3] (by rfl) rfl rfl mp_ ?_
   with_reducible refine (wide_Of.calls a0_3 t394 t395 _ A4.out).mono ?_
   rintro e w18 ⟨rfl, hb⟩
   refine ⟨_, rfl, ?_⟩
   replace BK391 := A_ (bb_ BK391.out hb)
   replace BK392 := A_ (bb_ BK392.out hb)
   replace BK393 := A_ (bb_ BK393.out hb)
   replace BK398 := A_ (bb_ BK398.out hb)
   replace HB := A_ (below_step (hb4_ HB.out GE391.out GE392.out GE393.out GE398.out) hb);(try clear hb);(try clear hb2);(try clear hk);(try clear hi)
   refine hK.out _ _ ⟨bc_ BK391.out 0, bc_ BK391.out 1, bc_ BK391.out 2, bc_ BK391.out 3⟩ (fun hHeld => ?_)
   clear hK K
   refine norm_ (a' := ?_) ?_ ?_
   rotate_left
   ·show Act.put _ (some 17) _ = _
    simp only [Act.put, lI_, l0_, lS_, i64_w, i32_w]
    rfl
   refine one_ (i := 4) (N := some 19) #[true, true, true, true, true, true, true, true, true, false, true, false] rfl rfl (one_of HT_.out (by kernel_rfl)) (by decide) (fun K hK => ?_)
   refine goes_ Tryz.func242 (by kernel_rfl) rfl #[.agg #[.int .u64 t394, .int .u64 t395], .int .i64 ji3] (by rfl) rfl rfl (by (try simp only [List.map_toArray, List.map_cons, List.map_nil]); first | done | (simp only [hji3]; rfl) | rfl | (simp only [List.length_drop, List.length_take]; rfl)) ?_
   with_reducible refine (wide_Left.calls t394 t395 ji3 t396 t397 _ A5.out).mono ?_
   rintro e w19 ⟨rfl, hb⟩
   refine ⟨_, rfl, ?_⟩
   replace BK391 := A_ (bb_ BK391.out hb)
   replace BK392 := A_ (bb_ BK392.out hb)
   replace BK393 := A_ (bb_ BK393.out hb)
   replace BK398 := A_ (bb_ BK398.out hb)
   replace HB := A_ (below_step (hb4_ HB.out GE391.out GE392.out GE393.out GE398.out) hb);(try clear hb);(try clear hb2);(try clear hk);(try clear hi)
   refine hK.out _ _ ⟨bc_ BK391.out 0, bc_ BK391.out 1, bc_ BK391.out 2, bc_ BK391.out 3⟩ (fun hHeld => ?_)
   clear hK K
   refine norm_ (a' := ?_) ?_ ?_
   rotate_left
   ·show Act.put _ (some 19) _ = _
    simp only [Act.put, lI_, l0_, lS_, i64_w, i32_w]
    rfl
   refine pu_ 9 (some 24) #[true, true, true, true, true, true, true, true, true, true, true, false] rfl rfl (any_of HT_.out (by kernel_rfl)) ?_
   exact norm_ (by simp only [putAll, Act.put, lI_, l0_, lS_]) (hCont (gb398) _ ⟨hHeld, (bk_ BK391.out), (bk_ BK392.out), (bk_ BK393.out), (bk_ BK398.out), GW398.out, GE398.out, NB391_398.out, NB398_391.out, NB392_398.out, NB398_392.out, NB393_398.out, NB398_393.out, (hb4_ HB.out GE391.out GE392.out GE393.out GE398.out)⟩)
 rintro gb398 w20 ⟨hS_, h0_, h1_, h2_, h3_, h4_, h5_, h6_, h7_, h8_, h9_, h10_, h11_, h12_⟩
 have n0_ : Aside0 (w20.heap[gb391]? = some (.cells #[.bool a0_0, .int .i64 a0_1, .int .i64 a0_2, .int .u64 a0_3] 27 (0, 0))) := ⟨h0_⟩
 have n1_ : Aside0 (w20.heap[gb392]? = some (.cells #[.bool a1_0, .int .i64 a1_1, .int .i64 a1_2, .int .u64 a1_3] 27 (0, 0))) := ⟨h1_⟩
 have n2_ : Aside0 (w20.heap[gb393]? = some (.cells #[.int .u64 0, .int .u64 0, .int .u64 0, .int .u64 0, .int .i64 0, .bool false] 202 (0, 0))) := ⟨h2_⟩
 have n3_ : Aside0 (w20.heap[gb398]? = some (.cells #[.int .u64 0, .int .u64 0, .int .u64 0, .int .u64 0, .int .i64 0, .bool false] 202 (0, 0))) := ⟨h3_⟩
 have n4_ : Aside0 (w.heap.size ≤ gb398) := ⟨h4_⟩
 have n5_ : Aside0 (w.heap.size ≤ gb398) := ⟨h5_⟩
 have n6_ : Aside0 (gb391 ≠ gb398) := ⟨h6_⟩
 have n7_ : Aside0 (gb398 ≠ gb391) := ⟨h7_⟩
 have n8_ : Aside0 (gb392 ≠ gb398) := ⟨h8_⟩
 have n9_ : Aside0 (gb398 ≠ gb392) := ⟨h9_⟩
 have n10_ : Aside0 (gb393 ≠ gb398) := ⟨h10_⟩
 have n11_ : Aside0 (gb398 ≠ gb393) := ⟨h11_⟩
 have n12_ : Aside0 (Below w.heap.size w w20) := ⟨h12_⟩
 clear BK391;clear BK392;clear BK393;clear HB;clear h0_ h1_ h2_ h3_ h4_ h5_ h6_ h7_ h8_ h9_ h10_ h11_ h12_;have BK391 := n0_;have BK392 := n1_;have BK393 := n2_;have BK398 := n3_;have GW398 := n4_;have GE398 := n5_;have NB391_398 := n6_;have NB398_391 := n7_;have NB392_398 := n8_;have NB398_392 := n9_;have NB393_398 := n10_;have NB398_393 := n11_;have HB := n12_;clear n0_ n1_ n2_ n3_ n4_ n5_ n6_ n7_ n8_ n9_ n10_ n11_ n12_
 have hHeld : w20.cell? ⟨gb391, 0, none⟩ = some (.bool a0_0) ∧ w20.cell? ⟨gb391, 1, none⟩ = some (.int .i64 a0_1) ∧ w20.cell? ⟨gb391, 2, none⟩ = some (.int .i64 a0_2) ∧ w20.cell? ⟨gb391, 3, none⟩ = some (.int .u64 a0_3) := hS_
 refine norm_ (a' := ?_) ?_ ?_
 rotate_left
 ·simp only [putAll, Act.put, lI_, l0_, lS_]
  rfl
 refine one_ (i := 11) (N := none) #[true, true, true, true, true, true, true, true, true, true, true, true] rfl rfl (one_of HT_.out (by kernel_rfl)) (by decide) (fun K hK => ?_)
 have hs21 : w20.cell? ⟨gb398, 0, none⟩ = some (.int .u64 0) := bc_ BK398.out 0
 have hfs21 := blk_frozen BK398.out 0
 have hns21_0 := NB391_398.out
 have hns21_1 := NB392_398.out
 have hns21_2 := NB393_398.out
 have hms21_0 := NB398_391.out
 have hms21_1 := NB398_392.out
 have hms21_2 := NB398_393.out
 have hs22 : w20.cell? ⟨gb398, 1, none⟩ = some (.int .u64 0) := bc_ BK398.out 1
 have hfs22 := blk_frozen BK398.out 1
 have hns22_0 := NB391_398.out
 have hns22_1 := NB392_398.out
 have hns22_2 := NB393_398.out
 have hms22_0 := NB398_391.out
 have hms22_1 := NB398_392.out
 have hms22_2 := NB398_393.out
 have hs23 : w20.cell? ⟨gb398, 2, none⟩ = some (.int .u64 0) := bc_ BK398.out 2
 have hfs23 := blk_frozen BK398.out 2
 have hns23_0 := NB391_398.out
 have hns23_1 := NB392_398.out
 have hns23_2 := NB393_398.out
 have hms23_0 := NB398_391.out
 have hms23_1 := NB398_392.out
 have hms23_2 := NB398_393.out
 have hs24 : w20.cell? ⟨gb398, 3, none⟩ = some (.int .u64 0) := bc_ BK398.out 3
 have hfs24 := blk_frozen BK398.out 3
 have hns24_0 := NB391_398.out
 have hns24_1 := NB392_398.out
 have hns24_2 := NB393_398.out
 have hms24_0 := NB398_391.out
 have hms24_1 := NB398_392.out
 have hms24_2 := NB398_393.out
 have hs25 : w20.cell? ⟨gb398, 4, none⟩ = some (.int .i64 0) := bc_ BK398.out 4
 have hfs25 := blk_frozen BK398.out 4
 have hns25_0 := NB391_398.out
 have hns25_1 := NB392_398.out
 have hns25_2 := NB393_398.out
 have hms25_0 := NB398_391.out
 have hms25_1 := NB398_392.out
 have hms25_2 := NB398_393.out
 have hs26 : w20.cell? ⟨gb398, 5, none⟩ = some (.bool false) := bc_ BK398.out 5
 have hfs26 := blk_frozen BK398.out 5
 have hns26_0 := NB391_398.out
 have hns26_1 := NB392_398.out
 have hns26_2 := NB393_398.out
 have hms26_0 := NB398_391.out
 have hms26_1 := NB398_392.out
 have hms26_2 := NB398_393.out
 refine skip_ (w1 := ?_) (by rfl) rfl ?_ ?_
 rotate_left
 ·go_simp
  rfl
 refine hK.out _ _ ⟨((cell_far (p := ⟨gb398, _, none⟩) NB391_398.out _).trans (((cell_far (p := ⟨gb398, _, none⟩) NB391_398.out _).trans (((cell_far (p := ⟨gb398, _, none⟩) NB391_398.out _).trans (((cell_far (p := ⟨gb398, _, none⟩) NB391_398.out _).trans (((cell_far (p := ⟨gb398, _, none⟩) NB391_398.out _).trans (((cell_far (p := ⟨gb398, _, none⟩) NB391_398.out _).trans (hHeld.1)))))))))))), ((cell_far (p := ⟨gb398, _, none⟩) NB391_398.out _).trans (((cell_far (p := ⟨gb398, _, none⟩) NB391_398.out _).trans (((cell_far (p := ⟨gb398, _, none⟩) NB391_398.out _).trans (((cell_far (p := ⟨gb398, _, none⟩) NB391_398.out _).trans (((cell_far (p := ⟨gb398, _, none⟩) NB391_398.out _).trans (((cell_far (p := ⟨gb398, _, none⟩) NB391_398.out _).trans (hHeld.2.1)))))))))))), ((cell_far (p := ⟨gb398, _, none⟩) NB391_398.out _).trans (((cell_far (p := ⟨gb398, _, none⟩) NB391_398.out _).trans (((cell_far (p := ⟨gb398, _, none⟩) NB391_398.out _).trans (((cell_far (p := ⟨gb398, _, none⟩) NB391_398.out _).trans (((cell_far (p := ⟨gb398, _, none⟩) NB391_398.out _).trans (((cell_far (p := ⟨gb398, _, none⟩) NB391_398.out _).trans (hHeld.2.2.1)))))))))))), ((cell_far (p := ⟨gb398, _, none⟩) NB391_398.out _).trans (((cell_far (p := ⟨gb398, _, none⟩) NB391_398.out _).trans (((cell_far (p := ⟨gb398, _, none⟩) NB391_398.out _).trans (((cell_far (p := ⟨gb398, _, none⟩) NB391_398.out _).trans (((cell_far (p := ⟨gb398, _, none⟩) NB391_398.out _).trans (((cell_far (p := ⟨gb398, _, none⟩) NB391_398.out _).trans (hHeld.2.2.2))))))))))))⟩ (fun hHeld => ?_)
 clear hK K
 refine done_ (done_of HT_.out (by kernel_rfl)) ?_
 have hnb27 := NB392_398.out
 have hnc27 := NB398_392.out
 have hcz28_0 := bv_ BK392.out 0
 have hcz28_1 := bv_ BK392.out 1
 have hcz28_2 := bv_ BK392.out 2
 have hcz28_3 := bv_ BK392.out 3
 have hfz28_0 := blk_frozen BK392.out 0
 have hfz28_1 := blk_frozen BK392.out 1
 have hfz28_2 := blk_frozen BK392.out 2
 have hfz28_3 := blk_frozen BK392.out 3
 try go_wp2_with (first | ((with_reducible refine gate_callee (f := 215) rfl ?_); refine goesL_ (some 28) rfl rfl Tryz.func215 (by kernel_rfl) rfl #[.int .u64 a1_3] rfl mp_ ?_; (with_reducible refine (wide_Of.calls a1_3 t399 t400 _ A6.out).mono ?_); rintro e w29 ⟨rfl, hb⟩; refine ⟨_, rfl, ?_⟩; replace BK391 := A_ (blk_below (g := gb391) (o := .cells #[.bool a0_0, .int .i64 a0_1, .int .i64 a0_2, .int .u64 a0_3] 27 (0, 0)) (bf6_ BK391.out NB391_398.out NB391_398.out NB391_398.out NB391_398.out NB391_398.out NB391_398.out) hb); replace BK392 := A_ (blk_below (g := gb392) (o := .cells #[.bool a1_0, .int .i64 a1_1, .int .i64 a1_2, .int .u64 a1_3] 27 (0, 0)) (bf6_ BK392.out NB392_398.out NB392_398.out NB392_398.out NB392_398.out NB392_398.out NB392_398.out) hb); replace BK393 := A_ (blk_below (g := gb393) (o := .cells #[.int .u64 0, .int .u64 0, .int .u64 0, .int .u64 0, .int .i64 0, .bool false] 202 (0, 0)) (bf6_ BK393.out NB393_398.out NB393_398.out NB393_398.out NB393_398.out NB393_398.out NB393_398.out) hb); replace BK398 := A_ (blk_below (g := gb398) (o := .cells #[.int .u64 t396, .int .u64 t397, .int .u64 0, .int .u64 0, .int .i64 (wrap64 (a0_2 - (ji3))), .bool false] 202 (0, 0)) (by (with_reducible repeat (first | refine blk_drewN ?_ _ | refine blk_drew ?_ | refine blk_alloc ?_ _)); refine blk_put (cs := #[.int .u64 t396, .int .u64 t397, .int .u64 0, .int .u64 0, .int .i64 (wrap64 (a0_2 - (ji3))), .bool false]) ?_ 5 _ rfl; (with_reducible repeat (first | refine blk_drewN ?_ _ | refine blk_drew ?_ | refine blk_alloc ?_ _)); refine blk_put (cs := #[.int .u64 t396, .int .u64 t397, .int .u64 0, .int .u64 0, .int .i64 0, .bool false]) ?_ 4 _ rfl; (with_reducible repeat (first | refine blk_drewN ?_ _ | refine blk_drew ?_ | refine blk_alloc ?_ _)); refine blk_put (cs := #[.int .u64 t396, .int .u64 t397, .int .u64 0, .int .u64 0, .int .i64 0, .bool false]) ?_ 3 _ rfl; (with_reducible repeat (first | refine blk_drewN ?_ _ | refine blk_drew ?_ | refine blk_alloc ?_ _)); refine blk_put (cs := #[.int .u64 t396, .int .u64 t397, .int .u64 0, .int .u64 0, .int .i64 0, .bool false]) ?_ 2 _ rfl; (with_reducible repeat (first | refine blk_drewN ?_ _ | refine blk_drew ?_ | refine blk_alloc ?_ _)); refine blk_put (cs := #[.int .u64 t396, .int .u64 0, .int .u64 0, .int .u64 0, .int .i64 0, .bool false]) ?_ 1 _ rfl; (with_reducible repeat (first | refine blk_drewN ?_ _ | refine blk_drew ?_ | refine blk_alloc ?_ _)); refine blk_put (cs := #[.int .u64 0, .int .u64 0, .int .u64 0, .int .u64 0, .int .i64 0, .bool false]) ?_ 0 _ rfl; (with_reducible repeat (first | refine blk_drewN ?_ _ | refine blk_drew ?_ | refine blk_alloc ?_ _)); exact BK398.out) hb); replace HB := A_ (below_step (hb4_ HB.out GE391.out GE392.out GE393.out GE398.out) hb); (try clear hb); (try clear hb2); (try clear hk); (try clear hi)) | ((with_reducible refine gate_callee (f := 238) rfl ?_); refine goesL_ (some 32) rfl rfl Tryz.func238 (by kernel_rfl) rfl #[.agg #[.int .u64 t399, .int .u64 t400], .int .i64 (wrap64 ((wrap64 (a0_2 - a1_2)) - (ji3)))] rfl (by (try simp only [List.map_toArray, List.map_cons, List.map_nil]); first | done | (simp only [hji3]; rfl) | rfl | (simp only [List.length_drop, List.length_take]; rfl)) ?_; (with_reducible refine (wide_Right.calls t399 t400 (wrap64 ((wrap64 (a0_2 - a1_2)) - (ji3))) t401 t402 t403 _ A7.out).mono ?_); rintro e w30 ⟨rfl, hb⟩; refine ⟨_, rfl, ?_⟩; replace BK391 := A_ (bb_ BK391.out hb); replace BK392 := A_ (bb_ BK392.out hb); replace BK393 := A_ (bb_ BK393.out hb); replace BK398 := A_ (bb_ BK398.out hb); replace HB := A_ (below_step (hb4_ HB.out GE391.out GE392.out GE393.out GE398.out) hb); (try clear hb); (try clear hb2); (try clear hk); (try clear hi); have hnb31 := NB398_391.out; have hnc31 := NB391_398.out; have hnb32 := NB398_393.out; have hnc32 := NB393_398.out; have hcz33_0 := bv_ BK398.out 0; have hcz33_1 := bv_ BK398.out 1; have hcz33_2 := bv_ BK398.out 2; have hcz33_3 := bv_ BK398.out 3; have hcz33_4 := bv_ BK398.out 4; have hcz33_5 := bv_ BK398.out 5; have hfz33_0 := blk_frozen BK398.out 0; have hfz33_1 := blk_frozen BK398.out 1; have hfz33_2 := blk_frozen BK398.out 2; have hfz33_3 := blk_frozen BK398.out 3; have hfz33_4 := blk_frozen BK398.out 4; have hfz33_5 := blk_frozen BK398.out 5; have hcz34_0 := bv_ BK393.out 0; have hcz34_1 := bv_ BK393.out 1; have hcz34_2 := bv_ BK393.out 2; have hcz34_3 := bv_ BK393.out 3; have hcz34_4 := bv_ BK393.out 4; have hcz34_5 := bv_ BK393.out 5; have hfz34_0 := blk_frozen BK393.out 0; have hfz34_1 := blk_frozen BK393.out 1; have hfz34_2 := blk_frozen BK393.out 2; have hfz34_3 := blk_frozen BK393.out 3; have hfz34_4 := blk_frozen BK393.out 4; have hfz34_5 := blk_frozen BK393.out 5))
 refine bodyPost_ret (results_cell_row rfl _ _ gb393 202 #[.int .u64 t396, .int .u64 t397, .int .u64 t401, .int .u64 t402, .int .i64 (wrap64 (a0_2 - (ji3))), .bool t403] (0, 0) _ rfl (by (with_reducible repeat (first | refine blk_drewN ?_ _ | refine blk_drew ?_ | refine blk_alloc ?_ _)); refine blk_put (cs := #[.int .u64 t396, .int .u64 t397, .int .u64 t401, .int .u64 t402, .int .i64 (wrap64 (a0_2 - (ji3))), .bool false]) ?_ 5 _ rfl; (with_reducible repeat (first | refine blk_drewN ?_ _ | refine blk_drew ?_ | refine blk_alloc ?_ _)); refine blk_put (cs := #[.int .u64 t396, .int .u64 t397, .int .u64 t401, .int .u64 t402, .int .i64 0, .bool false]) ?_ 4 _ rfl; (with_reducible repeat (first | refine blk_drewN ?_ _ | refine blk_drew ?_ | refine blk_alloc ?_ _)); refine blk_put (cs := #[.int .u64 t396, .int .u64 t397, .int .u64 t401, .int .u64 0, .int .i64 0, .bool false]) ?_ 3 _ rfl; (with_reducible repeat (first | refine blk_drewN ?_ _ | refine blk_drew ?_ | refine blk_alloc ?_ _)); refine blk_put (cs := #[.int .u64 t396, .int .u64 t397, .int .u64 0, .int .u64 0, .int .i64 0, .bool false]) ?_ 2 _ rfl; (with_reducible repeat (first | refine blk_drewN ?_ _ | refine blk_drew ?_ | refine blk_alloc ?_ _)); refine blk_put (cs := #[.int .u64 t396, .int .u64 0, .int .u64 0, .int .u64 0, .int .i64 0, .bool false]) ?_ 1 _ rfl; (with_reducible repeat (first | refine blk_drewN ?_ _ | refine blk_drew ?_ | refine blk_alloc ?_ _)); refine blk_put (cs := #[.int .u64 0, .int .u64 0, .int .u64 0, .int .u64 0, .int .i64 0, .bool false]) ?_ 0 _ rfl; (with_reducible repeat (first | refine blk_drewN ?_ _ | refine blk_drew ?_ | refine blk_alloc ?_ _)); refine blk_far ?_ NB393_398.out _; (with_reducible repeat (first | refine blk_drewN ?_ _ | refine blk_drew ?_ | refine blk_alloc ?_ _)); refine blk_far ?_ NB393_398.out _; (with_reducible repeat (first | refine blk_drewN ?_ _ | refine blk_drew ?_ | refine blk_alloc ?_ _)); refine blk_far ?_ NB393_398.out _; (with_reducible repeat (first | refine blk_drewN ?_ _ | refine blk_drew ?_ | refine blk_alloc ?_ _)); exact BK393.out) Tryz.underlying202 rfl (by kernel_rfl)) rfl ?_
 exact ⟨by first | rfl | (simp [errW_none, errW_some] <;> rfl) | (simp only [← hji3]; first | rfl | (simp [errW_none, errW_some] <;> rfl)) | (simp [*, errW_none, errW_some] <;> rfl), hb4_ HB.out GE391.out GE392.out GE393.out GE398.out⟩
end Go.Proofs.YtnmlmgmljoncoaaGreatDoor.PA
