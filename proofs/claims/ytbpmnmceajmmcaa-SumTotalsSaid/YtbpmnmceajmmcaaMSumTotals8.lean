/- What the Go functions that the statement SumTotals reaches compute, and the mathematics on it, in the order in which one leans on the other; for every input. -/
import Derived.Test.YtbpmnmceajmmcaaVSumTotals0
import Derived.Test.YtbpmnmceajmmcaaMSumTotals0
import Derived.Test.YtbpmnmceajmmcaaMSumTotals1
import Derived.Test.YtbpmnmceajmmcaaMSumTotals2
namespace Go.Proofs.Ytbpmnmceajmmcaa.PA
open Go.RowKit Go.Proofs.YtbpmnmceajmmcaaW.PrintWords Go.Proofs.YtbpmnmceajmmcaaW.PrintLast Go.Proofs.YtbpmnmceajmmcaaW.PrintMore
attribute [local go_sem] max2_int min2_int max_two min_two max_three min_three max_four min_four   -- for this text's walks alone
set_option linter.unusedVariables false
set_option linter.unusedSimpArgs false
set_option maxHeartbeats 8000000
set_option maxRecDepth 100000
def sum_align.f (a0_0 : Bool) (a0_1 : Int) (a0_2 : Int) (a0_3 : Int) (a1_0 : Bool) (a1_1 : Int) (a1_2 : Int) (a1_3 : Int) : Option (Int × Int × Int × Int × Int × Bool) := (wide_Of.f a0_3).bind fun bt253 => ((wide_Left.f bt253.1 bt253.2 (mn (wrap64 (a0_2 - a1_2)) 64)).bind fun bt255 => ((wide_Of.f a1_3).bind fun bt258 => ((wide_Right.f bt258.1 bt258.2 (wrap64 ((wrap64 (a0_2 - a1_2)) - (mn (wrap64 (a0_2 - a1_2)) 64)))).bind fun bt260 => (some (bt255.1, bt255.2, bt260.1, bt260.2.1, wrap64 (a0_2 - (mn (wrap64 (a0_2 - a1_2)) 64)), bt260.2.2)))))
def sum_align.T3 : Bool × List (List Nat × List Nat) := (true, [([], []), ([0], [0]), ([1], [1]), ([], []), ([2, 3, 2], [2, 3]), ([], []), ([5], [5]), ([], []), ([6, 7], [6, 7]), ([4, 8], [4, 8]), ([], []), ([10, 9, 4, 0, 1, 2, 3, 4, 5, 6, 7, 8, 9, 10], [9, 10])])
def sum_align.B3 : List Nat := [0, 1, 3, 0, 15, 0, 32, 0, 224, 511, 0, 2047]
theorem sum_align.tab3 : rtab .any (opsOf Try.f108 3) = sum_align.T3 := by kernel_rfl
theorem sum_align.bits3 : waitsOk sum_align.T3.2 sum_align.B3 = true := by kernel_rfl
theorem sum_align.calls (a0_0 : Bool) (a0_1 : Int) (a0_2 : Int) (a0_3 : Int) (a1_0 : Bool) (a1_1 : Int) (a1_2 : Int) (a1_3 : Int) (r1 : Int) (r2 : Int) (r3 : Int) (r4 : Int) (r5 : Int) (r6 : Bool) (w : World) (h : sum_align.f a0_0 a0_1 a0_2 a0_3 a1_0 a1_1 a1_2 a1_3 = some (r1, r2, r3, r4, r5, r6)) :
  Calls Try.prog 108 #[.agg #[.bool a0_0, .int .i64 a0_1, .int .i64 a0_2, .int .u64 a0_3], .agg #[.bool a1_0, .int .i64 a1_1, .int .i64 a1_2, .int .u64 a1_3]] w fun e w' => e = .returned (.agg #[.int .u64 r1, .int .u64 r2, .int .u64 r3, .int .u64 r4, .int .i64 r5, .bool r6]) ∧ Below w.heap.size w w' := by
 have hu38 := Try.underlying38
 have hu122 := Try.underlying122
 have hu42 := Try.underlying42
 have HB := A_ (Below.refl w.heap.size w)
 have H : ((wide_Of.f a0_3).bind fun bt253 => ((wide_Left.f bt253.1 bt253.2 (mn (wrap64 (a0_2 - a1_2)) 64)).bind fun bt255 => ((wide_Of.f a1_3).bind fun bt258 => ((wide_Right.f bt258.1 bt258.2 (wrap64 ((wrap64 (a0_2 - a1_2)) - (mn (wrap64 (a0_2 - a1_2)) 64)))).bind fun bt260 => (some (bt255.1, bt255.2, bt260.1, bt260.2.1, wrap64 (a0_2 - (mn (wrap64 (a0_2 - a1_2)) 64)), bt260.2.2)))))) = some (r1, r2, r3, r4, r5, r6) := h
 clear h
 obtain ⟨ji3, hji3⟩ : ∃ j_ : Int, (mn (wrap64 (a0_2 - a1_2)) 64) = j_ := ⟨_, rfl⟩
 replace H : ((wide_Of.f a0_3).bind fun bt253 => ((wide_Left.f bt253.1 bt253.2 (ji3)).bind fun bt255 => ((wide_Of.f a1_3).bind fun bt258 => ((wide_Right.f bt258.1 bt258.2 (wrap64 ((wrap64 (a0_2 - a1_2)) - (ji3)))).bind fun bt260 => (some (bt255.1, bt255.2, bt260.1, bt260.2.1, wrap64 (a0_2 - (ji3)), bt260.2.2)))))) = some (r1, r2, r3, r4, r5, r6) := by first | (rw [hji3] at H; exact H) | (simp only [hji3] at H ⊢; exact H)
 (try (have hji3h : ji3 ≤ 64 := by (rw [← hji3]; unfold mn; (repeat' split) <;> omega)))
 (try (have hji3g : ji3 ≤ 64 := by omega))
 have hji3_ : (if 64 < (wrap64 (a0_2 - a1_2)) then 64 else (wrap64 (a0_2 - a1_2))) = ji3 := hji3
 replace H := ob_ H
 obtain ⟨⟨t253, t254⟩, A40, H⟩ := H
 replace H : ((wide_Left.f t253 t254 (ji3)).bind fun bt255 => ((wide_Of.f a1_3).bind fun bt258 => ((wide_Right.f bt258.1 bt258.2 (wrap64 ((wrap64 (a0_2 - a1_2)) - (ji3)))).bind fun bt260 => (some (bt255.1, bt255.2, bt260.1, bt260.2.1, wrap64 (a0_2 - (ji3)), bt260.2.2))))) = some (r1, r2, r3, r4, r5, r6) := H
 have A4 := A_ A40;clear A40
 replace H := ob_ H
 obtain ⟨⟨t255, t256⟩, A50, H⟩ := H
 replace H : ((wide_Of.f a1_3).bind fun bt258 => ((wide_Right.f bt258.1 bt258.2 (wrap64 ((wrap64 (a0_2 - a1_2)) - (ji3)))).bind fun bt260 => (some (t255, t256, bt260.1, bt260.2.1, wrap64 (a0_2 - (ji3)), bt260.2.2)))) = some (r1, r2, r3, r4, r5, r6) := H
 have A5 := A_ A50;clear A50
 replace H := ob_ H
 obtain ⟨⟨t258, t259⟩, A60, H⟩ := H
 replace H : ((wide_Right.f t258 t259 (wrap64 ((wrap64 (a0_2 - a1_2)) - (ji3)))).bind fun bt260 => (some (t255, t256, bt260.1, bt260.2.1, wrap64 (a0_2 - (ji3)), bt260.2.2))) = some (r1, r2, r3, r4, r5, r6) := H
 have A6 := A_ A60;clear A60
 replace H := ob_ H
 obtain ⟨⟨t260, t261, t262⟩, A70, H⟩ := H
 replace H : (some (t255, t256, t260, t261, wrap64 (a0_2 - (ji3)), t262)) = some (r1, r2, r3, r4, r5, r6) := H
 have A7 := A_ A70;clear A70
 simp only [Option.some.injEq, Prod.mk.injEq] at H
 obtain ⟨rfl, rfl, rfl, rfl, rfl, rfl⟩ := H
 go_enter Try.func108, Try.ntmps108
 try go_wp2_with (first | ((with_reducible refine gate_dst (N := 2) rfl ?_); refine be_ 2 #[.bool a0_0, .int .i64 a0_1, .int .i64 a0_2, .int .u64 a0_3] 38 ?_; intro gb250 hg w8 hbox hb; have n0_ := A_ (below_step (hb_ HB.out) hb); have n1_ := A_ (hbox); have n2_ := A_ (sz_ hg (hb_ HB.out)); have n3_ := A_ (sz_ hg (hb_ HB.out)); clear HB; have HB := n0_; have BK250 := n1_; have GW250 := n2_; have GE250 := n3_; clear n0_ n1_ n2_ n3_; clear hb hbox hg) | ((with_reducible refine gate_dst (N := 3) rfl ?_); refine be_ 3 #[.bool a1_0, .int .i64 a1_1, .int .i64 a1_2, .int .u64 a1_3] 38 ?_; intro gb251 hg w9 hbox hb; have n0_ := A_ (bb_ BK250.out hb); have n1_ := A_ (below_step (hb1_ HB.out GE250.out) hb); have n2_ := A_ (hbox); have n3_ := A_ (sz_ hg (hb1_ HB.out GE250.out)); have n4_ := A_ (sz_ hg (hb1_ HB.out GE250.out)); have n5_ := A_ (nl_ hg BK250.out); have n6_ := A_ (ng_ hg BK250.out); clear BK250; clear HB; have BK250 := n0_; have HB := n1_; have BK251 := n2_; have GW251 := n3_; have GE251 := n4_; have NB250_251 := n5_; have NB251_250 := n6_; clear n0_ n1_ n2_ n3_ n4_ n5_ n6_; clear hb hbox hg) | ((with_reducible refine gate_dst (N := 4) rfl ?_); refine be_ 4 #[.int .u64 0, .int .u64 0, .int .u64 0, .int .u64 0, .int .i64 0, .bool false] 122 ?_; intro gb252 hg w10 hbox hb; have n0_ := A_ (bb_ BK250.out hb); have n1_ := A_ (bb_ BK251.out hb); have n2_ := A_ (below_step (hb2_ HB.out GE250.out GE251.out) hb); have n3_ := A_ (hbox); have n4_ := A_ (sz_ hg (hb2_ HB.out GE250.out GE251.out)); have n5_ := A_ (sz_ hg (hb2_ HB.out GE250.out GE251.out)); have n6_ := A_ (nl_ hg BK250.out); have n7_ := A_ (ng_ hg BK250.out); have n8_ := A_ (nl_ hg BK251.out); have n9_ := A_ (ng_ hg BK251.out); clear BK250; clear BK251; clear HB; have BK250 := n0_; have BK251 := n1_; have HB := n2_; have BK252 := n3_; have GW252 := n4_; have GE252 := n5_; have NB250_252 := n6_; have NB252_250 := n7_; have NB251_252 := n8_; have NB252_251 := n9_; clear n0_ n1_ n2_ n3_ n4_ n5_ n6_ n7_ n8_ n9_; clear hb hbox hg; have hnb11 := NB250_251.out; have hnc11 := NB251_250.out; have hnb12 := NB250_252.out; have hnc12 := NB252_250.out; have hcz13_0 : w10.cell? ⟨gb250, 0, none⟩ = some (.bool a0_0) := bc_ BK250.out 0; have hcz13_1 : w10.cell? ⟨gb250, 1, none⟩ = some (.int .i64 a0_1) := bc_ BK250.out 1; have hcz13_2 : w10.cell? ⟨gb250, 2, none⟩ = some (.int .i64 a0_2) := bc_ BK250.out 2; have hcz13_3 : w10.cell? ⟨gb250, 3, none⟩ = some (.int .u64 a0_3) := bc_ BK250.out 3; have hfz13_0 := blk_frozen BK250.out 0; have hfz13_1 := blk_frozen BK250.out 1; have hfz13_2 := blk_frozen BK250.out 2; have hfz13_3 := blk_frozen BK250.out 3; have hnb14 := NB251_252.out; have hnc14 := NB252_251.out; have hcz15_0 : w10.cell? ⟨gb251, 0, none⟩ = some (.bool a1_0) := bc_ BK251.out 0; have hcz15_1 : w10.cell? ⟨gb251, 1, none⟩ = some (.int .i64 a1_1) := bc_ BK251.out 1; have hcz15_2 : w10.cell? ⟨gb251, 2, none⟩ = some (.int .i64 a1_2) := bc_ BK251.out 2; have hcz15_3 : w10.cell? ⟨gb251, 3, none⟩ = some (.int .u64 a1_3) := bc_ BK251.out 3; have hfz15_0 := blk_frozen BK251.out 0; have hfz15_1 := blk_frozen BK251.out 1; have hfz15_2 := blk_frozen BK251.out 2; have hfz15_3 := blk_frozen BK251.out 3))
 have n0_ := A_ (blk_drew BK250.out)
 have n1_ := A_ (blk_drew BK251.out)
 have n2_ := A_ (blk_drew BK252.out)
 have n3_ := A_ (below_drew1 HB.out)
 clear BK250;clear BK251;clear BK252;clear HB;have BK250 := n0_;have BK251 := n1_;have BK252 := n2_;have HB := n3_;clear n0_ n1_ n2_ n3_
 refine start_ (n := 12) (S := fun w' => w'.cell? ⟨gb250, 0, none⟩ = some (.bool a0_0) ∧ w'.cell? ⟨gb250, 1, none⟩ = some (.int .i64 a0_1) ∧ w'.cell? ⟨gb250, 2, none⟩ = some (.int .i64 a0_2) ∧ w'.cell? ⟨gb250, 3, none⟩ = some (.int .u64 a0_3)) (ds := []) #[false, false, false, false, false, false, false, false, false, false, false, false] (by kernel_rfl) rfl rfl ⟨bc_ BK250.out 0, bc_ BK250.out 1, bc_ BK250.out 2, bc_ BK250.out 3⟩ (fun hHeld => ?_); refine with_tabW sum_align.tab3 sum_align.bits3 (fun HT_ HW_ => ?_)
 generalize w10.drew = w16 at BK250 BK251 BK252 HB hHeld ⊢
 refine pu_ 0 (some 15) #[true, false, false, false, false, false, false, false, false, false, false, false] rfl rfl (any_of HT_.out (by kernel_rfl)) ?_
 refine pu_ 3 (some 18) #[true, false, false, true, false, false, false, false, false, false, false, false] rfl rfl (any_of HT_.out (by kernel_rfl)) ?_
 refine pu_ 5 (some 20) #[true, false, false, true, false, true, false, false, false, false, false, false] rfl rfl (any_of HT_.out (by kernel_rfl)) ?_
 refine pu_ 7 (some 22) #[true, false, false, true, false, true, false, true, false, false, false, false] rfl rfl (any_of HT_.out (by kernel_rfl)) ?_
 refine tk4_ 1 (some 16) #[true, true, false, true, false, true, false, true, false, false, false, false] rfl rfl (take_ofW HT_.out HW_.out (by kernel_rfl)) hHeld ?_
 refine tk4_ 6 (some 21) #[true, true, false, true, false, true, true, true, false, false, false, false] rfl rfl (take_ofW HT_.out HW_.out (by kernel_rfl)) hHeld ?_
 refine pu_ 8 (some 23) #[true, true, false, true, false, true, true, true, true, false, false, false] rfl rfl (any_of HT_.out (by kernel_rfl)) ?_
 refine join_ (σ := Nat) 1 #[true, true, true, true, true, true, true, true, true, true, true, false] (fun s_ => [(17, .agg #[.int .u64 t253, .int .u64 t254]), (19, .agg #[.int .u64 t255, .int .u64 t256]), (7, .pointer (some ⟨s_, 0, none⟩)), (24, .agg #[.int .u64 t255, .int .u64 t256, .int .u64 0, .int .u64 0, .int .i64 (wrap64 (a0_2 - (ji3))), .bool false])]) (fun s_ w' => (w'.cell? ⟨gb250, 0, none⟩ = some (.bool a0_0) ∧ w'.cell? ⟨gb250, 1, none⟩ = some (.int .i64 a0_1) ∧ w'.cell? ⟨gb250, 2, none⟩ = some (.int .i64 a0_2) ∧ w'.cell? ⟨gb250, 3, none⟩ = some (.int .u64 a0_3)) ∧ (w'.heap[gb250]? = some (.cells #[.bool a0_0, .int .i64 a0_1, .int .i64 a0_2, .int .u64 a0_3] 38 (0, 0))) ∧ (w'.heap[gb251]? = some (.cells #[.bool a1_0, .int .i64 a1_1, .int .i64 a1_2, .int .u64 a1_3] 38 (0, 0))) ∧ (w'.heap[gb252]? = some (.cells #[.int .u64 0, .int .u64 0, .int .u64 0, .int .u64 0, .int .i64 0, .bool false] 122 (0, 0))) ∧ (w'.heap[s_]? = some (.cells #[.int .u64 0, .int .u64 0, .int .u64 0, .int .u64 0, .int .i64 0, .bool false] 122 (0, 0))) ∧ (w.heap.size ≤ s_) ∧ (w.heap.size ≤ s_) ∧ (gb250 ≠ s_) ∧ (s_ ≠ gb250) ∧ (gb251 ≠ s_) ∧ (s_ ≠ gb251) ∧ (gb252 ≠ s_) ∧ (s_ ≠ gb252) ∧ (Below w.heap.size w w')) ?_ ?_
 rotate_left
 ·intro hCont
  refine two_ (i := 2) (j := 10) (Ni := some 17) (Nj := some 7) #[true, true, true, true, false, true, true, true, true, false, false, false] #[true, true, false, true, false, true, true, true, true, false, true, false] rfl rfl rfl rfl (two_of HT_.out (by kernel_rfl)) (by decide) (by decide) (fun K hK => ?_) (fun K hK => ?_)
  ·skip
   refine goes_ Try.func39 (by kernel_rfl) rfl #[.int .u64 a0_3] (by rfl) rfl rfl mp_ ?_
   with_reducible refine (wide_Of.calls a0_3 t253 t254 _ A4.out).mono ?_
   rintro e w17 ⟨rfl, hb⟩
   refine ⟨_, rfl, ?_⟩
   have n0_ := A_ (bb_ BK250.out hb)
   have n1_ := A_ (bb_ BK251.out hb)
   have n2_ := A_ (bb_ BK252.out hb)
   have n3_ := A_ (below_step (hb3_ HB.out GE250.out GE251.out GE252.out) hb)
   clear BK250;clear BK251;clear BK252;clear HB;have BK250 := n0_;have BK251 := n1_;have BK252 := n2_;have HB := n3_;clear n0_ n1_ n2_ n3_;(try clear hb);(try clear hb2);(try clear hk);(try clear hi)
   refine hK.out _ _ ⟨bc_ BK250.out 0, bc_ BK250.out 1, bc_ BK250.out 2, bc_ BK250.out 3⟩ (fun hHeld => ?_)
   clear hK K
   refine norm_ (a' := ?_) ?_ ?_
   rotate_left
   ·show Act.put _ (some 17) _ = _
    simp only [Act.put, lI_, l0_, lS_, i64_w, i32_w]
    rfl
   refine two_ (i := 4) (j := 10) (Ni := some 19) (Nj := some 7) #[true, true, true, true, true, true, true, true, true, false, false, false] #[true, true, true, true, false, true, true, true, true, false, true, false] rfl rfl rfl rfl (two_of HT_.out (by kernel_rfl)) (by decide) (by decide) (fun K hK => ?_) (fun K hK => ?_)
   ·skip
    refine goes_ Try.func41 (by kernel_rfl) rfl #[.agg #[.int .u64 t253, .int .u64 t254], .int .i64 ji3] (by rfl) rfl rfl (by (try simp only [List.map_toArray, List.map_cons, List.map_nil]); first | done | (simp only [hji3]; rfl) | rfl | (simp only [List.length_drop, List.length_take]; rfl)) ?_
    with_reducible refine (wide_Left.calls t253 t254 ji3 t255 t256 _ A5.out).mono ?_
    rintro e w18 ⟨rfl, hb⟩
    refine ⟨_, rfl, ?_⟩
    have n0_ := A_ (bb_ BK250.out hb)
    have n1_ := A_ (bb_ BK251.out hb)
    have n2_ := A_ (bb_ BK252.out hb)
    have n3_ := A_ (below_step (hb3_ HB.out GE250.out GE251.out GE252.out) hb)
    clear BK250;clear BK251;clear BK252;clear HB;have BK250 := n0_;have BK251 := n1_;have BK252 := n2_;have HB := n3_;clear n0_ n1_ n2_ n3_;(try clear hb);(try clear hb2);(try clear hk);(try clear hi)
    refine hK.out _ _ ⟨bc_ BK250.out 0, bc_ BK250.out 1, bc_ BK250.out 2, bc_ BK250.out 3⟩ (fun hHeld => ?_)
    clear hK K
    refine norm_ (a' := ?_) ?_ ?_
    rotate_left
    ·show Act.put _ (some 19) _ = _
     simp only [Act.put, lI_, l0_, lS_, i64_w, i32_w]
     rfl
    refine pu_ 9 (some 24) #[true, true, true, true, true, true, true, true, true, true, false, false] rfl rfl (any_of HT_.out (by kernel_rfl)) ?_
    refine one_ (i := 10) (N := some 7) #[true, true, true, true, true, true, true, true, true, true, true, false] rfl rfl (one_of HT_.out (by kernel_rfl)) (by decide) (fun K hK => ?_)
    refine box_step ?hg (N := 7) ?hd (cs := #[.int .u64 0, .int .u64 0, .int .u64 0, .int .u64 0, .int .i64 0, .bool false]) (t := 122) ?hr ?_; (case hd => rfl); (case hg => rfl); (case hr => first | (go_simp; done) | (go_simp; rfl))
    intro gb257 hg w19 hbox hb
    have n0_ := A_ (bb_ BK250.out hb)
    have n1_ := A_ (bb_ BK251.out hb)
    have n2_ := A_ (bb_ BK252.out hb)
    have n3_ := A_ (below_step (hb3_ HB.out GE250.out GE251.out GE252.out) hb)
    have n4_ := A_ (hbox)
    have n5_ := A_ (sz_ hg (hb3_ HB.out GE250.out GE251.out GE252.out))
    have n6_ := A_ (sz_ hg (hb3_ HB.out GE250.out GE251.out GE252.out))
    have n7_ := A_ (nl_ hg BK250.out)
    have n8_ := A_ (ng_ hg BK250.out)
    have n9_ := A_ (nl_ hg BK251.out)
    have n10_ := A_ (ng_ hg BK251.out)
    have n11_ := A_ (nl_ hg BK252.out)
    have n12_ := A_ (ng_ hg BK252.out)
    clear BK250;clear BK251;clear BK252;clear HB;have BK250 := n0_;have BK251 := n1_;have BK252 := n2_;have HB := n3_;have BK257 := n4_;have GW257 := n5_;have GE257 := n6_;have NB250_257 := n7_;have NB257_250 := n8_;have NB251_257 := n9_;have NB257_251 := n10_;have NB252_257 := n11_;have NB257_252 := n12_;clear n0_ n1_ n2_ n3_ n4_ n5_ n6_ n7_ n8_ n9_ n10_ n11_ n12_;clear hb hbox hg
    refine hK.out _ _ ⟨bc_ BK250.out 0, bc_ BK250.out 1, bc_ BK250.out 2, bc_ BK250.out 3⟩ (fun hHeld => ?_)
    clear hK K
    refine norm_ (a' := ?_) ?_ ?_
    rotate_left
    ·show Act.put _ (some 7) _ = _
     simp only [Act.put, lI_, l0_, lS_, i64_w, i32_w]
     rfl
    exact norm_ (by simp only [putAll, Act.put, lI_, l0_, lS_]) (hCont (gb257) _ ⟨hHeld, (bk_ BK250.out), (bk_ BK251.out), (bk_ BK252.out), (bk_ BK257.out), GW257.out, GE257.out, NB250_257.out, NB257_250.out, NB251_257.out, NB257_251.out, NB252_257.out, NB257_252.out, (hb4_ HB.out GE250.out GE251.out GE252.out GE257.out)⟩)
   ·skip
    refine box_step ?hg (N := 7) ?hd (cs := #[.int .u64 0, .int .u64 0, .int .u64 0, .int .u64 0, .int .i64 0, .bool false]) (t := 122) ?hr ?_; (case hd => rfl); (case hg => rfl); (case hr => first | (go_simp; done) | (go_simp; rfl))
    intro gb257 hg w18 hbox hb
    have n0_ := A_ (bb_ BK250.out hb)
    have n1_ := A_ (bb_ BK251.out hb)
    have n2_ := A_ (bb_ BK252.out hb)
    have n3_ := A_ (below_step (hb3_ HB.out GE250.out GE251.out GE252.out) hb)
    have n4_ := A_ (hbox)
    have n5_ := A_ (sz_ hg (hb3_ HB.out GE250.out GE251.out GE252.out))
    have n6_ := A_ (sz_ hg (hb3_ HB.out GE250.out GE251.out GE252.out))
    have n7_ := A_ (nl_ hg BK250.out)
    have n8_ := A_ (ng_ hg BK250.out)
    have n9_ := A_ (nl_ hg BK251.out)
    have n10_ := A_ (ng_ hg BK251.out)
    have n11_ := A_ (nl_ hg BK252.out)
    have n12_ := A_ (ng_ hg BK252.out)
    clear BK250;clear BK251;clear BK252;clear HB;have BK250 := n0_;have BK251 := n1_;have BK252 := n2_;have HB := n3_;have BK257 := n4_;have GW257 := n5_;have GE257 := n6_;have NB250_257 := n7_;have NB257_250 := n8_;have NB251_257 := n9_;have NB257_251 := n10_;have NB252_257 := n11_;have NB257_252 := n12_;clear n0_ n1_ n2_ n3_ n4_ n5_ n6_ n7_ n8_ n9_ n10_ n11_ n12_;clear hb hbox hg
    refine hK.out _ _ ⟨bc_ BK250.out 0, bc_ BK250.out 1, bc_ BK250.out 2, bc_ BK250.out 3⟩ (fun hHeld => ?_)
    clear hK K
    refine norm_ (a' := ?_) ?_ ?_
    rotate_left
    ·show Act.put _ (some 7) _ = _
     simp only [Act.put, lI_, l0_, lS_, i64_w, i32_w]
     rfl
    refine one_ (i := 4) (N := some 19) #[true, true, true, true, true, true, true, true, true, false, true, false] rfl rfl (one_of HT_.out (by kernel_rfl)) (by decide) (fun K hK => ?_)
    refine goes_ Try.func41 (by kernel_rfl) rfl #[.agg #[.int .u64 t253, .int .u64 t254], .int .i64 ji3] (by rfl) rfl rfl (by (try simp only [List.map_toArray, List.map_cons, List.map_nil]); first | done | (simp only [hji3]; rfl) | rfl | (simp only [List.length_drop, List.length_take]; rfl)) ?_
    with_reducible refine (wide_Left.calls t253 t254 ji3 t255 t256 _ A5.out).mono ?_
    rintro e w19 ⟨rfl, hb⟩
    refine ⟨_, rfl, ?_⟩
    have n0_ := A_ (bb_ BK250.out hb)
    have n1_ := A_ (bb_ BK251.out hb)
    have n2_ := A_ (bb_ BK252.out hb)
    have n3_ := A_ (bb_ BK257.out hb)
    have n4_ := A_ (below_step (hb4_ HB.out GE250.out GE251.out GE252.out GE257.out) hb)
    clear BK250;clear BK251;clear BK252;clear BK257;clear HB;have BK250 := n0_;have BK251 := n1_;have BK252 := n2_;have BK257 := n3_;have HB := n4_;clear n0_ n1_ n2_ n3_ n4_;(try clear hb);(try clear hb2);(try clear hk);(try clear hi)
    refine hK.out _ _ ⟨bc_ BK250.out 0, bc_ BK250.out 1, bc_ BK250.out 2, bc_ BK250.out 3⟩ (fun hHeld => ?_)
    clear hK K
    refine norm_ (a' := ?_) ?_ ?_
    rotate_left
    ·show Act.put _ (some 19) _ = _
     simp only [Act.put, lI_, l0_, lS_, i64_w, i32_w]
     rfl
    refine pu_ 9 (some 24) #[true, true, true, true, true, true, true, true, true, true, true, false] rfl rfl (any_of HT_.out (by kernel_rfl)) ?_
    exact norm_ (by simp only [putAll, Act.put, lI_, l0_, lS_]) (hCont (gb257) _ ⟨hHeld, (bk_ BK250.out), (bk_ BK251.out), (bk_ BK252.out), (bk_ BK257.out), GW257.out, GE257.out, NB250_257.out, NB257_250.out, NB251_257.out, NB257_251.out, NB252_257.out, NB257_252.out, (hb4_ HB.out GE250.out GE251.out GE252.out GE257.out)⟩)
  ·skip
   refine box_step ?hg (N := 7) ?hd (cs := #[.int .u64 0, .int .u64 0, .int .u64 0, .int .u64 0, .int .i64 0, .bool false]) (t := 122) ?hr ?_; (case hd => rfl); (case hg => rfl); (case hr => first | (go_simp; done) | (go_simp; rfl))
   intro gb257 hg w17 hbox hb
   have n0_ := A_ (bb_ BK250.out hb)
   have n1_ := A_ (bb_ BK251.out hb)
   have n2_ := A_ (bb_ BK252.out hb)
   have n3_ := A_ (below_step (hb3_ HB.out GE250.out GE251.out GE252.out) hb)
   have n4_ := A_ (hbox)
   have n5_ := A_ (sz_ hg (hb3_ HB.out GE250.out GE251.out GE252.out))
   have n6_ := A_ (sz_ hg (hb3_ HB.out GE250.out GE251.out GE252.out))
   have n7_ := A_ (nl_ hg BK250.out)
   have n8_ := A_ (ng_ hg BK250.out)
   have n9_ := A_ (nl_ hg BK251.out)
   have n10_ := A_ (ng_ hg BK251.out)
   have n11_ := A_ (nl_ hg BK252.out)
   have n12_ := A_ (ng_ hg BK252.out)
   clear BK250;clear BK251;clear BK252;clear HB;have BK250 := n0_;have BK251 := n1_;have BK252 := n2_;have HB := n3_;have BK257 := n4_;have GW257 := n5_;have GE257 := n6_;have NB250_257 := n7_;have NB257_250 := n8_;have NB251_257 := n9_;have NB257_251 := n10_;have NB252_257 := n11_;have NB257_252 := n12_;clear n0_ n1_ n2_ n3_ n4_ n5_ n6_ n7_ n8_ n9_ n10_ n11_ n12_;clear hb hbox hg
   refine hK.out _ _ ⟨bc_ BK250.out 0, bc_ BK250.out 1, bc_ BK250.out 2, bc_ BK250.out 3⟩ (fun hHeld => ?_)
   clear hK K
   refine norm_ (a' := ?_) ?_ ?_
   rotate_left
   ·show Act.put _ (some 7) _ = _
    simp only [Act.put, lI_, l0_, lS_, i64_w, i32_w]
    rfl
   refine one_ (i := 2) (N := some 17) #[true, true, true, true, false, true, true, true, true, false, true, false] rfl rfl (one_of HT_.out (by kernel_rfl)) (by decide) (fun K hK => ?_)
   refine goes_ Try.func39 (by kernel_rfl) rfl #[.int .u64 a0_3] (by rfl) rfl rfl mp_ ?_
   with_reducible refine (wide_Of.calls a0_3 t253 t254 _ A4.out).mono ?_
   rintro e w18 ⟨rfl, hb⟩
   refine ⟨_, rfl, ?_⟩
   have n0_ := A_ (bb_ BK250.out hb)
   have n1_ := A_ (bb_ BK251.out hb)
   have n2_ := A_ (bb_ BK252.out hb)
   have n3_ := A_ (bb_ BK257.out hb)
   have n4_ := A_ (below_step (hb4_ HB.out GE250.out GE251.out GE252.out GE257.out) hb)
   clear BK250;clear BK251;clear BK252;clear BK257;clear HB;have BK250 := n0_;have BK251 := n1_;have BK252 := n2_;have BK257 := n3_;have HB := n4_;clear n0_ n1_ n2_ n3_ n4_;(try clear hb);(try clear hb2);(try clear hk);(try clear hi)
   refine hK.out _ _ ⟨bc_ BK250.out 0, bc_ BK250.out 1, bc_ BK250.out 2, bc_ BK250.out 3⟩ (fun hHeld => ?_)
   clear hK K
   refine norm_ (a' := ?_) ?_ ?_
   rotate_left
   ·show Act.put _ (some 17) _ = _
    simp only [Act.put, lI_, l0_, lS_, i64_w, i32_w]
    rfl
   refine one_ (i := 4) (N := some 19) #[true, true, true, true, true, true, true, true, true, false, true, false] rfl rfl (one_of HT_.out (by kernel_rfl)) (by decide) (fun K hK => ?_)
   refine goes_ Try.func41 (by kernel_rfl) rfl #[.agg #[.int .u64 t253, .int .u64 t254], .int .i64 ji3] (by rfl) rfl rfl (by (try simp only [List.map_toArray, List.map_cons, List.map_nil]); first | done | (simp only [hji3]; rfl) | rfl | (simp only [List.length_drop, List.length_take]; rfl)) ?_
   with_reducible refine (wide_Left.calls t253 t254 ji3 t255 t256 _ A5.out).mono ?_
   rintro e w19 ⟨rfl, hb⟩
   refine ⟨_, rfl, ?_⟩
   have n0_ := A_ (bb_ BK250.out hb)
   have n1_ := A_ (bb_ BK251.out hb)
   have n2_ := A_ (bb_ BK252.out hb)
   have n3_ := A_ (bb_ BK257.out hb)
   have n4_ := A_ (below_step (hb4_ HB.out GE250.out GE251.out GE252.out GE257.out) hb)
   clear BK250;clear BK251;clear BK252;clear BK257;clear HB;have BK250 := n0_;have BK251 := n1_;have BK252 := n2_;have BK257 := n3_;have HB := n4_;clear n0_ n1_ n2_ n3_ n4_;(try clear hb);(try clear hb2);(try clear hk);(try clear hi)
   refine hK.out _ _ ⟨bc_ BK250.out 0, bc_ BK250.out 1, bc_ BK250.out 2, bc_ BK250.out 3⟩ (fun hHeld => ?_)
   clear hK K
   refine norm_ (a' := ?_) ?_ ?_
   rotate_left
   ·show Act.put _ (some 19) _ = _
    simp only [Act.put, lI_, l0_, lS_, i64_w, i32_w]
    rfl
   refine pu_ 9 (some 24) #[true, true, true, true, true, true, true, true, true, true, true, false] rfl rfl (any_of HT_.out (by kernel_rfl)) ?_
   exact norm_ (by simp only [putAll, Act.put, lI_, l0_, lS_]) (hCont (gb257) _ ⟨hHeld, (bk_ BK250.out), (bk_ BK251.out), (bk_ BK252.out), (bk_ BK257.out), GW257.out, GE257.out, NB250_257.out, NB257_250.out, NB251_257.out, NB257_251.out, NB252_257.out, NB257_252.out, (hb4_ HB.out GE250.out GE251.out GE252.out GE257.out)⟩)
 rintro gb257 w20 ⟨hS_, h0_, h1_, h2_, h3_, h4_, h5_, h6_, h7_, h8_, h9_, h10_, h11_, h12_⟩
 have n0_ : Aside0 (w20.heap[gb250]? = some (.cells #[.bool a0_0, .int .i64 a0_1, .int .i64 a0_2, .int .u64 a0_3] 38 (0, 0))) := ⟨h0_⟩
 have n1_ : Aside0 (w20.heap[gb251]? = some (.cells #[.bool a1_0, .int .i64 a1_1, .int .i64 a1_2, .int .u64 a1_3] 38 (0, 0))) := ⟨h1_⟩
 have n2_ : Aside0 (w20.heap[gb252]? = some (.cells #[.int .u64 0, .int .u64 0, .int .u64 0, .int .u64 0, .int .i64 0, .bool false] 122 (0, 0))) := ⟨h2_⟩
 have n3_ : Aside0 (w20.heap[gb257]? = some (.cells #[.int .u64 0, .int .u64 0, .int .u64 0, .int .u64 0, .int .i64 0, .bool false] 122 (0, 0))) := ⟨h3_⟩
 have n4_ : Aside0 (w.heap.size ≤ gb257) := ⟨h4_⟩
 have n5_ : Aside0 (w.heap.size ≤ gb257) := ⟨h5_⟩
 have n6_ : Aside0 (gb250 ≠ gb257) := ⟨h6_⟩
 have n7_ : Aside0 (gb257 ≠ gb250) := ⟨h7_⟩
 have n8_ : Aside0 (gb251 ≠ gb257) := ⟨h8_⟩
 have n9_ : Aside0 (gb257 ≠ gb251) := ⟨h9_⟩
 have n10_ : Aside0 (gb252 ≠ gb257) := ⟨h10_⟩
 have n11_ : Aside0 (gb257 ≠ gb252) := ⟨h11_⟩
 have n12_ : Aside0 (Below w.heap.size w w20) := ⟨h12_⟩
 clear BK250;clear BK251;clear BK252;clear HB;clear h0_ h1_ h2_ h3_ h4_ h5_ h6_ h7_ h8_ h9_ h10_ h11_ h12_;have BK250 := n0_;have BK251 := n1_;have BK252 := n2_;have BK257 := n3_;have GW257 := n4_;have GE257 := n5_;have NB250_257 := n6_;have NB257_250 := n7_;have NB251_257 := n8_;have NB257_251 := n9_;have NB252_257 := n10_;have NB257_252 := n11_;have HB := n12_;clear n0_ n1_ n2_ n3_ n4_ n5_ n6_ n7_ n8_ n9_ n10_ n11_ n12_
 have hHeld : w20.cell? ⟨gb250, 0, none⟩ = some (.bool a0_0) ∧ w20.cell? ⟨gb250, 1, none⟩ = some (.int .i64 a0_1) ∧ w20.cell? ⟨gb250, 2, none⟩ = some (.int .i64 a0_2) ∧ w20.cell? ⟨gb250, 3, none⟩ = some (.int .u64 a0_3) := hS_
 refine norm_ (a' := ?_) ?_ ?_
 rotate_left
 ·simp only [putAll, Act.put, lI_, l0_, lS_]
  rfl
 refine one_ (i := 11) (N := none) #[true, true, true, true, true, true, true, true, true, true, true, true] rfl rfl (one_of HT_.out (by kernel_rfl)) (by decide) (fun K hK => ?_)
 have hs21 : w20.cell? ⟨gb257, 0, none⟩ = some (.int .u64 0) := bc_ BK257.out 0
 have hfs21 := blk_frozen BK257.out 0
 have hns21_0 := NB250_257.out
 have hns21_1 := NB251_257.out
 have hns21_2 := NB252_257.out
 have hms21_0 := NB257_250.out
 have hms21_1 := NB257_251.out
 have hms21_2 := NB257_252.out
 have hs22 : w20.cell? ⟨gb257, 1, none⟩ = some (.int .u64 0) := bc_ BK257.out 1
 have hfs22 := blk_frozen BK257.out 1
 have hns22_0 := NB250_257.out
 have hns22_1 := NB251_257.out
 have hns22_2 := NB252_257.out
 have hms22_0 := NB257_250.out
 have hms22_1 := NB257_251.out
 have hms22_2 := NB257_252.out
 have hs23 : w20.cell? ⟨gb257, 2, none⟩ = some (.int .u64 0) := bc_ BK257.out 2
 have hfs23 := blk_frozen BK257.out 2
 have hns23_0 := NB250_257.out
 have hns23_1 := NB251_257.out
 have hns23_2 := NB252_257.out
 have hms23_0 := NB257_250.out
 have hms23_1 := NB257_251.out
 have hms23_2 := NB257_252.out
 have hs24 : w20.cell? ⟨gb257, 3, none⟩ = some (.int .u64 0) := bc_ BK257.out 3
 have hfs24 := blk_frozen BK257.out 3
 have hns24_0 := NB250_257.out
 have hns24_1 := NB251_257.out
 have hns24_2 := NB252_257.out
 have hms24_0 := NB257_250.out
 have hms24_1 := NB257_251.out
 have hms24_2 := NB257_252.out
 have hs25 : w20.cell? ⟨gb257, 4, none⟩ = some (.int .i64 0) := bc_ BK257.out 4
 have hfs25 := blk_frozen BK257.out 4
 have hns25_0 := NB250_257.out
 have hns25_1 := NB251_257.out
 have hns25_2 := NB252_257.out
 have hms25_0 := NB257_250.out
 have hms25_1 := NB257_251.out
 have hms25_2 := NB257_252.out
 have hs26 : w20.cell? ⟨gb257, 5, none⟩ = some (.bool false) := bc_ BK257.out 5
 have hfs26 := blk_frozen BK257.out 5
 have hns26_0 := NB250_257.out
 have hns26_1 := NB251_257.out
 have hns26_2 := NB252_257.out
 have hms26_0 := NB257_250.out
 have hms26_1 := NB257_251.out
 have hms26_2 := NB257_252.out
 refine skip_ (w1 := ?_) (by rfl) rfl ?_ ?_
 rotate_left
 ·go_simp
  rfl
 refine hK.out _ _ ⟨((cell_far (p := ⟨gb257, _, none⟩) NB250_257.out _).trans (((cell_far (p := ⟨gb257, _, none⟩) NB250_257.out _).trans (((cell_far (p := ⟨gb257, _, none⟩) NB250_257.out _).trans (((cell_far (p := ⟨gb257, _, none⟩) NB250_257.out _).trans (((cell_far (p := ⟨gb257, _, none⟩) NB250_257.out _).trans (((cell_far (p := ⟨gb257, _, none⟩) NB250_257.out _).trans (hHeld.1)))))))))))), ((cell_far (p := ⟨gb257, _, none⟩) NB250_257.out _).trans (((cell_far (p := ⟨gb257, _, none⟩) NB250_257.out _).trans (((cell_far (p := ⟨gb257, _, none⟩) NB250_257.out _).trans (((cell_far (p := ⟨gb257, _, none⟩) NB250_257.out _).trans (((cell_far (p := ⟨gb257, _, none⟩) NB250_257.out _).trans (((cell_far (p := ⟨gb257, _, none⟩) NB250_257.out _).trans (hHeld.2.1)))))))))))), ((cell_far (p := ⟨gb257, _, none⟩) NB250_257.out _).trans (((cell_far (p := ⟨gb257, _, none⟩) NB250_257.out _).trans (((cell_far (p := ⟨gb257, _, none⟩) NB250_257.out _).trans (((cell_far (p := ⟨gb257, _, none⟩) NB250_257.out _).trans (((cell_far (p := ⟨gb257, _, none⟩) NB250_257.out _).trans (((cell_far (p := ⟨gb257, _, none⟩) NB250_257.out _).trans (hHeld.2.2.1)))))))))))), ((cell_far (p := ⟨gb257, _, none⟩) NB250_257.out _).trans (((cell_far (p := ⟨gb257, _, none⟩) NB250_257.out _).trans (((cell_far (p := ⟨gb257, _, none⟩) NB250_257.out _).trans (((cell_far (p := ⟨gb257, _, none⟩) NB250_257.out _).trans (((cell_far (p := ⟨gb257, _, none⟩) NB250_257.out _).trans (((cell_far (p := ⟨gb257, _, none⟩) NB250_257.out _).trans (hHeld.2.2.2))))))))))))⟩ (fun hHeld => ?_)
 clear hK K
 refine done_ (done_of HT_.out (by kernel_rfl)) ?_
 have hnb27 := NB251_257.out
 have hnc27 := NB257_251.out
 have hcz28_0 : w20.cell? ⟨gb251, 0, none⟩ = some (.bool a1_0) := bc_ BK251.out 0
 have hcz28_1 : w20.cell? ⟨gb251, 1, none⟩ = some (.int .i64 a1_1) := bc_ BK251.out 1
 have hcz28_2 : w20.cell? ⟨gb251, 2, none⟩ = some (.int .i64 a1_2) := bc_ BK251.out 2
 have hcz28_3 : w20.cell? ⟨gb251, 3, none⟩ = some (.int .u64 a1_3) := bc_ BK251.out 3
 have hfz28_0 := blk_frozen BK251.out 0
 have hfz28_1 := blk_frozen BK251.out 1
 have hfz28_2 := blk_frozen BK251.out 2
 have hfz28_3 := blk_frozen BK251.out 3
 try go_wp2_with (first | ((with_reducible refine gate_callee (f := 39) rfl ?_); refine gl_ (some 28) Try.func39 #[.int .u64 a1_3] ?_; (with_reducible refine (wide_Of.calls a1_3 t258 t259 _ A6.out).mono ?_); rintro e w29 ⟨rfl, hb⟩; refine ⟨_, rfl, ?_⟩; have n0_ := A_ (blk_below (g := gb250) (o := .cells #[.bool a0_0, .int .i64 a0_1, .int .i64 a0_2, .int .u64 a0_3] 38 (0, 0)) (bf6_ BK250.out NB250_257.out NB250_257.out NB250_257.out NB250_257.out NB250_257.out NB250_257.out) hb); have n1_ := A_ (blk_below (g := gb251) (o := .cells #[.bool a1_0, .int .i64 a1_1, .int .i64 a1_2, .int .u64 a1_3] 38 (0, 0)) (bf6_ BK251.out NB251_257.out NB251_257.out NB251_257.out NB251_257.out NB251_257.out NB251_257.out) hb); have n2_ := A_ (blk_below (g := gb252) (o := .cells #[.int .u64 0, .int .u64 0, .int .u64 0, .int .u64 0, .int .i64 0, .bool false] 122 (0, 0)) (bf6_ BK252.out NB252_257.out NB252_257.out NB252_257.out NB252_257.out NB252_257.out NB252_257.out) hb); have n3_ := A_ (blk_below (g := gb257) (o := .cells #[.int .u64 t255, .int .u64 t256, .int .u64 0, .int .u64 0, .int .i64 (wrap64 (a0_2 - (ji3))), .bool false] 122 (0, 0)) (by (with_reducible repeat (first | refine blk_drewN ?_ _ | refine blk_drew ?_ | refine blk_alloc ?_ _)); refine blk_put (cs := #[.int .u64 t255, .int .u64 t256, .int .u64 0, .int .u64 0, .int .i64 (wrap64 (a0_2 - (ji3))), .bool false]) ?_ 5 _ rfl; (with_reducible repeat (first | refine blk_drewN ?_ _ | refine blk_drew ?_ | refine blk_alloc ?_ _)); refine blk_put (cs := #[.int .u64 t255, .int .u64 t256, .int .u64 0, .int .u64 0, .int .i64 0, .bool false]) ?_ 4 _ rfl; (with_reducible repeat (first | refine blk_drewN ?_ _ | refine blk_drew ?_ | refine blk_alloc ?_ _)); refine blk_put (cs := #[.int .u64 t255, .int .u64 t256, .int .u64 0, .int .u64 0, .int .i64 0, .bool false]) ?_ 3 _ rfl; (with_reducible repeat (first | refine blk_drewN ?_ _ | refine blk_drew ?_ | refine blk_alloc ?_ _)); refine blk_put (cs := #[.int .u64 t255, .int .u64 t256, .int .u64 0, .int .u64 0, .int .i64 0, .bool false]) ?_ 2 _ rfl; (with_reducible repeat (first | refine blk_drewN ?_ _ | refine blk_drew ?_ | refine blk_alloc ?_ _)); refine blk_put (cs := #[.int .u64 t255, .int .u64 0, .int .u64 0, .int .u64 0, .int .i64 0, .bool false]) ?_ 1 _ rfl; (with_reducible repeat (first | refine blk_drewN ?_ _ | refine blk_drew ?_ | refine blk_alloc ?_ _)); refine blk_put (cs := #[.int .u64 0, .int .u64 0, .int .u64 0, .int .u64 0, .int .i64 0, .bool false]) ?_ 0 _ rfl; (with_reducible repeat (first | refine blk_drewN ?_ _ | refine blk_drew ?_ | refine blk_alloc ?_ _)); exact BK257.out) hb); have n4_ := A_ (below_step (hb4_ HB.out GE250.out GE251.out GE252.out GE257.out) hb); clear BK250; clear BK251; clear BK252; clear BK257; clear HB; have BK250 := n0_; have BK251 := n1_; have BK252 := n2_; have BK257 := n3_; have HB := n4_; clear n0_ n1_ n2_ n3_ n4_; (try clear hb); (try clear hb2); (try clear hk); (try clear hi)) | ((with_reducible refine gate_callee (f := 116) rfl ?_); refine goesL_ (some 32) rfl rfl Try.func116 (by kernel_rfl) rfl #[.agg #[.int .u64 t258, .int .u64 t259], .int .i64 (wrap64 ((wrap64 (a0_2 - a1_2)) - (ji3)))] rfl (by (try simp only [List.map_toArray, List.map_cons, List.map_nil]); first | done | (simp only [hji3]; rfl) | rfl | (simp only [List.length_drop, List.length_take]; rfl)) ?_; (with_reducible refine (wide_Right.calls t258 t259 (wrap64 ((wrap64 (a0_2 - a1_2)) - (ji3))) t260 t261 t262 _ A7.out).mono ?_); rintro e w30 ⟨rfl, hb⟩; refine ⟨_, rfl, ?_⟩; have n0_ := A_ (bb_ BK250.out hb); have n1_ := A_ (bb_ BK251.out hb); have n2_ := A_ (bb_ BK252.out hb); have n3_ := A_ (bb_ BK257.out hb); have n4_ := A_ (below_step (hb4_ HB.out GE250.out GE251.out GE252.out GE257.out) hb); clear BK250; clear BK251; clear BK252; clear BK257; clear HB; have BK250 := n0_; have BK251 := n1_; have BK252 := n2_; have BK257 := n3_; have HB := n4_; clear n0_ n1_ n2_ n3_ n4_; (try clear hb); (try clear hb2); (try clear hk); (try clear hi); have hnb31 := NB257_250.out; have hnc31 := NB250_257.out; have hnb32 := NB257_252.out; have hnc32 := NB252_257.out; have hcz33_0 : w30.cell? ⟨gb257, 0, none⟩ = some (.int .u64 t255) := bc_ BK257.out 0; have hcz33_1 : w30.cell? ⟨gb257, 1, none⟩ = some (.int .u64 t256) := bc_ BK257.out 1; have hcz33_2 : w30.cell? ⟨gb257, 2, none⟩ = some (.int .u64 0) := bc_ BK257.out 2; have hcz33_3 : w30.cell? ⟨gb257, 3, none⟩ = some (.int .u64 0) := bc_ BK257.out 3; have hcz33_4 : w30.cell? ⟨gb257, 4, none⟩ = some (.int .i64 (wrap64 (a0_2 - (ji3)))) := bc_ BK257.out 4; have hcz33_5 : w30.cell? ⟨gb257, 5, none⟩ = some (.bool false) := bc_ BK257.out 5; have hfz33_0 := blk_frozen BK257.out 0; have hfz33_1 := blk_frozen BK257.out 1; have hfz33_2 := blk_frozen BK257.out 2; have hfz33_3 := blk_frozen BK257.out 3; have hfz33_4 := blk_frozen BK257.out 4; have hfz33_5 := blk_frozen BK257.out 5; have hcz34_0 : w30.cell? ⟨gb252, 0, none⟩ = some (.int .u64 0) := bc_ BK252.out 0; have hcz34_1 : w30.cell? ⟨gb252, 1, none⟩ = some (.int .u64 0) := bc_ BK252.out 1; have hcz34_2 : w30.cell? ⟨gb252, 2, none⟩ = some (.int .u64 0) := bc_ BK252.out 2; have hcz34_3 : w30.cell? ⟨gb252, 3, none⟩ = some (.int .u64 0) := bc_ BK252.out 3; have hcz34_4 : w30.cell? ⟨gb252, 4, none⟩ = some (.int .i64 0) := bc_ BK252.out 4; have hcz34_5 : w30.cell? ⟨gb252, 5, none⟩ = some (.bool false) := bc_ BK252.out 5; have hfz34_0 := blk_frozen BK252.out 0; have hfz34_1 := blk_frozen BK252.out 1; have hfz34_2 := blk_frozen BK252.out 2; have hfz34_3 := blk_frozen BK252.out 3; have hfz34_4 := blk_frozen BK252.out 4; have hfz34_5 := blk_frozen BK252.out 5))
 refine bodyPost_ret (results_cell_row rfl _ _ gb252 122 #[.int .u64 t255, .int .u64 t256, .int .u64 t260, .int .u64 t261, .int .i64 (wrap64 (a0_2 - (ji3))), .bool t262] (0, 0) _ rfl (by (with_reducible repeat (first | refine blk_drewN ?_ _ | refine blk_drew ?_ | refine blk_alloc ?_ _)); refine blk_put (cs := #[.int .u64 t255, .int .u64 t256, .int .u64 t260, .int .u64 t261, .int .i64 (wrap64 (a0_2 - (ji3))), .bool false]) ?_ 5 _ rfl; (with_reducible repeat (first | refine blk_drewN ?_ _ | refine blk_drew ?_ | refine blk_alloc ?_ _)); refine blk_put (cs := #[.int .u64 t255, .int .u64 t256, .int .u64 t260, .int .u64 t261, .int .i64 0, .bool false]) ?_ 4 _ rfl; (with_reducible repeat (first | refine blk_drewN ?_ _ | refine blk_drew ?_ | refine blk_alloc ?_ _)); refine blk_put (cs := #[.int .u64 t255, .int .u64 t256, .int .u64 t260, .int .u64 0, .int .i64 0, .bool false]) ?_ 3 _ rfl; (with_reducible repeat (first | refine blk_drewN ?_ _ | refine blk_drew ?_ | refine blk_alloc ?_ _)); refine blk_put (cs := #[.int .u64 t255, .int .u64 t256, .int .u64 0, .int .u64 0, .int .i64 0, .bool false]) ?_ 2 _ rfl; (with_reducible repeat (first | refine blk_drewN ?_ _ | refine blk_drew ?_ | refine blk_alloc ?_ _)); refine blk_put (cs := #[.int .u64 t255, .int .u64 0, .int .u64 0, .int .u64 0, .int .i64 0, .bool false]) ?_ 1 _ rfl; (with_reducible repeat (first | refine blk_drewN ?_ _ | refine blk_drew ?_ | refine blk_alloc ?_ _)); refine blk_put (cs := #[.int .u64 0, .int .u64 0, .int .u64 0, .int .u64 0, .int .i64 0, .bool false]) ?_ 0 _ rfl; (with_reducible repeat (first | refine blk_drewN ?_ _ | refine blk_drew ?_ | refine blk_alloc ?_ _)); refine blk_far ?_ NB252_257.out _; (with_reducible repeat (first | refine blk_drewN ?_ _ | refine blk_drew ?_ | refine blk_alloc ?_ _)); refine blk_far ?_ NB252_257.out _; (with_reducible repeat (first | refine blk_drewN ?_ _ | refine blk_drew ?_ | refine blk_alloc ?_ _)); refine blk_far ?_ NB252_257.out _; (with_reducible repeat (first | refine blk_drewN ?_ _ | refine blk_drew ?_ | refine blk_alloc ?_ _)); exact BK252.out) Try.underlying122 rfl (by kernel_rfl)) rfl ?_
 exact ⟨by first | rfl | (simp [errW_none, errW_some] <;> rfl) | (simp only [← hji3]; first | rfl | (simp [errW_none, errW_some] <;> rfl)) | (simp [*, errW_none, errW_some] <;> rfl), hb4_ HB.out GE250.out GE251.out GE252.out GE257.out⟩
end Go.Proofs.Ytbpmnmceajmmcaa.PA
