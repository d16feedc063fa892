/- What the Go functions that the statement ProductScales reaches compute, and the mathematics on it, in the order in which one leans on the other; for every input. -/
import Derived.Test.YtbpmnmceajmmcaaVProductScales0
import Derived.Test.YtbpmnmceajmmcaaMProductScales0
import Derived.Test.YtbpmnmceajmmcaaMProductScales8
import Derived.Test.YtbpmnmceajmmcaaMProductScales1
import Derived.Test.YtbpmnmceajmmcaaMProductScales7
import Derived.Test.YtbpmnmceajmmcaaMProductScales3
namespace Go.Proofs.Ytbpmnmceajmmcaa.PA
open Go.RowKit Go.Proofs.YtbpmnmceajmmcaaW.PrintWords Go.Proofs.YtbpmnmceajmmcaaW.PrintLast Go.Proofs.YtbpmnmceajmmcaaW.PrintMore
attribute [local go_sem] max2_int min2_int max_two min_two max_three min_three max_four min_four   -- for this text's walks alone
set_option linter.unusedVariables false
set_option linter.unusedSimpArgs false
set_option maxHeartbeats 8000000
set_option maxRecDepth 100000
def round_Narrow.f (a0 : Int) (a1_0 : Bool) (a1_1 : Int) (a1_2 : Int) (a1_3 : Int) : Option (Int) := if a1_1 = 0 then ((shape_Zero.f a0 a1_0).bind fun t239 => (some t239)) else (if a1_1 = 1 then ((wide_Of.f a1_3).bind fun bt240 => ((round_Pack.f a0 a1_0 bt240.1 bt240.2 a1_2 false).bind fun t242 => (some t242))) else (if a1_1 = 2 then ((shape_Inf.f a0 a1_0).bind fun t243 => (some t243)) else (if a1_1 = 3 then ((shape_Nan.f a0).bind fun t244 => (some t244)) else (some 0))))
def round_Narrow.T5 : Bool × List (List Nat × List Nat) := (true, [([], []), ([], []), ([1], [1]), ([], []), ([3], [3]), ([4], [4]), ([], []), ([6], [6]), ([0, 2, 5, 7, 5], [0, 2, 5, 7]), ([8, 8, 0, 1, 2, 3, 4, 5, 6, 7, 8], [8])])
def round_Narrow.B5 : List Nat := [0, 0, 2, 0, 8, 24, 0, 64, 255, 511]
theorem round_Narrow.tab5 : rtab .any (opsOf Try.f40 5) = round_Narrow.T5 := by kernel_rfl
theorem round_Narrow.bits5 : waitsOk round_Narrow.T5.2 round_Narrow.B5 = true := by kernel_rfl
theorem round_Narrow.calls (a0 : Int) (a1_0 : Bool) (a1_1 : Int) (a1_2 : Int) (a1_3 : Int) (r : Int) (w : World) (h : round_Narrow.f a0 a1_0 a1_1 a1_2 a1_3 = some r) :
  Calls Try.prog 40 #[.int .i64 a0, .agg #[.bool a1_0, .int .i64 a1_1, .int .i64 a1_2, .int .u64 a1_3]] w fun e w' => e = .returned (.int .u64 r) ∧ Below w.heap.size w w' := by
 have hu38 := Try.underlying38
 have HB := A_ (Below.refl w.heap.size w)
 have H : (if a1_1 = 0 then ((shape_Zero.f a0 a1_0).bind fun t239 => (some t239)) else (if a1_1 = 1 then ((wide_Of.f a1_3).bind fun bt240 => ((round_Pack.f a0 a1_0 bt240.1 bt240.2 a1_2 false).bind fun t242 => (some t242))) else (if a1_1 = 2 then ((shape_Inf.f a0 a1_0).bind fun t243 => (some t243)) else (if a1_1 = 3 then ((shape_Nan.f a0).bind fun t244 => (some t244)) else (some 0))))) = some r := h
 clear h
 by_cases c3 : a1_1 = 0
 ·rw [if_pos c3] at H
  have c3b0 : (a1_1 == 0) = true := beq_iff_eq.mpr c3
  have c3b1 : (a1_1 != 0) = false := bne_eq_false_iff_eq.mpr c3
  clear c3
  replace H := ob_ H
  obtain ⟨t239, A40, H⟩ := H
  replace H : (some t239) = some r := H
  have A4 := A_ A40;clear A40
  obtain rfl := Option.some.inj H
  go_enter Try.func40, Try.ntmps40
  go_wp2_with (first | ((with_reducible refine gate_dst (N := 3) rfl ?_); refine be_ 3 #[.bool a1_0, .int .i64 a1_1, .int .i64 a1_2, .int .u64 a1_3] 38 ?_; intro gb238 hg w5 hbox hb; have n0_ := A_ (below_step (hb_ HB.out) hb); have n1_ := A_ (hbox); have n2_ := A_ (sz_ hg (hb_ HB.out)); have n3_ := A_ (sz_ hg (hb_ HB.out)); clear HB; have HB := n0_; have BK238 := n1_; have GW238 := n2_; have GE238 := n3_; clear n0_ n1_ n2_ n3_; clear hb hbox hg; have hcz6_0 : w5.cell? ⟨gb238, 0, none⟩ = some (.bool a1_0) := bc_ BK238.out 0; have hcz6_1 : w5.cell? ⟨gb238, 1, none⟩ = some (.int .i64 a1_1) := bc_ BK238.out 1; have hcz6_2 : w5.cell? ⟨gb238, 2, none⟩ = some (.int .i64 a1_2) := bc_ BK238.out 2; have hcz6_3 : w5.cell? ⟨gb238, 3, none⟩ = some (.int .u64 a1_3) := bc_ BK238.out 3; have hfz6_0 := blk_frozen BK238.out 0; have hfz6_1 := blk_frozen BK238.out 1; have hfz6_2 := blk_frozen BK238.out 2; have hfz6_3 := blk_frozen BK238.out 3) | ((with_reducible refine gate_callee (f := 30) rfl ?_); refine gl_ (some 12) Try.func30 #[.int .i64 a0, .bool a1_0] ?_; (with_reducible refine (shape_Zero.calls a0 a1_0 t239 _ A4.out).mono ?_); rintro e w7 ⟨rfl, hb⟩; refine ⟨_, rfl, ?_⟩; have n0_ := A_ (bb_ BK238.out hb); have n1_ := A_ (below_step (hb1_ HB.out GE238.out) hb); clear BK238; clear HB; have BK238 := n0_; have HB := n1_; clear n0_ n1_; (try clear hb); (try clear hb2); (try clear hk); (try clear hi)))
  go_ret
  exact ⟨er_, hb1_ HB.out GE238.out⟩
 ·rw [if_neg c3] at H
  have c3b0 : (a1_1 == 0) = false := beq_eq_false_iff_ne.mpr c3
  have c3b1 : (a1_1 != 0) = true := bne_iff_ne.mpr c3
  by_cases c8 : a1_1 = 1
  ·rw [if_pos c8] at H
   have c8b0 : (a1_1 == 1) = true := beq_iff_eq.mpr c8
   have c8b1 : (a1_1 != 1) = false := bne_eq_false_iff_eq.mpr c8
   clear c8
   replace H := ob_ H
   obtain ⟨⟨t240, t241⟩, A90, H⟩ := H
   replace H : ((round_Pack.f a0 a1_0 t240 t241 a1_2 false).bind fun t242 => (some t242)) = some r := H
   have A9 := A_ A90;clear A90
   replace H := ob_ H
   obtain ⟨t242, A100, H⟩ := H
   replace H : (some t242) = some r := H
   have A10 := A_ A100;clear A100
   obtain rfl := Option.some.inj H
   go_enter Try.func40, Try.ntmps40
   try go_wp2_with (first | ((with_reducible refine gate_dst (N := 3) rfl ?_); refine be_ 3 #[.bool a1_0, .int .i64 a1_1, .int .i64 a1_2, .int .u64 a1_3] 38 ?_; intro gb238 hg w11 hbox hb; have n0_ := A_ (below_step (hb_ HB.out) hb); have n1_ := A_ (hbox); have n2_ := A_ (sz_ hg (hb_ HB.out)); have n3_ := A_ (sz_ hg (hb_ HB.out)); clear HB; have HB := n0_; have BK238 := n1_; have GW238 := n2_; have GE238 := n3_; clear n0_ n1_ n2_ n3_; clear hb hbox hg; have hcz12_0 : w11.cell? ⟨gb238, 0, none⟩ = some (.bool a1_0) := bc_ BK238.out 0; have hcz12_1 : w11.cell? ⟨gb238, 1, none⟩ = some (.int .i64 a1_1) := bc_ BK238.out 1; have hcz12_2 : w11.cell? ⟨gb238, 2, none⟩ = some (.int .i64 a1_2) := bc_ BK238.out 2; have hcz12_3 : w11.cell? ⟨gb238, 3, none⟩ = some (.int .u64 a1_3) := bc_ BK238.out 3; have hfz12_0 := blk_frozen BK238.out 0; have hfz12_1 := blk_frozen BK238.out 1; have hfz12_2 := blk_frozen BK238.out 2; have hfz12_3 := blk_frozen BK238.out 3))
   have n0_ := A_ (blk_drew BK238.out)
   have n1_ := A_ (below_drew1 HB.out)
   clear BK238;clear HB;have BK238 := n0_;have HB := n1_;clear n0_ n1_
   refine start_ (n := 10) (S := fun w' => w'.cell? ⟨gb238, 0, none⟩ = some (.bool a1_0) ∧ w'.cell? ⟨gb238, 1, none⟩ = some (.int .i64 a1_1) ∧ w'.cell? ⟨gb238, 2, none⟩ = some (.int .i64 a1_2) ∧ w'.cell? ⟨gb238, 3, none⟩ = some (.int .u64 a1_3)) (ds := []) #[false, false, false, false, false, false, false, false, false, false] (by kernel_rfl) rfl rfl ⟨bc_ BK238.out 0, bc_ BK238.out 1, bc_ BK238.out 2, bc_ BK238.out 3⟩ (fun hHeld => ?_); refine with_tabW round_Narrow.tab5 round_Narrow.bits5 (fun HT_ HW_ => ?_)
   generalize w11.drew = w13 at BK238 HB hHeld ⊢
   refine pu_ 0 (some 15) #[true, false, false, false, false, false, false, false, false, false] rfl rfl (any_of HT_.out (by kernel_rfl)) ?_
   refine pu_ 1 (some 16) #[true, true, false, false, false, false, false, false, false, false] rfl rfl (any_of HT_.out (by kernel_rfl)) ?_
   refine pu_ 3 (some 18) #[true, true, false, true, false, false, false, false, false, false] rfl rfl (any_of HT_.out (by kernel_rfl)) ?_
   refine pu_ 6 (some 21) #[true, true, false, true, false, false, true, false, false, false] rfl rfl (any_of HT_.out (by kernel_rfl)) ?_
   refine tk4_ 2 (some 17) #[true, true, true, true, false, false, true, false, false, false] rfl rfl (take_ofW HT_.out HW_.out (by kernel_rfl)) hHeld ?_
   refine tk4_ 4 (some 19) #[true, true, true, true, true, false, true, false, false, false] rfl rfl (take_ofW HT_.out HW_.out (by kernel_rfl)) hHeld ?_
   refine tk4_ 7 (some 22) #[true, true, true, true, true, false, true, true, false, false] rfl rfl (take_ofW HT_.out HW_.out (by kernel_rfl)) hHeld ?_
   refine one_ (i := 5) (N := some 20) #[true, true, true, true, true, true, true, true, false, false] rfl rfl (one_of HT_.out (by kernel_rfl)) (by decide) (fun K hK => ?_)
   refine goes_ Try.func39 (by kernel_rfl) rfl #[.int .u64 a1_3] (by rfl) rfl rfl mp_ ?_
   with_reducible refine (wide_Of.calls a1_3 t240 t241 _ A9.out).mono ?_
   rintro e w14 ⟨rfl, hb⟩
   refine ⟨_, rfl, ?_⟩
   have n0_ := A_ (bb_ BK238.out hb)
   have n1_ := A_ (below_step (hb1_ HB.out GE238.out) hb)
   clear BK238;clear HB;have BK238 := n0_;have HB := n1_;clear n0_ n1_;(try clear hb);(try clear hb2);(try clear hk);(try clear hi)
   refine hK.out _ _ ⟨bc_ BK238.out 0, bc_ BK238.out 1, bc_ BK238.out 2, bc_ BK238.out 3⟩ (fun hHeld => ?_)
   clear hK K
   refine norm_ (a' := ?_) ?_ ?_
   rotate_left
   ·show Act.put _ (some 20) _ = _
    simp only [Act.put, lI_, l0_, lS_, i64_w, i32_w]
    rfl
   refine one_ (i := 8) (N := some 23) #[true, true, true, true, true, true, true, true, true, false] rfl rfl (one_of HT_.out (by kernel_rfl)) (by decide) (fun K hK => ?_)
   refine goes_ Try.func36 (by kernel_rfl) rfl #[.int .i64 a0, .bool a1_0, .agg #[.int .u64 t240, .int .u64 t241], .int .i64 a1_2, .bool false] (by rfl) rfl rfl mp_ ?_
   with_reducible refine (round_Pack.calls a0 a1_0 t240 t241 a1_2 false t242 _ A10.out).mono ?_
   rintro e w15 ⟨rfl, hb⟩
   refine ⟨_, rfl, ?_⟩
   have n0_ := A_ (bb_ BK238.out hb)
   have n1_ := A_ (below_step (hb1_ HB.out GE238.out) hb)
   clear BK238;clear HB;have BK238 := n0_;have HB := n1_;clear n0_ n1_;(try clear hb);(try clear hb2);(try clear hk);(try clear hi)
   refine hK.out _ _ ⟨bc_ BK238.out 0, bc_ BK238.out 1, bc_ BK238.out 2, bc_ BK238.out 3⟩ (fun hHeld => ?_)
   clear hK K
   refine norm_ (a' := ?_) ?_ ?_
   rotate_left
   ·show Act.put _ (some 23) _ = _
    simp only [Act.put, lI_, l0_, lS_, i64_w, i32_w]
    rfl
   refine pu_ 9 (some 4) #[true, true, true, true, true, true, true, true, true, true] rfl rfl (any_of HT_.out (by kernel_rfl)) ?_
   refine done_ (done_of HT_.out (by kernel_rfl)) ?_
   try go_wp2
   go_ret
   exact ⟨er_, hb1_ HB.out GE238.out⟩
  ·rw [if_neg c8] at H
   have c8b0 : (a1_1 == 1) = false := beq_eq_false_iff_ne.mpr c8
   have c8b1 : (a1_1 != 1) = true := bne_iff_ne.mpr c8
   by_cases c16 : a1_1 = 2
   ·rw [if_pos c16] at H
    have c16b0 : (a1_1 == 2) = true := beq_iff_eq.mpr c16
    have c16b1 : (a1_1 != 2) = false := bne_eq_false_iff_eq.mpr c16
    clear c16
    replace H := ob_ H
    obtain ⟨t243, A170, H⟩ := H
    replace H : (some t243) = some r := H
    have A17 := A_ A170;clear A170
    obtain rfl := Option.some.inj H
    go_enter Try.func40, Try.ntmps40
    go_wp2_with (first | ((with_reducible refine gate_dst (N := 3) rfl ?_); refine be_ 3 #[.bool a1_0, .int .i64 a1_1, .int .i64 a1_2, .int .u64 a1_3] 38 ?_; intro gb238 hg w18 hbox hb; have n0_ := A_ (below_step (hb_ HB.out) hb); have n1_ := A_ (hbox); have n2_ := A_ (sz_ hg (hb_ HB.out)); have n3_ := A_ (sz_ hg (hb_ HB.out)); clear HB; have HB := n0_; have BK238 := n1_; have GW238 := n2_; have GE238 := n3_; clear n0_ n1_ n2_ n3_; clear hb hbox hg; have hcz19_0 : w18.cell? ⟨gb238, 0, none⟩ = some (.bool a1_0) := bc_ BK238.out 0; have hcz19_1 : w18.cell? ⟨gb238, 1, none⟩ = some (.int .i64 a1_1) := bc_ BK238.out 1; have hcz19_2 : w18.cell? ⟨gb238, 2, none⟩ = some (.int .i64 a1_2) := bc_ BK238.out 2; have hcz19_3 : w18.cell? ⟨gb238, 3, none⟩ = some (.int .u64 a1_3) := bc_ BK238.out 3; have hfz19_0 := blk_frozen BK238.out 0; have hfz19_1 := blk_frozen BK238.out 1; have hfz19_2 := blk_frozen BK238.out 2; have hfz19_3 := blk_frozen BK238.out 3) | ((with_reducible refine gate_callee (f := 42) rfl ?_); refine gl_ (some 29) Try.func42 #[.int .i64 a0, .bool a1_0] ?_; (with_reducible refine (shape_Inf.calls a0 a1_0 t243 _ A17.out).mono ?_); rintro e w20 ⟨rfl, hb⟩; refine ⟨_, rfl, ?_⟩; have n0_ := A_ (bb_ BK238.out hb); have n1_ := A_ (below_step (hb1_ HB.out GE238.out) hb); clear BK238; clear HB; have BK238 := n0_; have HB := n1_; clear n0_ n1_; (try clear hb); (try clear hb2); (try clear hk); (try clear hi)))
    go_ret
    exact ⟨er_, hb1_ HB.out GE238.out⟩
   ·rw [if_neg c16] at H
    have c16b0 : (a1_1 == 2) = false := beq_eq_false_iff_ne.mpr c16
    have c16b1 : (a1_1 != 2) = true := bne_iff_ne.mpr c16
    by_cases c21 : a1_1 = 3
    ·rw [if_pos c21] at H
     have c21b0 : (a1_1 == 3) = true := beq_iff_eq.mpr c21
     have c21b1 : (a1_1 != 3) = false := bne_eq_false_iff_eq.mpr c21
     clear c21
     replace H := ob_ H
     obtain ⟨t244, A220, H⟩ := H
     replace H : (some t244) = some r := H
     have A22 := A_ A220;clear A220
     obtain rfl := Option.some.inj H
     go_enter Try.func40, Try.ntmps40
     go_wp2_with (first | ((with_reducible refine gate_dst (N := 3) rfl ?_); refine be_ 3 #[.bool a1_0, .int .i64 a1_1, .int .i64 a1_2, .int .u64 a1_3] 38 ?_; intro gb238 hg w23 hbox hb; have n0_ := A_ (below_step (hb_ HB.out) hb); have n1_ := A_ (hbox); have n2_ := A_ (sz_ hg (hb_ HB.out)); have n3_ := A_ (sz_ hg (hb_ HB.out)); clear HB; have HB := n0_; have BK238 := n1_; have GW238 := n2_; have GE238 := n3_; clear n0_ n1_ n2_ n3_; clear hb hbox hg; have hcz24_0 : w23.cell? ⟨gb238, 0, none⟩ = some (.bool a1_0) := bc_ BK238.out 0; have hcz24_1 : w23.cell? ⟨gb238, 1, none⟩ = some (.int .i64 a1_1) := bc_ BK238.out 1; have hcz24_2 : w23.cell? ⟨gb238, 2, none⟩ = some (.int .i64 a1_2) := bc_ BK238.out 2; have hcz24_3 : w23.cell? ⟨gb238, 3, none⟩ = some (.int .u64 a1_3) := bc_ BK238.out 3; have hfz24_0 := blk_frozen BK238.out 0; have hfz24_1 := blk_frozen BK238.out 1; have hfz24_2 := blk_frozen BK238.out 2; have hfz24_3 := blk_frozen BK238.out 3) | ((with_reducible refine gate_callee (f := 34) rfl ?_); refine gl_ (some 33) Try.func34 #[.int .i64 a0] ?_; (with_reducible refine (shape_Nan.calls a0 t244 _ A22.out).mono ?_); rintro e w25 ⟨rfl, hb⟩; refine ⟨_, rfl, ?_⟩; have n0_ := A_ (bb_ BK238.out hb); have n1_ := A_ (below_step (hb1_ HB.out GE238.out) hb); clear BK238; clear HB; have BK238 := n0_; have HB := n1_; clear n0_ n1_; (try clear hb); (try clear hb2); (try clear hk); (try clear hi)))
     go_ret
     exact ⟨er_, hb1_ HB.out GE238.out⟩
    ·rw [if_neg c21] at H
     have c21b0 : (a1_1 == 3) = false := beq_eq_false_iff_ne.mpr c21
     have c21b1 : (a1_1 != 3) = true := bne_iff_ne.mpr c21
     obtain rfl := Option.some.inj H
     go_enter Try.func40, Try.ntmps40
     go_wp2_with (first | ((with_reducible refine gate_dst (N := 3) rfl ?_); refine be_ 3 #[.bool a1_0, .int .i64 a1_1, .int .i64 a1_2, .int .u64 a1_3] 38 ?_; intro gb238 hg w26 hbox hb; have n0_ := A_ (below_step (hb_ HB.out) hb); have n1_ := A_ (hbox); have n2_ := A_ (sz_ hg (hb_ HB.out)); have n3_ := A_ (sz_ hg (hb_ HB.out)); clear HB; have HB := n0_; have BK238 := n1_; have GW238 := n2_; have GE238 := n3_; clear n0_ n1_ n2_ n3_; clear hb hbox hg; have hcz27_0 : w26.cell? ⟨gb238, 0, none⟩ = some (.bool a1_0) := bc_ BK238.out 0; have hcz27_1 : w26.cell? ⟨gb238, 1, none⟩ = some (.int .i64 a1_1) := bc_ BK238.out 1; have hcz27_2 : w26.cell? ⟨gb238, 2, none⟩ = some (.int .i64 a1_2) := bc_ BK238.out 2; have hcz27_3 : w26.cell? ⟨gb238, 3, none⟩ = some (.int .u64 a1_3) := bc_ BK238.out 3; have hfz27_0 := blk_frozen BK238.out 0; have hfz27_1 := blk_frozen BK238.out 1; have hfz27_2 := blk_frozen BK238.out 2; have hfz27_3 := blk_frozen BK238.out 3))
     go_ret
     exact ⟨er_, hb1_ HB.out GE238.out⟩
-- IMPORT Derived.Test.YtbpmnmceajmmcaaNr
def product_Scale.f (k : Nat) (a0 : Int) (a1 : Int) (a2 : Int) : Option (Int) := (product_known.f a0).bind fun t => if t = true then ((shape_Open.f k a0 a1).bind fun b => round_Narrow.f a0 b.1 b.2.1 (if b.2.1 = 1 then wrap64 (b.2.2.1 + (mn (mx a2 (-1048576)) 1048576)) else b.2.2.1) b.2.2.2) else some 0
theorem product_Scale.mono : ∀ a0 a1 a2 k, LeO (product_Scale.f k a0 a1 a2) (product_Scale.f (k + 1) a0 a1 a2) := by
 intro a0 a1 a2 k
 unfold product_Scale.f
 refine LeO.bind (LeO.refl _) fun t => ?_
 refine LeO.ite (LeO.bind (shape_Open.mono _ _ _) fun _ => LeO.refl _) (LeO.refl _)
theorem product_Scale.calls (k : Nat) (a0 : Int) (a1 : Int) (a2 : Int) (r : Int) (w : World) (h : product_Scale.f k a0 a1 a2 = some r) :
  Calls Try.prog 21 #[.int .i64 a0, .int .u64 a1, .int .i64 a2] w fun e w' => e = .returned (.int .u64 r) ∧ Below w.heap.size w w' := by
 have hu50 := Try.underlying38
 obtain ⟨t, A0, H⟩ := ob_ h
 have B0 := A_ A0;clear A0 h
 cases t
 ·rw [if_neg (by decide)] at H
  obtain rfl := Option.some.inj H
  clear H
  go_enter Try.func21, Try.ntmps21
  go_wp2_with (go_at_call 53; (with_reducible refine (product_known.calls a0 false _ B0.out).mono ?_); rintro e w1 ⟨rfl, hb⟩)
  go_ret
  exact ⟨rfl, hb.below⟩
 ·rw [if_pos rfl] at H
  obtain ⟨⟨s, kd, ex, g⟩, A1, H⟩ := ob_ H
  have B1 := A_ A1
  obtain ⟨n, hn⟩ : ∃ n, (mn (mx a2 (-1048576)) 1048576) = n := ⟨_, rfl⟩
  have N_ := A_ (show (if 1048576 < (if a2 < -1048576 then -1048576 else a2) then 1048576 else (if a2 < -1048576 then -1048576 else a2)) = n from hn)
  simp only [hn] at H
  clear A1 hn
  by_cases c : kd = 1
  ·rw [if_pos c] at H
   subst c
   have B2 := A_ H
   obtain ⟨m, hm⟩ : ∃ m, wrap64 (ex + n) = m := ⟨_, rfl⟩
   rw [hm] at B2
   have M_ := A_ hm;clear H hm
   go_enter Try.func21, Try.ntmps21
   go_wp2_with (first
    | (go_at_call 53; (with_reducible refine (product_known.calls a0 true _ B0.out).mono ?_); rintro e w1 ⟨rfl, hd⟩; have HB := A_ hd.below; clear hd)
    | (go_at_call 31; (with_reducible refine (shape_Open.calls k a0 a1 s 1 ex g _ B1.out).mono ?_); rintro e w2 ⟨rfl, hb⟩; replace HB := A_ (below_step HB.out hb); clear hb; have NN := N_.out; have MM := M_.out)
    | (go_at_call 40; (with_reducible refine (round_Narrow.calls a0 s 1 m g r _ B2.out).mono ?_); rintro e w3 ⟨rfl, hb⟩))
   all_goals (go_ret; exact ⟨rfl, below_step (below_alloc HB.out _) hb⟩)
  ·rw [if_neg c] at H
   have B2 := A_ H
   have c0 : (kd == 1) = false := beq_eq_false_iff_ne.mpr c
   clear H c N_
   go_enter Try.func21, Try.ntmps21
   go_wp2_with (first
    | (go_at_call 53; (with_reducible refine (product_known.calls a0 true _ B0.out).mono ?_); rintro e w1 ⟨rfl, hd⟩; have HB := A_ hd.below; clear hd)
    | (go_at_call 31; (with_reducible refine (shape_Open.calls k a0 a1 s kd ex g _ B1.out).mono ?_); rintro e w2 ⟨rfl, hb⟩; replace HB := A_ (below_step HB.out hb); clear hb)
    | (go_at_call 40; (with_reducible refine (round_Narrow.calls a0 s kd ex g r _ B2.out).mono ?_); rintro e w3 ⟨rfl, hb⟩))
   go_ret
   exact ⟨rfl, below_step (below_alloc HB.out _) hb⟩
def L05_awake.f (k : Nat)  : Option (Bool) := (product_Mul.f k 32 1077936128 1084227584).bind fun t231 => (if t231 = 1097859072 then ((product_Mul.f k 32 1 1056964608).bind fun t232 => (if t232 = 0 then ((product_All.f k 64 ([] : List Int)).bind fun t233 => (some (t233 == 4607182418800017408))) else (some false))) else (some false))
theorem L05_awake.mono : ∀ k, LeO (L05_awake.f k ) (L05_awake.f (k + 1) ) := by
 intro  k
 unfold L05_awake.f
 repeat' first
   | (with_reducible exact product_All.mono _ _ _)
   | (with_reducible exact product_Mul.mono _ _ _ _)
   | (with_reducible exact LeO.refl _)
   | (with_reducible exact LeO.none _)
   | (with_reducible refine LeO.ite ?_ ?_)
   | (with_reducible refine LeO.bind ?_ (fun _ => ?_))
   | exact product_All.mono _ _ _
   | exact product_Mul.mono _ _ _ _
   | exact LeO.none _
   | refine LeO.ite ?_ ?_
   | refine LeO.bind ?_ (fun _ => ?_)
theorem L05_awake.calls (k : Nat)  (r : Bool) (w : World) (h : L05_awake.f k  = some r) :
  Calls Try.prog 15 #[] w fun e w' => e = .returned (.bool r) ∧ Below w.heap.size w w' := by
 have HB := A_ (Below.refl w.heap.size w)
 have H : ((product_Mul.f k 32 1077936128 1084227584).bind fun t231 => (if t231 = 1097859072 then ((product_Mul.f k 32 1 1056964608).bind fun t232 => (if t232 = 0 then ((product_All.f k 64 ([] : List Int)).bind fun t233 => (some (t233 == 4607182418800017408))) else (some false))) else (some false))) = some r := h
 clear h
 replace H := ob_ H
 obtain ⟨t231, A10, H⟩ := H
 replace H : (if t231 = 1097859072 then ((product_Mul.f k 32 1 1056964608).bind fun t232 => (if t232 = 0 then ((product_All.f k 64 ([] : List Int)).bind fun t233 => (some (t233 == 4607182418800017408))) else (some false))) else (some false)) = some r := H
 have A1 := A_ A10;clear A10
 by_cases c2 : t231 = 1097859072
 ·rw [if_pos c2] at H
  have c2b0 : (t231 == 1097859072) = true := beq_iff_eq.mpr c2
  have c2b1 : (t231 != 1097859072) = false := bne_eq_false_iff_eq.mpr c2
  clear c2
  replace H := ob_ H
  obtain ⟨t232, A30, H⟩ := H
  replace H : (if t232 = 0 then ((product_All.f k 64 ([] : List Int)).bind fun t233 => (some (t233 == 4607182418800017408))) else (some false)) = some r := H
  have A3 := A_ A30;clear A30
  by_cases c4 : t232 = 0
  ·rw [if_pos c4] at H
   have c4b0 : (t232 == 0) = true := beq_iff_eq.mpr c4
   have c4b1 : (t232 != 0) = false := bne_eq_false_iff_eq.mpr c4
   clear c4
   replace H := ob_ H
   obtain ⟨t233, A50, H⟩ := H
   replace H : (some (t233 == 4607182418800017408)) = some r := H
   have A5 := A_ A50;clear A50
   obtain rfl := Option.some.inj H
   go_enter Try.func15, Try.ntmps15
   go_wp2_with (first | ((with_reducible refine gate_callee (f := 19) rfl ?_); refine gl_ (some 1) Try.func19 #[.int .i64 32, .int .u64 1077936128, .int .u64 1084227584] ?_; (with_reducible refine (product_Mul.calls k 32 1077936128 1084227584 t231 _ A1.out).mono ?_); rintro e w6 ⟨rfl, hb⟩; refine ⟨_, rfl, ?_⟩; have n0_ := A_ (below_step (hb_ HB.out) hb); clear HB; have HB := n0_; clear n0_; (try clear hb); (try clear hb2); (try clear hk); (try clear hi)) | (go_at_call 19; (with_reducible refine (product_Mul.calls k 32 1 1056964608 t232 _ A3.out).mono ?_); rintro e w7 ⟨rfl, hb⟩; have n0_ := A_ (below_step (hb_ HB.out) hb); clear HB; have HB := n0_; clear n0_; (try clear hb); (try clear hb2); (try clear hk); (try clear hi)) | (go_at_call 22; (refine (product_All.calls k 64 _ _ ([] : List Int) t233 _ ?side1 ?side2 A5.out).mono ?_); (case side1 => exact Kd.C_nil _ _); (case side2 => exact Nat.le_refl _); rintro e w8 ⟨rfl, hb⟩; have n0_ := A_ (below_step (hb_ HB.out) hb); clear HB; have HB := n0_; clear n0_; (try clear hb); (try clear hb2); (try clear hk); (try clear hi)))
   go_ret
   exact ⟨er_, hb_ HB.out⟩
  ·rw [if_neg c4] at H
   have c4b0 : (t232 == 0) = false := beq_eq_false_iff_ne.mpr c4
   have c4b1 : (t232 != 0) = true := bne_iff_ne.mpr c4
   obtain rfl := Option.some.inj H
   go_enter Try.func15, Try.ntmps15
   go_wp2_with (first | ((with_reducible refine gate_callee (f := 19) rfl ?_); refine gl_ (some 1) Try.func19 #[.int .i64 32, .int .u64 1077936128, .int .u64 1084227584] ?_; (with_reducible refine (product_Mul.calls k 32 1077936128 1084227584 t231 _ A1.out).mono ?_); rintro e w9 ⟨rfl, hb⟩; refine ⟨_, rfl, ?_⟩; have n0_ := A_ (below_step (hb_ HB.out) hb); clear HB; have HB := n0_; clear n0_; (try clear hb); (try clear hb2); (try clear hk); (try clear hi)) | (go_at_call 19; (with_reducible refine (product_Mul.calls k 32 1 1056964608 t232 _ A3.out).mono ?_); rintro e w10 ⟨rfl, hb⟩; have n0_ := A_ (below_step (hb_ HB.out) hb); clear HB; have HB := n0_; clear n0_; (try clear hb); (try clear hb2); (try clear hk); (try clear hi)))
   go_ret
   exact ⟨er_, hb_ HB.out⟩
 ·rw [if_neg c2] at H
  have c2b0 : (t231 == 1097859072) = false := beq_eq_false_iff_ne.mpr c2
  have c2b1 : (t231 != 1097859072) = true := bne_iff_ne.mpr c2
  obtain rfl := Option.some.inj H
  go_enter Try.func15, Try.ntmps15
  go_wp2_with (first | ((with_reducible refine gate_callee (f := 19) rfl ?_); refine gl_ (some 1) Try.func19 #[.int .i64 32, .int .u64 1077936128, .int .u64 1084227584] ?_; (with_reducible refine (product_Mul.calls k 32 1077936128 1084227584 t231 _ A1.out).mono ?_); rintro e w11 ⟨rfl, hb⟩; refine ⟨_, rfl, ?_⟩; have n0_ := A_ (below_step (hb_ HB.out) hb); clear HB; have HB := n0_; clear n0_; (try clear hb); (try clear hb2); (try clear hk); (try clear hi)))
  go_ret
  exact ⟨er_, hb_ HB.out⟩
def r2_E.f (a0 : Int) : Option (Int) := if a0 = 32 then (some 8) else (some 11)
theorem r2_E.calls (a0 : Int) (r : Int) (w : World) (h : r2_E.f a0 = some r) :
  Calls Try.prog 89 #[.int .i64 a0] w fun e w' => e = .returned (.int .i64 r) ∧ Drawn0 w w' := by
 have H : (if a0 = 32 then (some 8) else (some 11)) = some r := h
 clear h
 by_cases c2 : a0 = 32
 ·rw [if_pos c2] at H
  have c2b0 : (a0 == 32) = true := beq_iff_eq.mpr c2
  have c2b1 : (a0 != 32) = false := bne_eq_false_iff_eq.mpr c2
  clear c2
  obtain rfl := Option.some.inj H
  go_enter Try.func89, Try.ntmps89
  go_wp2
  go_ret
  exact ⟨sm_, by repeat (first | exact Drawn0.refl _ | apply Drawn0.step)⟩
 ·rw [if_neg c2] at H
  have c2b0 : (a0 == 32) = false := beq_eq_false_iff_ne.mpr c2
  have c2b1 : (a0 != 32) = true := bne_iff_ne.mpr c2
  obtain rfl := Option.some.inj H
  go_enter Try.func89, Try.ntmps89
  go_wp2
  go_ret
  exact ⟨sm_, by repeat (first | exact Drawn0.refl _ | apply Drawn0.step)⟩
def r2_F.f (a0 : Int) : Option (Int) := (r2_E.f a0).bind fun t234 => (some (wrap64 ((wrap64 (a0 - 1)) - t234)))
theorem r2_F.calls (a0 : Int) (r : Int) (w : World) (h : r2_F.f a0 = some r) :
  Calls Try.prog 52 #[.int .i64 a0] w fun e w' => e = .returned (.int .i64 r) ∧ Drawn0 w w' := by
 have H : ((r2_E.f a0).bind fun t234 => (some (wrap64 ((wrap64 (a0 - 1)) - t234)))) = some r := h
 clear h
 replace H := ob_ H
 obtain ⟨t234, A20, H⟩ := H
 replace H : (some (wrap64 ((wrap64 (a0 - 1)) - t234))) = some r := H
 have A2 := A_ A20;clear A20
 obtain rfl := Option.some.inj H
 go_enter Try.func52, Try.ntmps52
 go_wp2_with (first | ((with_reducible refine gate_callee (f := 89) rfl ?_); refine gl_ (some 6) Try.func89 #[.int .i64 a0] ?_; (with_reducible refine (r2_E.calls a0 t234 _ A2.out).mono ?_); rintro e w' ⟨rfl, ⟨nd, rfl⟩⟩; refine ⟨_, rfl, ?_⟩))
 go_ret
 exact ⟨sm_, by repeat (first | exact Drawn0.refl _ | apply Drawn0.step)⟩
def r2_Make.f (k : Nat) (a0 : Int) (a1 : Bool) (a2 : Int) (a3 : Int) : Option (Int) := (r2_F.f a0).bind fun t235 => ((r2_Two.f k t235).bind fun t236 => (if a1 = true then ((r2_Two.f k (wrap64 (a0 - 1))).bind fun t237 => (some (IntKind.u64.wrap ((IntKind.u64.wrap ((IntKind.u64.wrap ((IntKind.u64.wrap (a2)) * t236)) + a3)) + t237)))) else (some (IntKind.u64.wrap ((IntKind.u64.wrap ((IntKind.u64.wrap (a2)) * t236)) + a3)))))
theorem r2_Make.mono : ∀ a0 a1 a2 a3 k, LeO (r2_Make.f k a0 a1 a2 a3) (r2_Make.f (k + 1) a0 a1 a2 a3) := by
 intro a0 a1 a2 a3 k
 unfold r2_Make.f
 repeat' first
   | (with_reducible exact r2_Two.mono _ _)
   | (with_reducible exact LeO.refl _)
   | (with_reducible exact LeO.none _)
   | (with_reducible refine LeO.ite ?_ ?_)
   | (with_reducible refine LeO.bind ?_ (fun _ => ?_))
   | exact r2_Two.mono _ _
   | exact LeO.none _
   | refine LeO.ite ?_ ?_
   | refine LeO.bind ?_ (fun _ => ?_)
theorem r2_Make.calls (k : Nat) (a0 : Int) (a1 : Bool) (a2 : Int) (a3 : Int) (r : Int) (w : World) (h : r2_Make.f k a0 a1 a2 a3 = some r) :
  Calls Try.prog 17 #[.int .i64 a0, .bool a1, .int .i64 a2, .int .u64 a3] w fun e w' => e = .returned (.int .u64 r) ∧ Drawn0 w w' := by
 have H : ((r2_F.f a0).bind fun t235 => ((r2_Two.f k t235).bind fun t236 => (if a1 = true then ((r2_Two.f k (wrap64 (a0 - 1))).bind fun t237 => (some (IntKind.u64.wrap ((IntKind.u64.wrap ((IntKind.u64.wrap ((IntKind.u64.wrap (a2)) * t236)) + a3)) + t237)))) else (some (IntKind.u64.wrap ((IntKind.u64.wrap ((IntKind.u64.wrap (a2)) * t236)) + a3)))))) = some r := h
 clear h
 replace H := ob_ H
 obtain ⟨t235, A50, H⟩ := H
 replace H : ((r2_Two.f k t235).bind fun t236 => (if a1 = true then ((r2_Two.f k (wrap64 (a0 - 1))).bind fun t237 => (some (IntKind.u64.wrap ((IntKind.u64.wrap ((IntKind.u64.wrap ((IntKind.u64.wrap (a2)) * t236)) + a3)) + t237)))) else (some (IntKind.u64.wrap ((IntKind.u64.wrap ((IntKind.u64.wrap (a2)) * t236)) + a3))))) = some r := H
 have A5 := A_ A50;clear A50
 replace H := ob_ H
 obtain ⟨t236, A60, H⟩ := H
 replace H : (if a1 = true then ((r2_Two.f k (wrap64 (a0 - 1))).bind fun t237 => (some (IntKind.u64.wrap ((IntKind.u64.wrap ((IntKind.u64.wrap ((IntKind.u64.wrap (a2)) * t236)) + a3)) + t237)))) else (some (IntKind.u64.wrap ((IntKind.u64.wrap ((IntKind.u64.wrap (a2)) * t236)) + a3)))) = some r := H
 have A6 := A_ A60;clear A60
 by_cases c7 : a1 = true
 ·subst c7
  have H1 : ((r2_Two.f k (wrap64 (a0 - 1))).bind fun t237 => (some (IntKind.u64.wrap ((IntKind.u64.wrap ((IntKind.u64.wrap ((IntKind.u64.wrap (a2)) * t236)) + a3)) + t237)))) = some r := by rw [if_pos rfl] at H; exact H
  clear H;have H := H1;clear H1
  replace H := ob_ H
  obtain ⟨t237, A80, H⟩ := H
  replace H : (some (IntKind.u64.wrap ((IntKind.u64.wrap ((IntKind.u64.wrap ((IntKind.u64.wrap (a2)) * t236)) + a3)) + t237))) = some r := H
  have A8 := A_ A80;clear A80
  obtain rfl := Option.some.inj H
  go_enter Try.func17, Try.ntmps17
  go_wp2_with (first | ((with_reducible refine gate_callee (f := 52) rfl ?_); refine gl_ (some 13) Try.func52 #[.int .i64 a0] ?_; (with_reducible refine (r2_F.calls a0 t235 _ A5.out).mono ?_); rintro e w' ⟨rfl, ⟨nd, rfl⟩⟩; refine ⟨_, rfl, ?_⟩) | ((with_reducible refine gate_callee (f := 51) rfl ?_); refine gl_ (some 14) Try.func51 #[.int .i64 t235] ?_; (with_reducible refine (r2_Two.calls k t235 t236 _ A6.out).mono ?_); rintro e w' ⟨rfl, ⟨nd, rfl⟩⟩; refine ⟨_, rfl, ?_⟩) | ((with_reducible refine gate_callee (f := 51) rfl ?_); refine gl_ (some 22) Try.func51 #[.int .i64 (wrap64 (a0 - 1))] ?_; (with_reducible refine (r2_Two.calls k (wrap64 (a0 - 1)) t237 _ A8.out).mono ?_); rintro e w' ⟨rfl, ⟨nd, rfl⟩⟩; refine ⟨_, rfl, ?_⟩))
  go_ret
  exact ⟨sm_, by repeat (first | exact Drawn0.refl _ | apply Drawn0.step)⟩
 ·replace c7 := Bool.eq_false_iff.mpr c7
  subst c7
  have H1 : (some (IntKind.u64.wrap ((IntKind.u64.wrap ((IntKind.u64.wrap (a2)) * t236)) + a3))) = some r := by rw [if_neg (show ¬ (false = true) by decide)] at H; exact H
  clear H;have H := H1;clear H1
  obtain rfl := Option.some.inj H
  go_enter Try.func17, Try.ntmps17
  go_wp2_with (first | ((with_reducible refine gate_callee (f := 52) rfl ?_); refine gl_ (some 13) Try.func52 #[.int .i64 a0] ?_; (with_reducible refine (r2_F.calls a0 t235 _ A5.out).mono ?_); rintro e w' ⟨rfl, ⟨nd, rfl⟩⟩; refine ⟨_, rfl, ?_⟩) | ((with_reducible refine gate_callee (f := 51) rfl ?_); refine gl_ (some 14) Try.func51 #[.int .i64 t235] ?_; (with_reducible refine (r2_Two.calls k t235 t236 _ A6.out).mono ?_); rintro e w' ⟨rfl, ⟨nd, rfl⟩⟩; refine ⟨_, rfl, ?_⟩))
  go_ret
  exact ⟨sm_, by repeat (first | exact Drawn0.refl _ | apply Drawn0.step)⟩
def r2_Top.f (k : Nat) (a0 : Int) : Option (Int) := (r2_E.f a0).bind fun t331 => ((r2_Two.f k t331).bind fun t332 => (some (wrap64 ((wrap64 (t332)) - 1))))
theorem r2_Top.mono : ∀ a0 k, LeO (r2_Top.f k a0) (r2_Top.f (k + 1) a0) := by
 intro a0 k
 unfold r2_Top.f
 repeat' first
   | (with_reducible exact r2_Two.mono _ _)
   | (with_reducible exact LeO.refl _)
   | (with_reducible exact LeO.none _)
   | (with_reducible refine LeO.ite ?_ ?_)
   | (with_reducible refine LeO.bind ?_ (fun _ => ?_))
   | exact r2_Two.mono _ _
   | exact LeO.none _
   | refine LeO.ite ?_ ?_
   | refine LeO.bind ?_ (fun _ => ?_)
theorem r2_Top.calls (k : Nat) (a0 : Int) (r : Int) (w : World) (h : r2_Top.f k a0 = some r) :
  Calls Try.prog 88 #[.int .i64 a0] w fun e w' => e = .returned (.int .i64 r) ∧ Drawn0 w w' := by
 have H : ((r2_E.f a0).bind fun t331 => ((r2_Two.f k t331).bind fun t332 => (some (wrap64 ((wrap64 (t332)) - 1))))) = some r := h
 clear h
 replace H := ob_ H
 obtain ⟨t331, A20, H⟩ := H
 replace H : ((r2_Two.f k t331).bind fun t332 => (some (wrap64 ((wrap64 (t332)) - 1)))) = some r := H
 have A2 := A_ A20;clear A20
 replace H := ob_ H
 obtain ⟨t332, A30, H⟩ := H
 replace H : (some (wrap64 ((wrap64 (t332)) - 1))) = some r := H
 have A3 := A_ A30;clear A30
 obtain rfl := Option.some.inj H
 go_enter Try.func88, Try.ntmps88
 go_wp2_with (first | ((with_reducible refine gate_callee (f := 89) rfl ?_); refine gl_ (some 4) Try.func89 #[.int .i64 a0] ?_; (with_reducible refine (r2_E.calls a0 t331 _ A2.out).mono ?_); rintro e w' ⟨rfl, ⟨nd, rfl⟩⟩; refine ⟨_, rfl, ?_⟩) | ((with_reducible refine gate_callee (f := 51) rfl ?_); refine gl_ (some 5) Try.func51 #[.int .i64 t331] ?_; (with_reducible refine (r2_Two.calls k t331 t332 _ A3.out).mono ?_); rintro e w' ⟨rfl, ⟨nd, rfl⟩⟩; refine ⟨_, rfl, ?_⟩))
 go_ret
 exact ⟨sm_, by repeat (first | exact Drawn0.refl _ | apply Drawn0.step)⟩
def r2_Inf.f (k : Nat) (a0 : Int) (a1 : Bool) : Option (Int) := (r2_Top.f k a0).bind fun t348 => ((r2_Make.f k a0 a1 t348 0).bind fun t349 => (some t349))
theorem r2_Inf.mono : ∀ a0 a1 k, LeO (r2_Inf.f k a0 a1) (r2_Inf.f (k + 1) a0 a1) := by
 intro a0 a1 k
 unfold r2_Inf.f
 repeat' first
   | (with_reducible exact r2_Make.mono _ _ _ _ _)
   | (with_reducible exact r2_Top.mono _ _)
   | (with_reducible exact LeO.refl _)
   | (with_reducible exact LeO.none _)
   | (with_reducible refine LeO.ite ?_ ?_)
   | (with_reducible refine LeO.bind ?_ (fun _ => ?_))
   | exact r2_Make.mono _ _ _ _ _
   | exact r2_Top.mono _ _
   | exact LeO.none _
   | refine LeO.ite ?_ ?_
   | refine LeO.bind ?_ (fun _ => ?_)
theorem r2_Inf.calls (k : Nat) (a0 : Int) (a1 : Bool) (r : Int) (w : World) (h : r2_Inf.f k a0 a1 = some r) :
  Calls Try.prog 59 #[.int .i64 a0, .bool a1] w fun e w' => e = .returned (.int .u64 r) ∧ Drawn0 w w' := by
 have H : ((r2_Top.f k a0).bind fun t348 => ((r2_Make.f k a0 a1 t348 0).bind fun t349 => (some t349))) = some r := h
 clear h
 replace H := ob_ H
 obtain ⟨t348, A30, H⟩ := H
 replace H : ((r2_Make.f k a0 a1 t348 0).bind fun t349 => (some t349)) = some r := H
 have A3 := A_ A30;clear A30
 replace H := ob_ H
 obtain ⟨t349, A40, H⟩ := H
 replace H : (some t349) = some r := H
 have A4 := A_ A40;clear A40
 obtain rfl := Option.some.inj H
 go_enter Try.func59, Try.ntmps59
 go_wp2_with (first | ((with_reducible refine gate_callee (f := 88) rfl ?_); refine gl_ (some 8) Try.func88 #[.int .i64 a0] ?_; (with_reducible refine (r2_Top.calls k a0 t348 _ A3.out).mono ?_); rintro e w' ⟨rfl, ⟨nd, rfl⟩⟩; refine ⟨_, rfl, ?_⟩) | ((with_reducible refine gate_callee (f := 17) rfl ?_); refine gl_ (some 9) Try.func17 #[.int .i64 a0, .bool a1, .int .i64 t348, .int .u64 0] ?_; (with_reducible refine (r2_Make.calls k a0 a1 t348 0 t349 _ A4.out).mono ?_); rintro e w' ⟨rfl, ⟨nd, rfl⟩⟩; refine ⟨_, rfl, ?_⟩))
 go_ret
 exact ⟨sm_, by repeat (first | exact Drawn0.refl _ | apply Drawn0.step)⟩
def r2_Nan.f (k : Nat) (a0 : Int) : Option (Int) := (r2_Top.f k a0).bind fun t344 => ((r2_F.f a0).bind fun t345 => ((r2_Two.f k (wrap64 (t345 - 1))).bind fun t346 => ((r2_Make.f k a0 false t344 t346).bind fun t347 => (some t347))))
theorem r2_Nan.mono : ∀ a0 k, LeO (r2_Nan.f k a0) (r2_Nan.f (k + 1) a0) := by
 intro a0 k
 unfold r2_Nan.f
 repeat' first
   | (with_reducible exact r2_Make.mono _ _ _ _ _)
   | (with_reducible exact r2_Top.mono _ _)
   | (with_reducible exact r2_Two.mono _ _)
   | (with_reducible exact LeO.refl _)
   | (with_reducible exact LeO.none _)
   | (with_reducible refine LeO.ite ?_ ?_)
   | (with_reducible refine LeO.bind ?_ (fun _ => ?_))
   | exact r2_Make.mono _ _ _ _ _
   | exact r2_Top.mono _ _
   | exact r2_Two.mono _ _
   | exact LeO.none _
   | refine LeO.ite ?_ ?_
   | refine LeO.bind ?_ (fun _ => ?_)
theorem r2_Nan.calls (k : Nat) (a0 : Int) (r : Int) (w : World) (h : r2_Nan.f k a0 = some r) :
  Calls Try.prog 58 #[.int .i64 a0] w fun e w' => e = .returned (.int .u64 r) ∧ Drawn0 w w' := by
 have H : ((r2_Top.f k a0).bind fun t344 => ((r2_F.f a0).bind fun t345 => ((r2_Two.f k (wrap64 (t345 - 1))).bind fun t346 => ((r2_Make.f k a0 false t344 t346).bind fun t347 => (some t347))))) = some r := h
 clear h
 replace H := ob_ H
 obtain ⟨t344, A20, H⟩ := H
 replace H : ((r2_F.f a0).bind fun t345 => ((r2_Two.f k (wrap64 (t345 - 1))).bind fun t346 => ((r2_Make.f k a0 false t344 t346).bind fun t347 => (some t347)))) = some r := H
 have A2 := A_ A20;clear A20
 replace H := ob_ H
 obtain ⟨t345, A30, H⟩ := H
 replace H : ((r2_Two.f k (wrap64 (t345 - 1))).bind fun t346 => ((r2_Make.f k a0 false t344 t346).bind fun t347 => (some t347))) = some r := H
 have A3 := A_ A30;clear A30
 replace H := ob_ H
 obtain ⟨t346, A40, H⟩ := H
 replace H : ((r2_Make.f k a0 false t344 t346).bind fun t347 => (some t347)) = some r := H
 have A4 := A_ A40;clear A40
 replace H := ob_ H
 obtain ⟨t347, A50, H⟩ := H
 replace H : (some t347) = some r := H
 have A5 := A_ A50;clear A50
 obtain rfl := Option.some.inj H
 go_enter Try.func58, Try.ntmps58
 go_wp2_with (first | ((with_reducible refine gate_callee (f := 88) rfl ?_); refine gl_ (some 5) Try.func88 #[.int .i64 a0] ?_; (with_reducible refine (r2_Top.calls k a0 t344 _ A2.out).mono ?_); rintro e w' ⟨rfl, ⟨nd, rfl⟩⟩; refine ⟨_, rfl, ?_⟩) | ((with_reducible refine gate_callee (f := 52) rfl ?_); refine gl_ (some 7) Try.func52 #[.int .i64 a0] ?_; (with_reducible refine (r2_F.calls a0 t345 _ A3.out).mono ?_); rintro e w' ⟨rfl, ⟨nd, rfl⟩⟩; refine ⟨_, rfl, ?_⟩) | ((with_reducible refine gate_callee (f := 51) rfl ?_); refine gl_ (some 9) Try.func51 #[.int .i64 (wrap64 (t345 - 1))] ?_; (with_reducible refine (r2_Two.calls k (wrap64 (t345 - 1)) t346 _ A4.out).mono ?_); rintro e w' ⟨rfl, ⟨nd, rfl⟩⟩; refine ⟨_, rfl, ?_⟩) | ((with_reducible refine gate_callee (f := 17) rfl ?_); refine gl_ (some 10) Try.func17 #[.int .i64 a0, .bool false, .int .i64 t344, .int .u64 t346] ?_; (with_reducible refine (r2_Make.calls k a0 false t344 t346 t347 _ A5.out).mono ?_); rintro e w' ⟨rfl, ⟨nd, rfl⟩⟩; refine ⟨_, rfl, ?_⟩))
 go_ret
 exact ⟨sm_, by repeat (first | exact Drawn0.refl _ | apply Drawn0.step)⟩
def r2_B.f (a0 : Int) : Option (Int) := if a0 = 32 then (some 127) else (some 1023)
theorem r2_B.calls (a0 : Int) (r : Int) (w : World) (h : r2_B.f a0 = some r) :
  Calls Try.prog 18 #[.int .i64 a0] w fun e w' => e = .returned (.int .i64 r) ∧ Drawn0 w w' := by
 have H : (if a0 = 32 then (some 127) else (some 1023)) = some r := h
 clear h
 by_cases c2 : a0 = 32
 ·rw [if_pos c2] at H
  have c2b0 : (a0 == 32) = true := beq_iff_eq.mpr c2
  have c2b1 : (a0 != 32) = false := bne_eq_false_iff_eq.mpr c2
  clear c2
  obtain rfl := Option.some.inj H
  go_enter Try.func18, Try.ntmps18
  go_wp2
  go_ret
  exact ⟨sm_, by repeat (first | exact Drawn0.refl _ | apply Drawn0.step)⟩
 ·rw [if_neg c2] at H
  have c2b0 : (a0 == 32) = false := beq_eq_false_iff_ne.mpr c2
  have c2b1 : (a0 != 32) = true := bne_iff_ne.mpr c2
  obtain rfl := Option.some.inj H
  go_enter Try.func18, Try.ntmps18
  go_wp2
  go_ret
  exact ⟨sm_, by repeat (first | exact Drawn0.refl _ | apply Drawn0.step)⟩
def r2_Exp.f (k : Nat) (a0 : Int) (a1 : Int) : Option (Int) := (r2_Cut.f a0 a1).bind fun t322 => ((r2_F.f a0).bind fun t323 => ((r2_Two.f k t323).bind fun t324 => (if t324 = 0 then (none) else ((r2_E.f a0).bind fun t325 => ((r2_Two.f k t325).bind fun t326 => (if t326 = 0 then (none) else (some (wrap64 (Int.tmod (IntKind.u64.wrap (Int.tdiv t322 t324)) t326)))))))))
theorem r2_Exp.mono : ∀ a0 a1 k, LeO (r2_Exp.f k a0 a1) (r2_Exp.f (k + 1) a0 a1) := by
 intro a0 a1 k
 unfold r2_Exp.f
 repeat' first
   | (with_reducible exact r2_Two.mono _ _)
   | (with_reducible exact LeO.refl _)
   | (with_reducible exact LeO.none _)
   | (with_reducible refine LeO.ite ?_ ?_)
   | (with_reducible refine LeO.bind ?_ (fun _ => ?_))
   | exact r2_Two.mono _ _
   | exact LeO.none _
   | refine LeO.ite ?_ ?_
   | refine LeO.bind ?_ (fun _ => ?_)
theorem r2_Exp.calls (k : Nat) (a0 : Int) (a1 : Int) (r : Int) (w : World) (h : r2_Exp.f k a0 a1 = some r) :
  Calls Try.prog 85 #[.int .i64 a0, .int .u64 a1] w fun e w' => e = .returned (.int .i64 r) ∧ Drawn0 w w' := by
 have H : ((r2_Cut.f a0 a1).bind fun t322 => ((r2_F.f a0).bind fun t323 => ((r2_Two.f k t323).bind fun t324 => (if t324 = 0 then (none) else ((r2_E.f a0).bind fun t325 => ((r2_Two.f k t325).bind fun t326 => (if t326 = 0 then (none) else (some (wrap64 (Int.tmod (IntKind.u64.wrap (Int.tdiv t322 t324)) t326)))))))))) = some r := h
 clear h
 replace H := ob_ H
 obtain ⟨t322, A30, H⟩ := H
 replace H : ((r2_F.f a0).bind fun t323 => ((r2_Two.f k t323).bind fun t324 => (if t324 = 0 then (none) else ((r2_E.f a0).bind fun t325 => ((r2_Two.f k t325).bind fun t326 => (if t326 = 0 then (none) else (some (wrap64 (Int.tmod (IntKind.u64.wrap (Int.tdiv t322 t324)) t326))))))))) = some r := H
 have A3 := A_ A30;clear A30
 replace H := ob_ H
 obtain ⟨t323, A40, H⟩ := H
 replace H : ((r2_Two.f k t323).bind fun t324 => (if t324 = 0 then (none) else ((r2_E.f a0).bind fun t325 => ((r2_Two.f k t325).bind fun t326 => (if t326 = 0 then (none) else (some (wrap64 (Int.tmod (IntKind.u64.wrap (Int.tdiv t322 t324)) t326)))))))) = some r := H
 have A4 := A_ A40;clear A40
 replace H := ob_ H
 obtain ⟨t324, A50, H⟩ := H
 replace H : (if t324 = 0 then (none) else ((r2_E.f a0).bind fun t325 => ((r2_Two.f k t325).bind fun t326 => (if t326 = 0 then (none) else (some (wrap64 (Int.tmod (IntKind.u64.wrap (Int.tdiv t322 t324)) t326))))))) = some r := H
 have A5 := A_ A50;clear A50
 by_cases c6 : t324 = 0
 ·rw [if_pos c6] at H
  exact absurd H (by simp)
 ·rw [if_neg c6] at H
  have c6b0 : (t324 == 0) = false := beq_eq_false_iff_ne.mpr c6
  have c6b1 : (t324 != 0) = true := bne_iff_ne.mpr c6
  replace H := ob_ H
  obtain ⟨t325, A70, H⟩ := H
  replace H : ((r2_Two.f k t325).bind fun t326 => (if t326 = 0 then (none) else (some (wrap64 (Int.tmod (IntKind.u64.wrap (Int.tdiv t322 t324)) t326))))) = some r := H
  have A7 := A_ A70;clear A70
  replace H := ob_ H
  obtain ⟨t326, A80, H⟩ := H
  replace H : (if t326 = 0 then (none) else (some (wrap64 (Int.tmod (IntKind.u64.wrap (Int.tdiv t322 t324)) t326)))) = some r := H
  have A8 := A_ A80;clear A80
  by_cases c9 : t326 = 0
  ·rw [if_pos c9] at H
   exact absurd H (by simp)
  ·rw [if_neg c9] at H
   have c9b0 : (t326 == 0) = false := beq_eq_false_iff_ne.mpr c9
   have c9b1 : (t326 != 0) = true := bne_iff_ne.mpr c9
   obtain rfl := Option.some.inj H
   go_enter Try.func85, Try.ntmps85
   go_wp2_with (first | (go_at_call 49; (with_reducible refine (r2_Cut.calls a0 a1 t322 _ A3.out).mono ?_); rintro e w' ⟨rfl, ⟨nd, rfl⟩⟩; (try first | exact ⟨rfl, _, World.drewN_drewN _ _ _⟩ | exact ⟨rfl, _, Eq.trans (World.drewN_drewN _ _ _) (congrArg (World.drewN _) (Nat.add_assoc _ _ _))⟩)) | (go_at_call 52; (with_reducible refine (r2_F.calls a0 t323 _ A4.out).mono ?_); rintro e w' ⟨rfl, ⟨nd, rfl⟩⟩; (try first | exact ⟨rfl, _, World.drewN_drewN _ _ _⟩ | exact ⟨rfl, _, Eq.trans (World.drewN_drewN _ _ _) (congrArg (World.drewN _) (Nat.add_assoc _ _ _))⟩)) | (go_at_call 51; (with_reducible refine (r2_Two.calls k t323 t324 _ A5.out).mono ?_); rintro e w' ⟨rfl, ⟨nd, rfl⟩⟩; (try first | exact ⟨rfl, _, World.drewN_drewN _ _ _⟩ | exact ⟨rfl, _, Eq.trans (World.drewN_drewN _ _ _) (congrArg (World.drewN _) (Nat.add_assoc _ _ _))⟩)) | (go_at_call 89; (with_reducible refine (r2_E.calls a0 t325 _ A7.out).mono ?_); rintro e w' ⟨rfl, ⟨nd, rfl⟩⟩; (try first | exact ⟨rfl, _, World.drewN_drewN _ _ _⟩ | exact ⟨rfl, _, Eq.trans (World.drewN_drewN _ _ _) (congrArg (World.drewN _) (Nat.add_assoc _ _ _))⟩)) | (go_at_call 51; (with_reducible refine (r2_Two.calls k t325 t326 _ A8.out).mono ?_); rintro e w' ⟨rfl, ⟨nd, rfl⟩⟩; (try first | exact ⟨rfl, _, World.drewN_drewN _ _ _⟩ | exact ⟨rfl, _, Eq.trans (World.drewN_drewN _ _ _) (congrArg (World.drewN _) (Nat.add_assoc _ _ _))⟩)))
   repeat (go_quiet (first | (go_at_call 49; (with_reducible refine (r2_Cut.calls a0 a1 t322 _ A3.out).mono ?_); rintro e w' ⟨rfl, ⟨nd, rfl⟩⟩; (try first | exact ⟨rfl, _, World.drewN_drewN _ _ _⟩ | exact ⟨rfl, _, Eq.trans (World.drewN_drewN _ _ _) (congrArg (World.drewN _) (Nat.add_assoc _ _ _))⟩)) | (go_at_call 52; (with_reducible refine (r2_F.calls a0 t323 _ A4.out).mono ?_); rintro e w' ⟨rfl, ⟨nd, rfl⟩⟩; (try first | exact ⟨rfl, _, World.drewN_drewN _ _ _⟩ | exact ⟨rfl, _, Eq.trans (World.drewN_drewN _ _ _) (congrArg (World.drewN _) (Nat.add_assoc _ _ _))⟩)) | (go_at_call 51; (with_reducible refine (r2_Two.calls k t323 t324 _ A5.out).mono ?_); rintro e w' ⟨rfl, ⟨nd, rfl⟩⟩; (try first | exact ⟨rfl, _, World.drewN_drewN _ _ _⟩ | exact ⟨rfl, _, Eq.trans (World.drewN_drewN _ _ _) (congrArg (World.drewN _) (Nat.add_assoc _ _ _))⟩)) | (go_at_call 89; (with_reducible refine (r2_E.calls a0 t325 _ A7.out).mono ?_); rintro e w' ⟨rfl, ⟨nd, rfl⟩⟩; (try first | exact ⟨rfl, _, World.drewN_drewN _ _ _⟩ | exact ⟨rfl, _, Eq.trans (World.drewN_drewN _ _ _) (congrArg (World.drewN _) (Nat.add_assoc _ _ _))⟩)) | (go_at_call 51; (with_reducible refine (r2_Two.calls k t325 t326 _ A8.out).mono ?_); rintro e w' ⟨rfl, ⟨nd, rfl⟩⟩; (try first | exact ⟨rfl, _, World.drewN_drewN _ _ _⟩ | exact ⟨rfl, _, Eq.trans (World.drewN_drewN _ _ _) (congrArg (World.drewN _) (Nat.add_assoc _ _ _))⟩))); try go_wp2_with (first | (go_at_call 49; (with_reducible refine (r2_Cut.calls a0 a1 t322 _ A3.out).mono ?_); rintro e w' ⟨rfl, ⟨nd, rfl⟩⟩; (try first | exact ⟨rfl, _, World.drewN_drewN _ _ _⟩ | exact ⟨rfl, _, Eq.trans (World.drewN_drewN _ _ _) (congrArg (World.drewN _) (Nat.add_assoc _ _ _))⟩)) | (go_at_call 52; (with_reducible refine (r2_F.calls a0 t323 _ A4.out).mono ?_); rintro e w' ⟨rfl, ⟨nd, rfl⟩⟩; (try first | exact ⟨rfl, _, World.drewN_drewN _ _ _⟩ | exact ⟨rfl, _, Eq.trans (World.drewN_drewN _ _ _) (congrArg (World.drewN _) (Nat.add_assoc _ _ _))⟩)) | (go_at_call 51; (with_reducible refine (r2_Two.calls k t323 t324 _ A5.out).mono ?_); rintro e w' ⟨rfl, ⟨nd, rfl⟩⟩; (try first | exact ⟨rfl, _, World.drewN_drewN _ _ _⟩ | exact ⟨rfl, _, Eq.trans (World.drewN_drewN _ _ _) (congrArg (World.drewN _) (Nat.add_assoc _ _ _))⟩)) | (go_at_call 89; (with_reducible refine (r2_E.calls a0 t325 _ A7.out).mono ?_); rintro e w' ⟨rfl, ⟨nd, rfl⟩⟩; (try first | exact ⟨rfl, _, World.drewN_drewN _ _ _⟩ | exact ⟨rfl, _, Eq.trans (World.drewN_drewN _ _ _) (congrArg (World.drewN _) (Nat.add_assoc _ _ _))⟩)) | (go_at_call 51; (with_reducible refine (r2_Two.calls k t325 t326 _ A8.out).mono ?_); rintro e w' ⟨rfl, ⟨nd, rfl⟩⟩; (try first | exact ⟨rfl, _, World.drewN_drewN _ _ _⟩ | exact ⟨rfl, _, Eq.trans (World.drewN_drewN _ _ _) (congrArg (World.drewN _) (Nat.add_assoc _ _ _))⟩))))
   go_ret
   exact ⟨sm_, by repeat (first | exact Drawn0.refl _ | apply Drawn0.step)⟩
def r2_Frac.f (k : Nat) (a0 : Int) (a1 : Int) : Option (Int) := (r2_F.f a0).bind fun t327 => ((r2_Two.f k t327).bind fun t328 => (if t328 = 0 then (none) else (some (Int.tmod a1 t328))))
theorem r2_Frac.mono : ∀ a0 a1 k, LeO (r2_Frac.f k a0 a1) (r2_Frac.f (k + 1) a0 a1) := by
 intro a0 a1 k
 unfold r2_Frac.f
 repeat' first
   | (with_reducible exact r2_Two.mono _ _)
   | (with_reducible exact LeO.refl _)
   | (with_reducible exact LeO.none _)
   | (with_reducible refine LeO.ite ?_ ?_)
   | (with_reducible refine LeO.bind ?_ (fun _ => ?_))
   | exact r2_Two.mono _ _
   | exact LeO.none _
   | refine LeO.ite ?_ ?_
   | refine LeO.bind ?_ (fun _ => ?_)
theorem r2_Frac.calls (k : Nat) (a0 : Int) (a1 : Int) (r : Int) (w : World) (h : r2_Frac.f k a0 a1 = some r) :
  Calls Try.prog 86 #[.int .i64 a0, .int .u64 a1] w fun e w' => e = .returned (.int .u64 r) ∧ Drawn0 w w' := by
 have H : ((r2_F.f a0).bind fun t327 => ((r2_Two.f k t327).bind fun t328 => (if t328 = 0 then (none) else (some (Int.tmod a1 t328))))) = some r := h
 clear h
 replace H := ob_ H
 obtain ⟨t327, A30, H⟩ := H
 replace H : ((r2_Two.f k t327).bind fun t328 => (if t328 = 0 then (none) else (some (Int.tmod a1 t328)))) = some r := H
 have A3 := A_ A30;clear A30
 replace H := ob_ H
 obtain ⟨t328, A40, H⟩ := H
 replace H : (if t328 = 0 then (none) else (some (Int.tmod a1 t328))) = some r := H
 have A4 := A_ A40;clear A40
 by_cases c5 : t328 = 0
 ·rw [if_pos c5] at H
  exact absurd H (by simp)
 ·rw [if_neg c5] at H
  have c5b0 : (t328 == 0) = false := beq_eq_false_iff_ne.mpr c5
  have c5b1 : (t328 != 0) = true := bne_iff_ne.mpr c5
  obtain rfl := Option.some.inj H
  go_enter Try.func86, Try.ntmps86
  go_wp2_with (first | ((with_reducible refine gate_callee (f := 52) rfl ?_); refine gl_ (some 7) Try.func52 #[.int .i64 a0] ?_; (with_reducible refine (r2_F.calls a0 t327 _ A3.out).mono ?_); rintro e w' ⟨rfl, ⟨nd, rfl⟩⟩; refine ⟨_, rfl, ?_⟩) | ((with_reducible refine gate_callee (f := 51) rfl ?_); refine gl_ (some 8) Try.func51 #[.int .i64 t327] ?_; (with_reducible refine (r2_Two.calls k t327 t328 _ A4.out).mono ?_); rintro e w' ⟨rfl, ⟨nd, rfl⟩⟩; refine ⟨_, rfl, ?_⟩))
  go_ret
  exact ⟨sm_, by repeat (first | exact Drawn0.refl _ | apply Drawn0.step)⟩
def r2_Open.f (k : Nat) (a0 : Int) (a1 : Int) : Option (Bool × Int × Int × Int) := (r2_Exp.f k a0 a1).bind fun t334 => ((r2_Frac.f k a0 a1).bind fun t335 => ((r2_Neg.f k a0 a1).bind fun t336 => ((r2_Top.f k a0).bind fun t337 => (if t334 = t337 then (if t335 = 0 then (some (t336, 2, 0, 0)) else (some (false, 3, 0, 0))) else (if t334 = 0 then (if t335 = 0 then (some (t336, 0, 0, 0)) else ((r2_B.f a0).bind fun t338 => ((r2_F.f a0).bind fun t339 => (some (t336, 1, wrap64 ((wrap64 (1 - t338)) - t339), t335))))) else ((r2_B.f a0).bind fun t340 => ((r2_F.f a0).bind fun t341 => ((r2_F.f a0).bind fun t342 => ((r2_Two.f k t342).bind fun t343 => (some (t336, 1, wrap64 ((wrap64 (t334 - t340)) - t341), IntKind.u64.wrap (t343 + t335))))))))))))
theorem r2_Open.mono : ∀ a0 a1 k, LeO (r2_Open.f k a0 a1) (r2_Open.f (k + 1) a0 a1) := by
 intro a0 a1 k
 unfold r2_Open.f
 repeat' first
   | (with_reducible exact r2_Exp.mono _ _ _)
   | (with_reducible exact r2_Frac.mono _ _ _)
   | (with_reducible exact r2_Neg.mono _ _ _)
   | (with_reducible exact r2_Top.mono _ _)
   | (with_reducible exact r2_Two.mono _ _)
   | (with_reducible exact LeO.refl _)
   | (with_reducible exact LeO.none _)
   | (with_reducible refine LeO.ite ?_ ?_)
   | (with_reducible refine LeO.bind ?_ (fun _ => ?_))
   | exact r2_Exp.mono _ _ _
   | exact r2_Frac.mono _ _ _
   | exact r2_Neg.mono _ _ _
   | exact r2_Top.mono _ _
   | exact r2_Two.mono _ _
   | exact LeO.none _
   | refine LeO.ite ?_ ?_
   | refine LeO.bind ?_ (fun _ => ?_)
theorem r2_Open.calls (k : Nat) (a0 : Int) (a1 : Int) (r1 : Bool) (r2 : Int) (r3 : Int) (r4 : Int) (w : World) (h : r2_Open.f k a0 a1 = some (r1, r2, r3, r4)) :
  Calls Try.prog 48 #[.int .i64 a0, .int .u64 a1] w fun e w' => e = .returned (.agg #[.bool r1, .int .i64 r2, .int .i64 r3, .int .u64 r4]) ∧ Below w.heap.size w w' := by
 have hu57 := Try.underlying57
 have HB := A_ (Below.refl w.heap.size w)
 have H : ((r2_Exp.f k a0 a1).bind fun t334 => ((r2_Frac.f k a0 a1).bind fun t335 => ((r2_Neg.f k a0 a1).bind fun t336 => ((r2_Top.f k a0).bind fun t337 => (if t334 = t337 then (if t335 = 0 then (some (t336, 2, 0, 0)) else (some (false, 3, 0, 0))) else (if t334 = 0 then (if t335 = 0 then (some (t336, 0, 0, 0)) else ((r2_B.f a0).bind fun t338 => ((r2_F.f a0).bind fun t339 => (some (t336, 1, wrap64 ((wrap64 (1 - t338)) - t339), t335))))) else ((r2_B.f a0).bind fun t340 => ((r2_F.f a0).bind fun t341 => ((r2_F.f a0).bind fun t342 => ((r2_Two.f k t342).bind fun t343 => (some (t336, 1, wrap64 ((wrap64 (t334 - t340)) - t341), IntKind.u64.wrap (t343 + t335))))))))))))) = some (r1, r2, r3, r4) := h
 clear h
 replace H := ob_ H
 obtain ⟨t334, A30, H⟩ := H
 replace H : ((r2_Frac.f k a0 a1).bind fun t335 => ((r2_Neg.f k a0 a1).bind fun t336 => ((r2_Top.f k a0).bind fun t337 => (if t334 = t337 then (if t335 = 0 then (some (t336, 2, 0, 0)) else (some (false, 3, 0, 0))) else (if t334 = 0 then (if t335 = 0 then (some (t336, 0, 0, 0)) else ((r2_B.f a0).bind fun t338 => ((r2_F.f a0).bind fun t339 => (some (t336, 1, wrap64 ((wrap64 (1 - t338)) - t339), t335))))) else ((r2_B.f a0).bind fun t340 => ((r2_F.f a0).bind fun t341 => ((r2_F.f a0).bind fun t342 => ((r2_Two.f k t342).bind fun t343 => (some (t336, 1, wrap64 ((wrap64 (t334 - t340)) - t341), IntKind.u64.wrap (t343 + t335)))))))))))) = some (r1, r2, r3, r4) := H
 have A3 := A_ A30;clear A30
 replace H := ob_ H
 obtain ⟨t335, A40, H⟩ := H
 replace H : ((r2_Neg.f k a0 a1).bind fun t336 => ((r2_Top.f k a0).bind fun t337 => (if t334 = t337 then (if t335 = 0 then (some (t336, 2, 0, 0)) else (some (false, 3, 0, 0))) else (if t334 = 0 then (if t335 = 0 then (some (t336, 0, 0, 0)) else ((r2_B.f a0).bind fun t338 => ((r2_F.f a0).bind fun t339 => (some (t336, 1, wrap64 ((wrap64 (1 - t338)) - t339), t335))))) else ((r2_B.f a0).bind fun t340 => ((r2_F.f a0).bind fun t341 => ((r2_F.f a0).bind fun t342 => ((r2_Two.f k t342).bind fun t343 => (some (t336, 1, wrap64 ((wrap64 (t334 - t340)) - t341), IntKind.u64.wrap (t343 + t335))))))))))) = some (r1, r2, r3, r4) := H
 have A4 := A_ A40;clear A40
 replace H := ob_ H
 obtain ⟨t336, A50, H⟩ := H
 replace H : ((r2_Top.f k a0).bind fun t337 => (if t334 = t337 then (if t335 = 0 then (some (t336, 2, 0, 0)) else (some (false, 3, 0, 0))) else (if t334 = 0 then (if t335 = 0 then (some (t336, 0, 0, 0)) else ((r2_B.f a0).bind fun t338 => ((r2_F.f a0).bind fun t339 => (some (t336, 1, wrap64 ((wrap64 (1 - t338)) - t339), t335))))) else ((r2_B.f a0).bind fun t340 => ((r2_F.f a0).bind fun t341 => ((r2_F.f a0).bind fun t342 => ((r2_Two.f k t342).bind fun t343 => (some (t336, 1, wrap64 ((wrap64 (t334 - t340)) - t341), IntKind.u64.wrap (t343 + t335)))))))))) = some (r1, r2, r3, r4) := H
 have A5 := A_ A50;clear A50
 replace H := ob_ H
 obtain ⟨t337, A60, H⟩ := H
 replace H : (if t334 = t337 then (if t335 = 0 then (some (t336, 2, 0, 0)) else (some (false, 3, 0, 0))) else (if t334 = 0 then (if t335 = 0 then (some (t336, 0, 0, 0)) else ((r2_B.f a0).bind fun t338 => ((r2_F.f a0).bind fun t339 => (some (t336, 1, wrap64 ((wrap64 (1 - t338)) - t339), t335))))) else ((r2_B.f a0).bind fun t340 => ((r2_F.f a0).bind fun t341 => ((r2_F.f a0).bind fun t342 => ((r2_Two.f k t342).bind fun t343 => (some (t336, 1, wrap64 ((wrap64 (t334 - t340)) - t341), IntKind.u64.wrap (t343 + t335))))))))) = some (r1, r2, r3, r4) := H
 have A6 := A_ A60;clear A60
 by_cases c7 : t334 = t337
 ·rw [if_pos c7] at H
  have c7b0 : (t334 == t337) = true := beq_iff_eq.mpr c7
  have c7b1 : (t334 != t337) = false := bne_eq_false_iff_eq.mpr c7
  clear c7
  by_cases c8 : t335 = 0
  ·rw [if_pos c8] at H
   have c8b0 : (t335 == 0) = true := beq_iff_eq.mpr c8
   have c8b1 : (t335 != 0) = false := bne_eq_false_iff_eq.mpr c8
   clear c8
   simp only [Option.some.injEq, Prod.mk.injEq] at H
   obtain ⟨rfl, rfl, rfl, rfl⟩ := H
   go_enter Try.func48, Try.ntmps48
   go_wp2_with (first | ((with_reducible refine gate_dst (N := 4) rfl ?_); refine be_ 4 #[.bool false, .int .i64 0, .int .i64 0, .int .u64 0] 57 ?_; intro gb333 hg w9 hbox hb; have n0_ := A_ (below_step (hb_ HB.out) hb); have n1_ := A_ (hbox); have n2_ := A_ (sz_ hg (hb_ HB.out)); have n3_ := A_ (sz_ hg (hb_ HB.out)); clear HB; have HB := n0_; have BK333 := n1_; have GW333 := n2_; have GE333 := n3_; clear n0_ n1_ n2_ n3_; clear hb hbox hg) | ((with_reducible refine gate_callee (f := 85) rfl ?_); refine gl_ (some 10) Try.func85 #[.int .i64 a0, .int .u64 a1] ?_; (with_reducible refine (r2_Exp.calls k a0 a1 t334 _ A3.out).mono ?_); rintro e w' ⟨rfl, ⟨nd, rfl⟩⟩; refine ⟨_, rfl, ?_⟩; (try (rw [drewN_self w9]; generalize hq_ : World.drewN w9 _ = w9; have n0_ : Aside0 (w9.heap[gb333]? = some (.cells #[.bool false, .int .i64 0, .int .i64 0, .int .u64 0] 57 (0, 0))) := ⟨by rw [← hq_]; exact (bk_ BK333.out)⟩; have n1_ : Aside0 (Below w.heap.size w w9) := ⟨by rw [← hq_]; exact (hb1_ HB.out GE333.out)⟩; clear BK333 HB hq_; have BK333 := n0_; have HB := n1_; clear n0_ n1_))) | ((with_reducible refine gate_callee (f := 86) rfl ?_); refine gl_ (some 13) Try.func86 #[.int .i64 a0, .int .u64 a1] ?_; (with_reducible refine (r2_Frac.calls k a0 a1 t335 _ A4.out).mono ?_); rintro e w' ⟨rfl, ⟨nd, rfl⟩⟩; refine ⟨_, rfl, ?_⟩; (try (rw [drewN_self w9]; generalize hq_ : World.drewN w9 _ = w9; have n0_ : Aside0 (w9.heap[gb333]? = some (.cells #[.bool false, .int .i64 0, .int .i64 0, .int .u64 0] 57 (0, 0))) := ⟨by rw [← hq_]; exact (bk_ BK333.out)⟩; have n1_ : Aside0 (Below w.heap.size w w9) := ⟨by rw [← hq_]; exact (hb1_ HB.out GE333.out)⟩; clear BK333 HB hq_; have BK333 := n0_; have HB := n1_; clear n0_ n1_))) | ((with_reducible refine gate_callee (f := 87) rfl ?_); refine gl_ (some 16) Try.func87 #[.int .i64 a0, .int .u64 a1] ?_; (with_reducible refine (r2_Neg.calls k a0 a1 t336 _ A5.out).mono ?_); rintro e w' ⟨rfl, ⟨nd, rfl⟩⟩; refine ⟨_, rfl, ?_⟩; (try (rw [drewN_self w9]; generalize hq_ : World.drewN w9 _ = w9; have n0_ : Aside0 (w9.heap[gb333]? = some (.cells #[.bool false, .int .i64 0, .int .i64 0, .int .u64 0] 57 (0, 0))) := ⟨by rw [← hq_]; exact (bk_ BK333.out)⟩; have n1_ : Aside0 (Below w.heap.size w w9) := ⟨by rw [← hq_]; exact (hb1_ HB.out GE333.out)⟩; clear BK333 HB hq_; have BK333 := n0_; have HB := n1_; clear n0_ n1_))) | ((with_reducible refine gate_callee (f := 88) rfl ?_); refine gl_ (some 19) Try.func88 #[.int .i64 a0] ?_; (with_reducible refine (r2_Top.calls k a0 t337 _ A6.out).mono ?_); rintro e w' ⟨rfl, ⟨nd, rfl⟩⟩; refine ⟨_, rfl, ?_⟩; (try (rw [drewN_self w9]; generalize hq_ : World.drewN w9 _ = w9; have n0_ : Aside0 (w9.heap[gb333]? = some (.cells #[.bool false, .int .i64 0, .int .i64 0, .int .u64 0] 57 (0, 0))) := ⟨by rw [← hq_]; exact (bk_ BK333.out)⟩; have n1_ : Aside0 (Below w.heap.size w w9) := ⟨by rw [← hq_]; exact (hb1_ HB.out GE333.out)⟩; clear BK333 HB hq_; have BK333 := n0_; have HB := n1_; clear n0_ n1_)); have hcz10_0 : w9.cell? ⟨gb333, 0, none⟩ = some (.bool false) := bc_ BK333.out 0; have hcz10_1 : w9.cell? ⟨gb333, 1, none⟩ = some (.int .i64 0) := bc_ BK333.out 1; have hcz10_2 : w9.cell? ⟨gb333, 2, none⟩ = some (.int .i64 0) := bc_ BK333.out 2; have hcz10_3 : w9.cell? ⟨gb333, 3, none⟩ = some (.int .u64 0) := bc_ BK333.out 3; have hfz10_0 := blk_frozen BK333.out 0; have hfz10_1 := blk_frozen BK333.out 1; have hfz10_2 := blk_frozen BK333.out 2; have hfz10_3 := blk_frozen BK333.out 3))
   refine bodyPost_ret (results_cell_row rfl _ _ gb333 57 #[.bool t336, .int .i64 2, .int .i64 0, .int .u64 0] (0, 0) _ rfl (by (with_reducible repeat (first | refine blk_drewN ?_ _ | refine blk_drew ?_ | refine blk_alloc ?_ _)); refine blk_put (cs := #[.bool t336, .int .i64 2, .int .i64 0, .int .u64 0]) ?_ 3 _ rfl; (with_reducible repeat (first | refine blk_drewN ?_ _ | refine blk_drew ?_ | refine blk_alloc ?_ _)); refine blk_put (cs := #[.bool t336, .int .i64 2, .int .i64 0, .int .u64 0]) ?_ 2 _ rfl; (with_reducible repeat (first | refine blk_drewN ?_ _ | refine blk_drew ?_ | refine blk_alloc ?_ _)); refine blk_put (cs := #[.bool t336, .int .i64 0, .int .i64 0, .int .u64 0]) ?_ 1 _ rfl; (with_reducible repeat (first | refine blk_drewN ?_ _ | refine blk_drew ?_ | refine blk_alloc ?_ _)); refine blk_put (cs := #[.bool false, .int .i64 0, .int .i64 0, .int .u64 0]) ?_ 0 _ rfl; (with_reducible repeat (first | refine blk_drewN ?_ _ | refine blk_drew ?_ | refine blk_alloc ?_ _)); exact BK333.out) Try.underlying57 rfl (by kernel_rfl)) rfl ?_
   exact ⟨er_, hb1_ HB.out GE333.out⟩
  ·rw [if_neg c8] at H
   have c8b0 : (t335 == 0) = false := beq_eq_false_iff_ne.mpr c8
   have c8b1 : (t335 != 0) = true := bne_iff_ne.mpr c8
   simp only [Option.some.injEq, Prod.mk.injEq] at H
   obtain ⟨rfl, rfl, rfl, rfl⟩ := H
   go_enter Try.func48, Try.ntmps48
   go_wp2_with (first | ((with_reducible refine gate_dst (N := 4) rfl ?_); refine be_ 4 #[.bool false, .int .i64 0, .int .i64 0, .int .u64 0] 57 ?_; intro gb333 hg w11 hbox hb; have n0_ := A_ (below_step (hb_ HB.out) hb); have n1_ := A_ (hbox); have n2_ := A_ (sz_ hg (hb_ HB.out)); have n3_ := A_ (sz_ hg (hb_ HB.out)); clear HB; have HB := n0_; have BK333 := n1_; have GW333 := n2_; have GE333 := n3_; clear n0_ n1_ n2_ n3_; clear hb hbox hg) | ((with_reducible refine gate_callee (f := 85) rfl ?_); refine gl_ (some 10) Try.func85 #[.int .i64 a0, .int .u64 a1] ?_; (with_reducible refine (r2_Exp.calls k a0 a1 t334 _ A3.out).mono ?_); rintro e w' ⟨rfl, ⟨nd, rfl⟩⟩; refine ⟨_, rfl, ?_⟩; (try (rw [drewN_self w11]; generalize hq_ : World.drewN w11 _ = w11; have n0_ : Aside0 (w11.heap[gb333]? = some (.cells #[.bool false, .int .i64 0, .int .i64 0, .int .u64 0] 57 (0, 0))) := ⟨by rw [← hq_]; exact (bk_ BK333.out)⟩; have n1_ : Aside0 (Below w.heap.size w w11) := ⟨by rw [← hq_]; exact (hb1_ HB.out GE333.out)⟩; clear BK333 HB hq_; have BK333 := n0_; have HB := n1_; clear n0_ n1_))) | ((with_reducible refine gate_callee (f := 86) rfl ?_); refine gl_ (some 13) Try.func86 #[.int .i64 a0, .int .u64 a1] ?_; (with_reducible refine (r2_Frac.calls k a0 a1 t335 _ A4.out).mono ?_); rintro e w' ⟨rfl, ⟨nd, rfl⟩⟩; refine ⟨_, rfl, ?_⟩; (try (rw [drewN_self w11]; generalize hq_ : World.drewN w11 _ = w11; have n0_ : Aside0 (w11.heap[gb333]? = some (.cells #[.bool false, .int .i64 0, .int .i64 0, .int .u64 0] 57 (0, 0))) := ⟨by rw [← hq_]; exact (bk_ BK333.out)⟩; have n1_ : Aside0 (Below w.heap.size w w11) := ⟨by rw [← hq_]; exact (hb1_ HB.out GE333.out)⟩; clear BK333 HB hq_; have BK333 := n0_; have HB := n1_; clear n0_ n1_))) | ((with_reducible refine gate_callee (f := 87) rfl ?_); refine gl_ (some 16) Try.func87 #[.int .i64 a0, .int .u64 a1] ?_; (with_reducible refine (r2_Neg.calls k a0 a1 t336 _ A5.out).mono ?_); rintro e w' ⟨rfl, ⟨nd, rfl⟩⟩; refine ⟨_, rfl, ?_⟩; (try (rw [drewN_self w11]; generalize hq_ : World.drewN w11 _ = w11; have n0_ : Aside0 (w11.heap[gb333]? = some (.cells #[.bool false, .int .i64 0, .int .i64 0, .int .u64 0] 57 (0, 0))) := ⟨by rw [← hq_]; exact (bk_ BK333.out)⟩; have n1_ : Aside0 (Below w.heap.size w w11) := ⟨by rw [← hq_]; exact (hb1_ HB.out GE333.out)⟩; clear BK333 HB hq_; have BK333 := n0_; have HB := n1_; clear n0_ n1_))) | ((with_reducible refine gate_callee (f := 88) rfl ?_); refine gl_ (some 19) Try.func88 #[.int .i64 a0] ?_; (with_reducible refine (r2_Top.calls k a0 t337 _ A6.out).mono ?_); rintro e w' ⟨rfl, ⟨nd, rfl⟩⟩; refine ⟨_, rfl, ?_⟩; (try (rw [drewN_self w11]; generalize hq_ : World.drewN w11 _ = w11; have n0_ : Aside0 (w11.heap[gb333]? = some (.cells #[.bool false, .int .i64 0, .int .i64 0, .int .u64 0] 57 (0, 0))) := ⟨by rw [← hq_]; exact (bk_ BK333.out)⟩; have n1_ : Aside0 (Below w.heap.size w w11) := ⟨by rw [← hq_]; exact (hb1_ HB.out GE333.out)⟩; clear BK333 HB hq_; have BK333 := n0_; have HB := n1_; clear n0_ n1_)); have hcz12_0 : w11.cell? ⟨gb333, 0, none⟩ = some (.bool false) := bc_ BK333.out 0; have hcz12_1 : w11.cell? ⟨gb333, 1, none⟩ = some (.int .i64 0) := bc_ BK333.out 1; have hcz12_2 : w11.cell? ⟨gb333, 2, none⟩ = some (.int .i64 0) := bc_ BK333.out 2; have hcz12_3 : w11.cell? ⟨gb333, 3, none⟩ = some (.int .u64 0) := bc_ BK333.out 3; have hfz12_0 := blk_frozen BK333.out 0; have hfz12_1 := blk_frozen BK333.out 1; have hfz12_2 := blk_frozen BK333.out 2; have hfz12_3 := blk_frozen BK333.out 3))
   refine bodyPost_ret (results_cell_row rfl _ _ gb333 57 #[.bool false, .int .i64 3, .int .i64 0, .int .u64 0] (0, 0) _ rfl (by (with_reducible repeat (first | refine blk_drewN ?_ _ | refine blk_drew ?_ | refine blk_alloc ?_ _)); refine blk_put (cs := #[.bool false, .int .i64 3, .int .i64 0, .int .u64 0]) ?_ 3 _ rfl; (with_reducible repeat (first | refine blk_drewN ?_ _ | refine blk_drew ?_ | refine blk_alloc ?_ _)); refine blk_put (cs := #[.bool false, .int .i64 3, .int .i64 0, .int .u64 0]) ?_ 2 _ rfl; (with_reducible repeat (first | refine blk_drewN ?_ _ | refine blk_drew ?_ | refine blk_alloc ?_ _)); refine blk_put (cs := #[.bool false, .int .i64 0, .int .i64 0, .int .u64 0]) ?_ 1 _ rfl; (with_reducible repeat (first | refine blk_drewN ?_ _ | refine blk_drew ?_ | refine blk_alloc ?_ _)); refine blk_put (cs := #[.bool false, .int .i64 0, .int .i64 0, .int .u64 0]) ?_ 0 _ rfl; (with_reducible repeat (first | refine blk_drewN ?_ _ | refine blk_drew ?_ | refine blk_alloc ?_ _)); exact BK333.out) Try.underlying57 rfl (by kernel_rfl)) rfl ?_
   exact ⟨er_, hb1_ HB.out GE333.out⟩
 ·rw [if_neg c7] at H
  have c7b0 : (t334 == t337) = false := beq_eq_false_iff_ne.mpr c7
  have c7b1 : (t334 != t337) = true := bne_iff_ne.mpr c7
  by_cases c13 : t334 = 0
  ·rw [if_pos c13] at H
   have c13b0 : (t334 == 0) = true := beq_iff_eq.mpr c13
   have c13b1 : (t334 != 0) = false := bne_eq_false_iff_eq.mpr c13
   clear c13
   by_cases c14 : t335 = 0
   ·rw [if_pos c14] at H
    have c14b0 : (t335 == 0) = true := beq_iff_eq.mpr c14
    have c14b1 : (t335 != 0) = false := bne_eq_false_iff_eq.mpr c14
    clear c14
    simp only [Option.some.injEq, Prod.mk.injEq] at H
    obtain ⟨rfl, rfl, rfl, rfl⟩ := H
    go_enter Try.func48, Try.ntmps48
    go_wp2_with (first | ((with_reducible refine gate_dst (N := 4) rfl ?_); refine be_ 4 #[.bool false, .int .i64 0, .int .i64 0, .int .u64 0] 57 ?_; intro gb333 hg w15 hbox hb; have n0_ := A_ (below_step (hb_ HB.out) hb); have n1_ := A_ (hbox); have n2_ := A_ (sz_ hg (hb_ HB.out)); have n3_ := A_ (sz_ hg (hb_ HB.out)); clear HB; have HB := n0_; have BK333 := n1_; have GW333 := n2_; have GE333 := n3_; clear n0_ n1_ n2_ n3_; clear hb hbox hg) | ((with_reducible refine gate_callee (f := 85) rfl ?_); refine gl_ (some 10) Try.func85 #[.int .i64 a0, .int .u64 a1] ?_; (with_reducible refine (r2_Exp.calls k a0 a1 t334 _ A3.out).mono ?_); rintro e w' ⟨rfl, ⟨nd, rfl⟩⟩; refine ⟨_, rfl, ?_⟩; (try (rw [drewN_self w15]; generalize hq_ : World.drewN w15 _ = w15; have n0_ : Aside0 (w15.heap[gb333]? = some (.cells #[.bool false, .int .i64 0, .int .i64 0, .int .u64 0] 57 (0, 0))) := ⟨by rw [← hq_]; exact (bk_ BK333.out)⟩; have n1_ : Aside0 (Below w.heap.size w w15) := ⟨by rw [← hq_]; exact (hb1_ HB.out GE333.out)⟩; clear BK333 HB hq_; have BK333 := n0_; have HB := n1_; clear n0_ n1_))) | ((with_reducible refine gate_callee (f := 86) rfl ?_); refine gl_ (some 13) Try.func86 #[.int .i64 a0, .int .u64 a1] ?_; (with_reducible refine (r2_Frac.calls k a0 a1 t335 _ A4.out).mono ?_); rintro e w' ⟨rfl, ⟨nd, rfl⟩⟩; refine ⟨_, rfl, ?_⟩; (try (rw [drewN_self w15]; generalize hq_ : World.drewN w15 _ = w15; have n0_ : Aside0 (w15.heap[gb333]? = some (.cells #[.bool false, .int .i64 0, .int .i64 0, .int .u64 0] 57 (0, 0))) := ⟨by rw [← hq_]; exact (bk_ BK333.out)⟩; have n1_ : Aside0 (Below w.heap.size w w15) := ⟨by rw [← hq_]; exact (hb1_ HB.out GE333.out)⟩; clear BK333 HB hq_; have BK333 := n0_; have HB := n1_; clear n0_ n1_))) | ((with_reducible refine gate_callee (f := 87) rfl ?_); refine gl_ (some 16) Try.func87 #[.int .i64 a0, .int .u64 a1] ?_; (with_reducible refine (r2_Neg.calls k a0 a1 t336 _ A5.out).mono ?_); rintro e w' ⟨rfl, ⟨nd, rfl⟩⟩; refine ⟨_, rfl, ?_⟩; (try (rw [drewN_self w15]; generalize hq_ : World.drewN w15 _ = w15; have n0_ : Aside0 (w15.heap[gb333]? = some (.cells #[.bool false, .int .i64 0, .int .i64 0, .int .u64 0] 57 (0, 0))) := ⟨by rw [← hq_]; exact (bk_ BK333.out)⟩; have n1_ : Aside0 (Below w.heap.size w w15) := ⟨by rw [← hq_]; exact (hb1_ HB.out GE333.out)⟩; clear BK333 HB hq_; have BK333 := n0_; have HB := n1_; clear n0_ n1_))) | ((with_reducible refine gate_callee (f := 88) rfl ?_); refine gl_ (some 19) Try.func88 #[.int .i64 a0] ?_; (with_reducible refine (r2_Top.calls k a0 t337 _ A6.out).mono ?_); rintro e w' ⟨rfl, ⟨nd, rfl⟩⟩; refine ⟨_, rfl, ?_⟩; (try (rw [drewN_self w15]; generalize hq_ : World.drewN w15 _ = w15; have n0_ : Aside0 (w15.heap[gb333]? = some (.cells #[.bool false, .int .i64 0, .int .i64 0, .int .u64 0] 57 (0, 0))) := ⟨by rw [← hq_]; exact (bk_ BK333.out)⟩; have n1_ : Aside0 (Below w.heap.size w w15) := ⟨by rw [← hq_]; exact (hb1_ HB.out GE333.out)⟩; clear BK333 HB hq_; have BK333 := n0_; have HB := n1_; clear n0_ n1_)); have hcz16_0 : w15.cell? ⟨gb333, 0, none⟩ = some (.bool false) := bc_ BK333.out 0; have hcz16_1 : w15.cell? ⟨gb333, 1, none⟩ = some (.int .i64 0) := bc_ BK333.out 1; have hcz16_2 : w15.cell? ⟨gb333, 2, none⟩ = some (.int .i64 0) := bc_ BK333.out 2; have hcz16_3 : w15.cell? ⟨gb333, 3, none⟩ = some (.int .u64 0) := bc_ BK333.out 3; have hfz16_0 := blk_frozen BK333.out 0; have hfz16_1 := blk_frozen BK333.out 1; have hfz16_2 := blk_frozen BK333.out 2; have hfz16_3 := blk_frozen BK333.out 3))
    refine bodyPost_ret (results_cell_row rfl _ _ gb333 57 #[.bool t336, .int .i64 0, .int .i64 0, .int .u64 0] (0, 0) _ rfl (by (with_reducible repeat (first | refine blk_drewN ?_ _ | refine blk_drew ?_ | refine blk_alloc ?_ _)); refine blk_put (cs := #[.bool t336, .int .i64 0, .int .i64 0, .int .u64 0]) ?_ 3 _ rfl; (with_reducible repeat (first | refine blk_drewN ?_ _ | refine blk_drew ?_ | refine blk_alloc ?_ _)); refine blk_put (cs := #[.bool t336, .int .i64 0, .int .i64 0, .int .u64 0]) ?_ 2 _ rfl; (with_reducible repeat (first | refine blk_drewN ?_ _ | refine blk_drew ?_ | refine blk_alloc ?_ _)); refine blk_put (cs := #[.bool t336, .int .i64 0, .int .i64 0, .int .u64 0]) ?_ 1 _ rfl; (with_reducible repeat (first | refine blk_drewN ?_ _ | refine blk_drew ?_ | refine blk_alloc ?_ _)); refine blk_put (cs := #[.bool false, .int .i64 0, .int .i64 0, .int .u64 0]) ?_ 0 _ rfl; (with_reducible repeat (first | refine blk_drewN ?_ _ | refine blk_drew ?_ | refine blk_alloc ?_ _)); exact BK333.out) Try.underlying57 rfl (by kernel_rfl)) rfl ?_
    exact ⟨er_, hb1_ HB.out GE333.out⟩
   ·rw [if_neg c14] at H
    have c14b0 : (t335 == 0) = false := beq_eq_false_iff_ne.mpr c14
    have c14b1 : (t335 != 0) = true := bne_iff_ne.mpr c14
    replace H := ob_ H
    obtain ⟨t338, A170, H⟩ := H
    replace H : ((r2_F.f a0).bind fun t339 => (some (t336, 1, wrap64 ((wrap64 (1 - t338)) - t339), t335))) = some (r1, r2, r3, r4) := H
    have A17 := A_ A170;clear A170
    replace H := ob_ H
    obtain ⟨t339, A180, H⟩ := H
    replace H : (some (t336, 1, wrap64 ((wrap64 (1 - t338)) - t339), t335)) = some (r1, r2, r3, r4) := H
    have A18 := A_ A180;clear A180
    simp only [Option.some.injEq, Prod.mk.injEq] at H
    obtain ⟨rfl, rfl, rfl, rfl⟩ := H
    go_enter Try.func48, Try.ntmps48
    go_wp2_with (first | ((with_reducible refine gate_dst (N := 4) rfl ?_); refine be_ 4 #[.bool false, .int .i64 0, .int .i64 0, .int .u64 0] 57 ?_; intro gb333 hg w19 hbox hb; have n0_ := A_ (below_step (hb_ HB.out) hb); have n1_ := A_ (hbox); have n2_ := A_ (sz_ hg (hb_ HB.out)); have n3_ := A_ (sz_ hg (hb_ HB.out)); clear HB; have HB := n0_; have BK333 := n1_; have GW333 := n2_; have GE333 := n3_; clear n0_ n1_ n2_ n3_; clear hb hbox hg) | ((with_reducible refine gate_callee (f := 85) rfl ?_); refine gl_ (some 10) Try.func85 #[.int .i64 a0, .int .u64 a1] ?_; (with_reducible refine (r2_Exp.calls k a0 a1 t334 _ A3.out).mono ?_); rintro e w' ⟨rfl, ⟨nd, rfl⟩⟩; refine ⟨_, rfl, ?_⟩; (try (rw [drewN_self w19]; generalize hq_ : World.drewN w19 _ = w19; have n0_ : Aside0 (w19.heap[gb333]? = some (.cells #[.bool false, .int .i64 0, .int .i64 0, .int .u64 0] 57 (0, 0))) := ⟨by rw [← hq_]; exact (bk_ BK333.out)⟩; have n1_ : Aside0 (Below w.heap.size w w19) := ⟨by rw [← hq_]; exact (hb1_ HB.out GE333.out)⟩; clear BK333 HB hq_; have BK333 := n0_; have HB := n1_; clear n0_ n1_))) | ((with_reducible refine gate_callee (f := 86) rfl ?_); refine gl_ (some 13) Try.func86 #[.int .i64 a0, .int .u64 a1] ?_; (with_reducible refine (r2_Frac.calls k a0 a1 t335 _ A4.out).mono ?_); rintro e w' ⟨rfl, ⟨nd, rfl⟩⟩; refine ⟨_, rfl, ?_⟩; (try (rw [drewN_self w19]; generalize hq_ : World.drewN w19 _ = w19; have n0_ : Aside0 (w19.heap[gb333]? = some (.cells #[.bool false, .int .i64 0, .int .i64 0, .int .u64 0] 57 (0, 0))) := ⟨by rw [← hq_]; exact (bk_ BK333.out)⟩; have n1_ : Aside0 (Below w.heap.size w w19) := ⟨by rw [← hq_]; exact (hb1_ HB.out GE333.out)⟩; clear BK333 HB hq_; have BK333 := n0_; have HB := n1_; clear n0_ n1_))) | ((with_reducible refine gate_callee (f := 87) rfl ?_); refine gl_ (some 16) Try.func87 #[.int .i64 a0, .int .u64 a1] ?_; (with_reducible refine (r2_Neg.calls k a0 a1 t336 _ A5.out).mono ?_); rintro e w' ⟨rfl, ⟨nd, rfl⟩⟩; refine ⟨_, rfl, ?_⟩; (try (rw [drewN_self w19]; generalize hq_ : World.drewN w19 _ = w19; have n0_ : Aside0 (w19.heap[gb333]? = some (.cells #[.bool false, .int .i64 0, .int .i64 0, .int .u64 0] 57 (0, 0))) := ⟨by rw [← hq_]; exact (bk_ BK333.out)⟩; have n1_ : Aside0 (Below w.heap.size w w19) := ⟨by rw [← hq_]; exact (hb1_ HB.out GE333.out)⟩; clear BK333 HB hq_; have BK333 := n0_; have HB := n1_; clear n0_ n1_))) | ((with_reducible refine gate_callee (f := 88) rfl ?_); refine gl_ (some 19) Try.func88 #[.int .i64 a0] ?_; (with_reducible refine (r2_Top.calls k a0 t337 _ A6.out).mono ?_); rintro e w' ⟨rfl, ⟨nd, rfl⟩⟩; refine ⟨_, rfl, ?_⟩; (try (rw [drewN_self w19]; generalize hq_ : World.drewN w19 _ = w19; have n0_ : Aside0 (w19.heap[gb333]? = some (.cells #[.bool false, .int .i64 0, .int .i64 0, .int .u64 0] 57 (0, 0))) := ⟨by rw [← hq_]; exact (bk_ BK333.out)⟩; have n1_ : Aside0 (Below w.heap.size w w19) := ⟨by rw [← hq_]; exact (hb1_ HB.out GE333.out)⟩; clear BK333 HB hq_; have BK333 := n0_; have HB := n1_; clear n0_ n1_))) | ((with_reducible refine gate_callee (f := 18) rfl ?_); refine gl_ (some 34) Try.func18 #[.int .i64 a0] ?_; (with_reducible refine (r2_B.calls a0 t338 _ A17.out).mono ?_); rintro e w' ⟨rfl, ⟨nd, rfl⟩⟩; refine ⟨_, rfl, ?_⟩; (try (rw [drewN_self w19]; generalize hq_ : World.drewN w19 _ = w19; have n0_ : Aside0 (w19.heap[gb333]? = some (.cells #[.bool false, .int .i64 0, .int .i64 0, .int .u64 0] 57 (0, 0))) := ⟨by rw [← hq_]; exact (bk_ BK333.out)⟩; have n1_ : Aside0 (Below w.heap.size w w19) := ⟨by rw [← hq_]; exact (hb1_ HB.out GE333.out)⟩; clear BK333 HB hq_; have BK333 := n0_; have HB := n1_; clear n0_ n1_))) | ((with_reducible refine gate_callee (f := 52) rfl ?_); refine gl_ (some 37) Try.func52 #[.int .i64 a0] ?_; (with_reducible refine (r2_F.calls a0 t339 _ A18.out).mono ?_); rintro e w' ⟨rfl, ⟨nd, rfl⟩⟩; refine ⟨_, rfl, ?_⟩; (try (rw [drewN_self w19]; generalize hq_ : World.drewN w19 _ = w19; have n0_ : Aside0 (w19.heap[gb333]? = some (.cells #[.bool false, .int .i64 0, .int .i64 0, .int .u64 0] 57 (0, 0))) := ⟨by rw [← hq_]; exact (bk_ BK333.out)⟩; have n1_ : Aside0 (Below w.heap.size w w19) := ⟨by rw [← hq_]; exact (hb1_ HB.out GE333.out)⟩; clear BK333 HB hq_; have BK333 := n0_; have HB := n1_; clear n0_ n1_)); have hcz20_0 : w19.cell? ⟨gb333, 0, none⟩ = some (.bool false) := bc_ BK333.out 0; have hcz20_1 : w19.cell? ⟨gb333, 1, none⟩ = some (.int .i64 0) := bc_ BK333.out 1; have hcz20_2 : w19.cell? ⟨gb333, 2, none⟩ = some (.int .i64 0) := bc_ BK333.out 2; have hcz20_3 : w19.cell? ⟨gb333, 3, none⟩ = some (.int .u64 0) := bc_ BK333.out 3; have hfz20_0 := blk_frozen BK333.out 0; have hfz20_1 := blk_frozen BK333.out 1; have hfz20_2 := blk_frozen BK333.out 2; have hfz20_3 := blk_frozen BK333.out 3))
    refine bodyPost_ret (results_cell_row rfl _ _ gb333 57 #[.bool t336, .int .i64 1, .int .i64 (wrap64 ((wrap64 (1 - t338)) - t339)), .int .u64 t335] (0, 0) _ rfl (by (with_reducible repeat (first | refine blk_drewN ?_ _ | refine blk_drew ?_ | refine blk_alloc ?_ _)); refine blk_put (cs := #[.bool t336, .int .i64 1, .int .i64 (wrap64 ((wrap64 (1 - t338)) - t339)), .int .u64 0]) ?_ 3 _ rfl; (with_reducible repeat (first | refine blk_drewN ?_ _ | refine blk_drew ?_ | refine blk_alloc ?_ _)); refine blk_put (cs := #[.bool t336, .int .i64 1, .int .i64 0, .int .u64 0]) ?_ 2 _ rfl; (with_reducible repeat (first | refine blk_drewN ?_ _ | refine blk_drew ?_ | refine blk_alloc ?_ _)); refine blk_put (cs := #[.bool t336, .int .i64 0, .int .i64 0, .int .u64 0]) ?_ 1 _ rfl; (with_reducible repeat (first | refine blk_drewN ?_ _ | refine blk_drew ?_ | refine blk_alloc ?_ _)); refine blk_put (cs := #[.bool false, .int .i64 0, .int .i64 0, .int .u64 0]) ?_ 0 _ rfl; (with_reducible repeat (first | refine blk_drewN ?_ _ | refine blk_drew ?_ | refine blk_alloc ?_ _)); exact BK333.out) Try.underlying57 rfl (by kernel_rfl)) rfl ?_
    exact ⟨er_, hb1_ HB.out GE333.out⟩
  ·rw [if_neg c13] at H
   have c13b0 : (t334 == 0) = false := beq_eq_false_iff_ne.mpr c13
   have c13b1 : (t334 != 0) = true := bne_iff_ne.mpr c13
   replace H := ob_ H
   obtain ⟨t340, A210, H⟩ := H
   replace H : ((r2_F.f a0).bind fun t341 => ((r2_F.f a0).bind fun t342 => ((r2_Two.f k t342).bind fun t343 => (some (t336, 1, wrap64 ((wrap64 (t334 - t340)) - t341), IntKind.u64.wrap (t343 + t335)))))) = some (r1, r2, r3, r4) := H
   have A21 := A_ A210;clear A210
   replace H := ob_ H
   obtain ⟨t341, A220, H⟩ := H
   replace H : ((r2_F.f a0).bind fun t342 => ((r2_Two.f k t342).bind fun t343 => (some (t336, 1, wrap64 ((wrap64 (t334 - t340)) - t341), IntKind.u64.wrap (t343 + t335))))) = some (r1, r2, r3, r4) := H
   have A22 := A_ A220;clear A220
   replace H := ob_ H
   obtain ⟨t342, A230, H⟩ := H
   replace H : ((r2_Two.f k t342).bind fun t343 => (some (t336, 1, wrap64 ((wrap64 (t334 - t340)) - t341), IntKind.u64.wrap (t343 + t335)))) = some (r1, r2, r3, r4) := H
   have A23 := A_ A230;clear A230
   replace H := ob_ H
   obtain ⟨t343, A240, H⟩ := H
   replace H : (some (t336, 1, wrap64 ((wrap64 (t334 - t340)) - t341), IntKind.u64.wrap (t343 + t335))) = some (r1, r2, r3, r4) := H
   have A24 := A_ A240;clear A240
   simp only [Option.some.injEq, Prod.mk.injEq] at H
   obtain ⟨rfl, rfl, rfl, rfl⟩ := H
   go_enter Try.func48, Try.ntmps48
   go_wp2_with (first | ((with_reducible refine gate_dst (N := 4) rfl ?_); refine be_ 4 #[.bool false, .int .i64 0, .int .i64 0, .int .u64 0] 57 ?_; intro gb333 hg w25 hbox hb; have n0_ := A_ (below_step (hb_ HB.out) hb); have n1_ := A_ (hbox); have n2_ := A_ (sz_ hg (hb_ HB.out)); have n3_ := A_ (sz_ hg (hb_ HB.out)); clear HB; have HB := n0_; have BK333 := n1_; have GW333 := n2_; have GE333 := n3_; clear n0_ n1_ n2_ n3_; clear hb hbox hg) | ((with_reducible refine gate_callee (f := 85) rfl ?_); refine gl_ (some 10) Try.func85 #[.int .i64 a0, .int .u64 a1] ?_; (with_reducible refine (r2_Exp.calls k a0 a1 t334 _ A3.out).mono ?_); rintro e w' ⟨rfl, ⟨nd, rfl⟩⟩; refine ⟨_, rfl, ?_⟩; (try (rw [drewN_self w25]; generalize hq_ : World.drewN w25 _ = w25; have n0_ : Aside0 (w25.heap[gb333]? = some (.cells #[.bool false, .int .i64 0, .int .i64 0, .int .u64 0] 57 (0, 0))) := ⟨by rw [← hq_]; exact (bk_ BK333.out)⟩; have n1_ : Aside0 (Below w.heap.size w w25) := ⟨by rw [← hq_]; exact (hb1_ HB.out GE333.out)⟩; clear BK333 HB hq_; have BK333 := n0_; have HB := n1_; clear n0_ n1_))) | ((with_reducible refine gate_callee (f := 86) rfl ?_); refine gl_ (some 13) Try.func86 #[.int .i64 a0, .int .u64 a1] ?_; (with_reducible refine (r2_Frac.calls k a0 a1 t335 _ A4.out).mono ?_); rintro e w' ⟨rfl, ⟨nd, rfl⟩⟩; refine ⟨_, rfl, ?_⟩; (try (rw [drewN_self w25]; generalize hq_ : World.drewN w25 _ = w25; have n0_ : Aside0 (w25.heap[gb333]? = some (.cells #[.bool false, .int .i64 0, .int .i64 0, .int .u64 0] 57 (0, 0))) := ⟨by rw [← hq_]; exact (bk_ BK333.out)⟩; have n1_ : Aside0 (Below w.heap.size w w25) := ⟨by rw [← hq_]; exact (hb1_ HB.out GE333.out)⟩; clear BK333 HB hq_; have BK333 := n0_; have HB := n1_; clear n0_ n1_))) | ((with_reducible refine gate_callee (f := 87) rfl ?_); refine gl_ (some 16) Try.func87 #[.int .i64 a0, .int .u64 a1] ?_; (with_reducible refine (r2_Neg.calls k a0 a1 t336 _ A5.out).mono ?_); rintro e w' ⟨rfl, ⟨nd, rfl⟩⟩; refine ⟨_, rfl, ?_⟩; (try (rw [drewN_self w25]; generalize hq_ : World.drewN w25 _ = w25; have n0_ : Aside0 (w25.heap[gb333]? = some (.cells #[.bool false, .int .i64 0, .int .i64 0, .int .u64 0] 57 (0, 0))) := ⟨by rw [← hq_]; exact (bk_ BK333.out)⟩; have n1_ : Aside0 (Below w.heap.size w w25) := ⟨by rw [← hq_]; exact (hb1_ HB.out GE333.out)⟩; clear BK333 HB hq_; have BK333 := n0_; have HB := n1_; clear n0_ n1_))) | ((with_reducible refine gate_callee (f := 88) rfl ?_); refine gl_ (some 19) Try.func88 #[.int .i64 a0] ?_; (with_reducible refine (r2_Top.calls k a0 t337 _ A6.out).mono ?_); rintro e w' ⟨rfl, ⟨nd, rfl⟩⟩; refine ⟨_, rfl, ?_⟩; (try (rw [drewN_self w25]; generalize hq_ : World.drewN w25 _ = w25; have n0_ : Aside0 (w25.heap[gb333]? = some (.cells #[.bool false, .int .i64 0, .int .i64 0, .int .u64 0] 57 (0, 0))) := ⟨by rw [← hq_]; exact (bk_ BK333.out)⟩; have n1_ : Aside0 (Below w.heap.size w w25) := ⟨by rw [← hq_]; exact (hb1_ HB.out GE333.out)⟩; clear BK333 HB hq_; have BK333 := n0_; have HB := n1_; clear n0_ n1_))) | ((with_reducible refine gate_callee (f := 18) rfl ?_); refine gl_ (some 44) Try.func18 #[.int .i64 a0] ?_; (with_reducible refine (r2_B.calls a0 t340 _ A21.out).mono ?_); rintro e w' ⟨rfl, ⟨nd, rfl⟩⟩; refine ⟨_, rfl, ?_⟩; (try (rw [drewN_self w25]; generalize hq_ : World.drewN w25 _ = w25; have n0_ : Aside0 (w25.heap[gb333]? = some (.cells #[.bool false, .int .i64 0, .int .i64 0, .int .u64 0] 57 (0, 0))) := ⟨by rw [← hq_]; exact (bk_ BK333.out)⟩; have n1_ : Aside0 (Below w.heap.size w w25) := ⟨by rw [← hq_]; exact (hb1_ HB.out GE333.out)⟩; clear BK333 HB hq_; have BK333 := n0_; have HB := n1_; clear n0_ n1_))) | ((with_reducible refine gate_callee (f := 52) rfl ?_); refine gl_ (some 47) Try.func52 #[.int .i64 a0] ?_; (with_reducible refine (r2_F.calls a0 t341 _ A22.out).mono ?_); rintro e w' ⟨rfl, ⟨nd, rfl⟩⟩; refine ⟨_, rfl, ?_⟩; (try (rw [drewN_self w25]; generalize hq_ : World.drewN w25 _ = w25; have n0_ : Aside0 (w25.heap[gb333]? = some (.cells #[.bool false, .int .i64 0, .int .i64 0, .int .u64 0] 57 (0, 0))) := ⟨by rw [← hq_]; exact (bk_ BK333.out)⟩; have n1_ : Aside0 (Below w.heap.size w w25) := ⟨by rw [← hq_]; exact (hb1_ HB.out GE333.out)⟩; clear BK333 HB hq_; have BK333 := n0_; have HB := n1_; clear n0_ n1_))) | ((with_reducible refine gate_callee (f := 52) rfl ?_); refine gl_ (some 50) Try.func52 #[.int .i64 a0] ?_; (with_reducible refine (r2_F.calls a0 t342 _ A23.out).mono ?_); rintro e w' ⟨rfl, ⟨nd, rfl⟩⟩; refine ⟨_, rfl, ?_⟩; (try (rw [drewN_self w25]; generalize hq_ : World.drewN w25 _ = w25; have n0_ : Aside0 (w25.heap[gb333]? = some (.cells #[.bool false, .int .i64 0, .int .i64 0, .int .u64 0] 57 (0, 0))) := ⟨by rw [← hq_]; exact (bk_ BK333.out)⟩; have n1_ : Aside0 (Below w.heap.size w w25) := ⟨by rw [← hq_]; exact (hb1_ HB.out GE333.out)⟩; clear BK333 HB hq_; have BK333 := n0_; have HB := n1_; clear n0_ n1_))) | ((with_reducible refine gate_callee (f := 51) rfl ?_); refine gl_ (some 51) Try.func51 #[.int .i64 t342] ?_; (with_reducible refine (r2_Two.calls k t342 t343 _ A24.out).mono ?_); rintro e w' ⟨rfl, ⟨nd, rfl⟩⟩; refine ⟨_, rfl, ?_⟩; (try (rw [drewN_self w25]; generalize hq_ : World.drewN w25 _ = w25; have n0_ : Aside0 (w25.heap[gb333]? = some (.cells #[.bool false, .int .i64 0, .int .i64 0, .int .u64 0] 57 (0, 0))) := ⟨by rw [← hq_]; exact (bk_ BK333.out)⟩; have n1_ : Aside0 (Below w.heap.size w w25) := ⟨by rw [← hq_]; exact (hb1_ HB.out GE333.out)⟩; clear BK333 HB hq_; have BK333 := n0_; have HB := n1_; clear n0_ n1_)); have hcz26_0 : w25.cell? ⟨gb333, 0, none⟩ = some (.bool false) := bc_ BK333.out 0; have hcz26_1 : w25.cell? ⟨gb333, 1, none⟩ = some (.int .i64 0) := bc_ BK333.out 1; have hcz26_2 : w25.cell? ⟨gb333, 2, none⟩ = some (.int .i64 0) := bc_ BK333.out 2; have hcz26_3 : w25.cell? ⟨gb333, 3, none⟩ = some (.int .u64 0) := bc_ BK333.out 3; have hfz26_0 := blk_frozen BK333.out 0; have hfz26_1 := blk_frozen BK333.out 1; have hfz26_2 := blk_frozen BK333.out 2; have hfz26_3 := blk_frozen BK333.out 3))
   refine bodyPost_ret (results_cell_row rfl _ _ gb333 57 #[.bool t336, .int .i64 1, .int .i64 (wrap64 ((wrap64 (t334 - t340)) - t341)), .int .u64 (IntKind.u64.wrap (t343 + t335))] (0, 0) _ rfl (by (with_reducible repeat (first | refine blk_drewN ?_ _ | refine blk_drew ?_ | refine blk_alloc ?_ _)); refine blk_put (cs := #[.bool t336, .int .i64 1, .int .i64 (wrap64 ((wrap64 (t334 - t340)) - t341)), .int .u64 0]) ?_ 3 _ rfl; (with_reducible repeat (first | refine blk_drewN ?_ _ | refine blk_drew ?_ | refine blk_alloc ?_ _)); refine blk_put (cs := #[.bool t336, .int .i64 1, .int .i64 0, .int .u64 0]) ?_ 2 _ rfl; (with_reducible repeat (first | refine blk_drewN ?_ _ | refine blk_drew ?_ | refine blk_alloc ?_ _)); refine blk_put (cs := #[.bool t336, .int .i64 0, .int .i64 0, .int .u64 0]) ?_ 1 _ rfl; (with_reducible repeat (first | refine blk_drewN ?_ _ | refine blk_drew ?_ | refine blk_alloc ?_ _)); refine blk_put (cs := #[.bool false, .int .i64 0, .int .i64 0, .int .u64 0]) ?_ 0 _ rfl; (with_reducible repeat (first | refine blk_drewN ?_ _ | refine blk_drew ?_ | refine blk_alloc ?_ _)); exact BK333.out) Try.underlying57 rfl (by kernel_rfl)) rfl ?_
   exact ⟨er_, hb1_ HB.out GE333.out⟩
end Go.Proofs.Ytbpmnmceajmmcaa.PA
