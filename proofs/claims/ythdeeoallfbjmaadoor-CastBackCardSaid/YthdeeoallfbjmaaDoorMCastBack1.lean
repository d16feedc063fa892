/- What the Go functions that the statement CastBack reaches compute, and the mathematics on it, in the order in which one leans on the other; for every input. -/
import Derived.Test.YthdeeoallfbjmaaDoorVCastBack1
import Derived.Test.YthdeeoallfbjmaaDoorMCastBack0
namespace Go.Proofs.YthdeeoallfbjmaaDoor.PA
open Go.RowKit Go.Proofs.YthdeeoallfbjmaaDoorW.PrintWords Go.Proofs.YthdeeoallfbjmaaDoorW.PrintLast Go.Proofs.YthdeeoallfbjmaaDoorW.PrintMore
attribute [local go_sem] max2_int min2_int max_two min_two max_three min_three max_four min_four   -- for this text's walks alone
set_option linter.unusedVariables false
set_option linter.unusedSimpArgs false
set_option maxHeartbeats 8000000
set_option maxRecDepth 100000
def shape_Inf.f (a0 : Int) (a1 : Bool) : Option (Int) := (shape_of.f a0).bind fun bt216 => (if bt216.2.2 = true then ((shape_format_ones.f bt216.1 bt216.2.1).bind fun t220 => ((shape_format_join.f bt216.1 bt216.2.1 a1 t220 0).bind fun t221 => (some t221))) else (some 0))
theorem shape_Inf.calls (a0 : Int) (a1 : Bool) (r : Int) (w : World) (h : shape_Inf.f a0 a1 = some r) :
  Calls Tryd.prog 86 #[.int .i64 a0, .bool a1] w fun e w' => e = .returned (.int .u64 r) ∧ Below w.heap.size w w' := by
 have hu78 := Tryd.underlying78
 have HB := A_ (Below.refl w.heap.size w)
 have H : ((shape_of.f a0).bind fun bt216 => (if bt216.2.2 = true then ((shape_format_ones.f bt216.1 bt216.2.1).bind fun t220 => ((shape_format_join.f bt216.1 bt216.2.1 a1 t220 0).bind fun t221 => (some t221))) else (some 0))) = some r := h
 clear h
 replace H := ob_ H
 obtain ⟨⟨t216, t217, t218⟩, A30, H⟩ := H
 replace H : (if t218 = true then ((shape_format_ones.f t216 t217).bind fun t220 => ((shape_format_join.f t216 t217 a1 t220 0).bind fun t221 => (some t221))) else (some 0)) = some r := H
 have A3 := A_ A30;clear A30
 by_cases c4 : t218 = true
 ·subst c4
  have H1 : ((shape_format_ones.f t216 t217).bind fun t220 => ((shape_format_join.f t216 t217 a1 t220 0).bind fun t221 => (some t221))) = some r := by rw [if_pos rfl] at H; exact H
  clear H;have H := H1;clear H1
  replace H := ob_ H
  obtain ⟨t220, A50, H⟩ := H
  replace H : ((shape_format_join.f t216 t217 a1 t220 0).bind fun t221 => (some t221)) = some r := H
  have A5 := A_ A50;clear A50
  replace H := ob_ H
  obtain ⟨t221, A60, H⟩ := H
  replace H : (some t221) = some r := H
  have A6 := A_ A60;clear A60
  obtain rfl := Option.some.inj H
  go_enter Tryd.func86, Tryd.ntmps86
  try go_wp2_with (first | ((with_reducible refine gate_callee (f := 63) rfl ?_); refine goesL_ (some 9) rfl rfl Tryd.func63 (by kernel_rfl) rfl #[.int .i64 a0] rfl mp_ ?_; (with_reducible refine (shape_of.calls a0 t216 t217 true _ A3.out).mono ?_); rintro e w7 ⟨rfl, hb⟩; refine ⟨_, rfl, ?_⟩; replace HB := A_ (below_step (hb_ HB.out) hb); (try clear hb); (try clear hb2); (try clear hk); (try clear hi)) | ((with_reducible refine gate_dst (N := 5) rfl ?_); refine be_ 5 #[.int .i64 0, .int .i64 0] 78 ?_; intro gb219 hg w8 hbox hb; have BK219 := A_ (hbox); have GW219 := A_ (sz_ hg (hb_ HB.out)); have GE219 := A_ (sz_ hg (hb_ HB.out)); replace HB := A_ (below_step (hb_ HB.out) hb); clear hb hbox hg; have hcz9_0 := bv_ BK219.out 0; have hcz9_1 := bv_ BK219.out 1; have hfz9_0 := blk_frozen BK219.out 0; have hfz9_1 := blk_frozen BK219.out 1))
  have n0_ : Aside0 (((w8.setCell ⟨gb219, 0, none⟩ (.int .i64 t216)).setCell ⟨gb219, 1, none⟩ (.int .i64 t217)).heap[gb219]? = some (.cells #[.int .i64 t216, .int .i64 t217] 78 (0, 0))) := ⟨by (with_reducible repeat (first | refine blk_drewN ?_ _ | refine blk_drew ?_ | refine blk_alloc ?_ _)); refine blk_put (cs := #[.int .i64 t216, .int .i64 0]) ?_ 1 _ rfl; (with_reducible repeat (first | refine blk_drewN ?_ _ | refine blk_drew ?_ | refine blk_alloc ?_ _)); refine blk_put (cs := #[.int .i64 0, .int .i64 0]) ?_ 0 _ rfl; (with_reducible repeat (first | refine blk_drewN ?_ _ | refine blk_drew ?_ | refine blk_alloc ?_ _)); exact BK219.out⟩
  have n1_ : Aside0 (Below w.heap.size w ((w8.setCell ⟨gb219, 0, none⟩ (.int .i64 t216)).setCell ⟨gb219, 1, none⟩ (.int .i64 t217))) := ⟨hb1_ HB.out GE219.out⟩
  (try clear BK219);(try clear HB)
  generalize ((w8.setCell ⟨gb219, 0, none⟩ (.int .i64 t216)).setCell ⟨gb219, 1, none⟩ (.int .i64 t217)) = w10 at n0_ n1_ ⊢
  have BK219 := n0_;have HB := n1_;clear n0_ n1_
  replace BK219 := A_ (blk_drew BK219.out)
  replace HB := A_ (below_drew1 HB.out)
  refine start_ (n := 6) (S := fun w' => w'.cell? ⟨gb219, 0, none⟩ = some (.int .i64 t216) ∧ w'.cell? ⟨gb219, 1, none⟩ = some (.int .i64 t217)) (ds := []) #[false, false, false, false, false, false] (by kernel_rfl) rfl rfl ⟨bc_ BK219.out 0, bc_ BK219.out 1⟩ (fun hHeld => ?_)
  generalize w10.drew = w11 at BK219 HB hHeld ⊢
  refine pu_ 1 (some 15) #[false, true, false, false, false, false] rfl rfl (by kernel_rfl) ?_
  refine tk2_ 0 (some 14) #[true, true, false, false, false, false] rfl rfl (by kernel_rfl) hHeld ?_
  refine tk2_ 2 (some 16) #[true, true, true, false, false, false] rfl rfl (by kernel_rfl) hHeld ?_
  refine one_ (i := 3) (N := some 17) #[true, true, true, true, false, false] rfl rfl (by kernel_rfl) (by decide) (fun K hK => ?_)
  refine goes_ Tryd.func65 (by kernel_rfl) rfl #[.agg #[.int .i64 t216, .int .i64 t217]] (by rfl) rfl rfl mp_ ?_
  with_reducible refine (shape_format_ones.calls t216 t217 t220 _ A5.out).mono ?_
  rintro e w12 ⟨rfl, hb⟩
  refine ⟨_, rfl, ?_⟩
  replace BK219 := A_ (bb_ BK219.out hb)
  replace HB := A_ (below_step (hb1_ HB.out GE219.out) hb);(try clear hb);(try clear hb2);(try clear hk);(try clear hi)
  refine hK.out _ _ ⟨bc_ BK219.out 0, bc_ BK219.out 1⟩ (fun hHeld => ?_)
  clear hK K
  refine norm_ (a' := ?_) ?_ ?_
  rotate_left
  ·show Act.put _ (some 17) _ = _
   simp only [Act.put, lI_, l0_, lS_, i64_w, i32_w]
   rfl
  refine one_ (i := 4) (N := some 18) #[true, true, true, true, true, false] rfl rfl (by kernel_rfl) (by decide) (fun K hK => ?_)
  refine goes_ Tryd.func64 (by kernel_rfl) rfl #[.agg #[.int .i64 t216, .int .i64 t217], .bool a1, .int .u64 t220, .int .u64 0] (by rfl) rfl rfl mp_ ?_
  with_reducible refine (shape_format_join.calls t216 t217 a1 t220 0 t221 _ A6.out).mono ?_
  rintro e w13 ⟨rfl, hb⟩
  refine ⟨_, rfl, ?_⟩
  replace BK219 := A_ (bb_ BK219.out hb)
  replace HB := A_ (below_step (hb1_ HB.out GE219.out) hb);(try clear hb);(try clear hb2);(try clear hk);(try clear hi)
  refine hK.out _ _ ⟨bc_ BK219.out 0, bc_ BK219.out 1⟩ (fun hHeld => ?_)
  clear hK K
  refine norm_ (a' := ?_) ?_ ?_
  rotate_left
  ·show Act.put _ (some 18) _ = _
   simp only [Act.put, lI_, l0_, lS_, i64_w, i32_w]
   rfl
  refine pu_ 5 (some 4) #[true, true, true, true, true, true] rfl rfl (by kernel_rfl) ?_
  refine done_ (by kernel_rfl) ?_
  try go_wp2
  go_ret
  exact ⟨er_, hb1_ HB.out GE219.out⟩
 ·replace c4 := Bool.eq_false_iff.mpr c4
  subst c4
  have H1 : (some 0) = some r := by rw [if_neg (show ¬ (false = true) by decide)] at H; exact H
  clear H;have H := H1;clear H1
  obtain rfl := Option.some.inj H
  go_enter Tryd.func86, Tryd.ntmps86
  go_wp2_with (first | ((with_reducible refine gate_callee (f := 63) rfl ?_); refine goesL_ (some 9) rfl rfl Tryd.func63 (by kernel_rfl) rfl #[.int .i64 a0] rfl mp_ ?_; (with_reducible refine (shape_of.calls a0 t216 t217 false _ A3.out).mono ?_); rintro e w14 ⟨rfl, hb⟩; refine ⟨_, rfl, ?_⟩; replace HB := A_ (below_step (hb_ HB.out) hb); (try clear hb); (try clear hb2); (try clear hk); (try clear hi)) | ((with_reducible refine gate_dst (N := 5) rfl ?_); refine be_ 5 #[.int .i64 0, .int .i64 0] 78 ?_; intro gb219 hg w15 hbox hb; have BK219 := A_ (hbox); have GW219 := A_ (sz_ hg (hb_ HB.out)); have GE219 := A_ (sz_ hg (hb_ HB.out)); replace HB := A_ (below_step (hb_ HB.out) hb); clear hb hbox hg; have hcz16_0 := bv_ BK219.out 0; have hcz16_1 := bv_ BK219.out 1; have hfz16_0 := blk_frozen BK219.out 0; have hfz16_1 := blk_frozen BK219.out 1))
  go_ret
  exact ⟨er_, hb1_ HB.out GE219.out⟩
def shape_Nan.f (a0 : Int) : Option (Int) := (shape_of.f a0).bind fun bt259 => (if bt259.2.2 = true then ((shape_format_ones.f bt259.1 bt259.2.1).bind fun t263 => (if 0 ≤ (wrap64 (bt259.2.1 - 1)) then ((shape_format_join.f bt259.1 bt259.2.1 false t263 (shl .u64 1 (wrap64 (bt259.2.1 - 1)))).bind fun t264 => (some t264)) else (none))) else (some 0))
def shape_Nan.T4 : Bool × List (List Nat × List Nat) := (true, [([], []), ([], []), ([1], [1]), ([], []), ([3], [3]), ([4], [4]), ([5], [5]), ([0, 2, 6, 2], [0, 2, 6]), ([7, 7, 0, 1, 2, 3, 4, 5, 6, 7], [7])])
def shape_Nan.B4 : List Nat := [0, 0, 2, 0, 8, 24, 56, 127, 255]
theorem shape_Nan.tab4 : rtab .any (opsOf Tryd.f33 4) = shape_Nan.T4 := by kernel_rfl
theorem shape_Nan.bits4 : waitsOk shape_Nan.T4.2 shape_Nan.B4 = true := by kernel_rfl
theorem shape_Nan.calls (a0 : Int) (r : Int) (w : World) (h : shape_Nan.f a0 = some r) :
  Calls Tryd.prog 33 #[.int .i64 a0] w fun e w' => e = .returned (.int .u64 r) ∧ Below w.heap.size w w' := by
 have hu78 := Tryd.underlying78
 have HB := A_ (Below.refl w.heap.size w)
 have H : ((shape_of.f a0).bind fun bt259 => (if bt259.2.2 = true then ((shape_format_ones.f bt259.1 bt259.2.1).bind fun t263 => (if 0 ≤ (wrap64 (bt259.2.1 - 1)) then ((shape_format_join.f bt259.1 bt259.2.1 false t263 (shl .u64 1 (wrap64 (bt259.2.1 - 1)))).bind fun t264 => (some t264)) else (none))) else (some 0))) = some r := h
 clear h
 replace H := ob_ H
 obtain ⟨⟨t259, t260, t261⟩, A20, H⟩ := H
 replace H : (if t261 = true then ((shape_format_ones.f t259 t260).bind fun t263 => (if 0 ≤ (wrap64 (t260 - 1)) then ((shape_format_join.f t259 t260 false t263 (shl .u64 1 (wrap64 (t260 - 1)))).bind fun t264 => (some t264)) else (none))) else (some 0)) = some r := H
 have A2 := A_ A20;clear A20
 by_cases c3 : t261 = true
 ·subst c3
  have H1 : ((shape_format_ones.f t259 t260).bind fun t263 => (if 0 ≤ (wrap64 (t260 - 1)) then ((shape_format_join.f t259 t260 false t263 (shl .u64 1 (wrap64 (t260 - 1)))).bind fun t264 => (some t264)) else (none))) = some r := by rw [if_pos rfl] at H; exact H
  clear H;have H := H1;clear H1
  replace H := ob_ H
  obtain ⟨t263, A40, H⟩ := H
  replace H : (if 0 ≤ (wrap64 (t260 - 1)) then ((shape_format_join.f t259 t260 false t263 (shl .u64 1 (wrap64 (t260 - 1)))).bind fun t264 => (some t264)) else (none)) = some r := H
  have A4 := A_ A40;clear A40
  obtain ⟨ji5, hji5⟩ : ∃ j_ : Int, (wrap64 (t260 - 1)) = j_ := ⟨_, rfl⟩
  replace H : (if 0 ≤ (ji5) then ((shape_format_join.f t259 t260 false t263 (shl .u64 1 (ji5))).bind fun t264 => (some t264)) else (none)) = some r := by first | (rw [hji5] at H; exact H) | (simp only [hji5] at H ⊢; exact H)
  (try rw [hji5] at A2)
  (try rw [hji5] at A4)
  have hji5w : (IntKind.i64.wrap (t260 - 1)) = ji5 := (i64_w _).trans hji5
  by_cases c6 : 0 ≤ (ji5)
  ·rw [if_pos c6] at H
   have c6b0 := eq_true c6
   have c6b1 : decide (0 ≤ (ji5)) = true := decide_eq_true c6
   clear c6
   obtain ⟨ji7, hji7⟩ : ∃ j_ : Int, (shl .u64 1 (ji5)) = j_ := ⟨_, rfl⟩
   replace H : ((shape_format_join.f t259 t260 false t263 (ji7)).bind fun t264 => (some t264)) = some r := by first | (rw [hji7] at H; exact H) | (simp only [hji7] at H ⊢; exact H)
   (try rw [hji7] at A2)
   (try rw [hji7] at A4)
   have hji7_ : (IntKind.u64.wrap (1 * 2 ^ min (ji5).toNat 64)) = ji7 := hji7
   have hji7z : (ji5) ≤ 64 → (IntKind.u64.wrap (1 * 2 ^ (ji5).toNat)) = ji7 := shl_small hji7
   have hji7u : (IntKind.u64.wrap (2 ^ min (ji5).toNat 64)) = ji7 := by have h_ := hji7_; rw [Int.one_mul] at h_; exact h_
   have hji7v : (ji5) ≤ 64 → (IntKind.u64.wrap (2 ^ (ji5).toNat)) = ji7 := fun hle_ => by have h_ := hji7z hle_; rw [Int.one_mul] at h_; exact h_
   replace H := ob_ H
   obtain ⟨t264, A80, H⟩ := H
   replace H : (some t264) = some r := H
   have A8 := A_ A80;clear A80
   obtain rfl := Option.some.inj H
   go_enter Tryd.func33, Tryd.ntmps33
   try go_wp2_with (first | ((with_reducible refine gate_callee (f := 63) rfl ?_); refine goesL_ (some 7) rfl rfl Tryd.func63 (by kernel_rfl) rfl #[.int .i64 a0] rfl mp_ ?_; (with_reducible refine (shape_of.calls a0 t259 t260 true _ A2.out).mono ?_); rintro e w9 ⟨rfl, hb⟩; refine ⟨_, rfl, ?_⟩; replace HB := A_ (below_step (hb_ HB.out) hb); (try clear hb); (try clear hb2); (try clear hk); (try clear hi)) | ((with_reducible refine gate_dst (N := 3) rfl ?_); refine be_ 3 #[.int .i64 0, .int .i64 0] 78 ?_; intro gb262 hg w10 hbox hb; have BK262 := A_ (hbox); have GW262 := A_ (sz_ hg (hb_ HB.out)); have GE262 := A_ (sz_ hg (hb_ HB.out)); replace HB := A_ (below_step (hb_ HB.out) hb); clear hb hbox hg; have hcz11_0 := bv_ BK262.out 0; have hcz11_1 := bv_ BK262.out 1; have hfz11_0 := blk_frozen BK262.out 0; have hfz11_1 := blk_frozen BK262.out 1))
   have n0_ : Aside0 (((w10.setCell ⟨gb262, 0, none⟩ (.int .i64 t259)).setCell ⟨gb262, 1, none⟩ (.int .i64 t260)).heap[gb262]? = some (.cells #[.int .i64 t259, .int .i64 t260] 78 (0, 0))) := ⟨by (with_reducible repeat (first | refine blk_drewN ?_ _ | refine blk_drew ?_ | refine blk_alloc ?_ _)); refine blk_put (cs := #[.int .i64 t259, .int .i64 0]) ?_ 1 _ rfl; (with_reducible repeat (first | refine blk_drewN ?_ _ | refine blk_drew ?_ | refine blk_alloc ?_ _)); refine blk_put (cs := #[.int .i64 0, .int .i64 0]) ?_ 0 _ rfl; (with_reducible repeat (first | refine blk_drewN ?_ _ | refine blk_drew ?_ | refine blk_alloc ?_ _)); exact BK262.out⟩
   have n1_ : Aside0 (Below w.heap.size w ((w10.setCell ⟨gb262, 0, none⟩ (.int .i64 t259)).setCell ⟨gb262, 1, none⟩ (.int .i64 t260))) := ⟨hb1_ HB.out GE262.out⟩
   (try clear BK262);(try clear HB)
   generalize ((w10.setCell ⟨gb262, 0, none⟩ (.int .i64 t259)).setCell ⟨gb262, 1, none⟩ (.int .i64 t260)) = w12 at n0_ n1_ ⊢
   have BK262 := n0_;have HB := n1_;clear n0_ n1_
   replace BK262 := A_ (blk_drew BK262.out)
   replace HB := A_ (below_drew1 HB.out)
   refine start_ (n := 9) (S := fun w' => w'.cell? ⟨gb262, 0, none⟩ = some (.int .i64 t259) ∧ w'.cell? ⟨gb262, 1, none⟩ = some (.int .i64 t260)) (ds := []) #[false, false, false, false, false, false, false, false, false] (by kernel_rfl) rfl rfl ⟨bc_ BK262.out 0, bc_ BK262.out 1⟩ (fun hHeld => ?_); refine with_tabW shape_Nan.tab4 shape_Nan.bits4 (fun HT_ HW_ => ?_)
   generalize w12.drew = w13 at BK262 HB hHeld ⊢
   refine pu_ 3 (some 15) #[false, false, false, true, false, false, false, false, false] rfl rfl (any_of HT_.out (by kernel_rfl)) ?_
   refine tk2_ 0 (some 12) #[true, false, false, true, false, false, false, false, false] rfl rfl (take_ofW HT_.out HW_.out (by kernel_rfl)) hHeld ?_
   refine tk2_ 1 (some 13) #[true, true, false, true, false, false, false, false, false] rfl rfl (take_ofW HT_.out HW_.out (by kernel_rfl)) hHeld ?_
   refine tk2_ 4 (some 16) #[true, true, false, true, true, false, false, false, false] rfl rfl (take_ofW HT_.out HW_.out (by kernel_rfl)) hHeld ?_
   refine pu_ 5 (some 17) #[true, true, false, true, true, true, false, false, false] rfl rfl (any_of HT_.out (by kernel_rfl)) ?_
   refine pu_ 6 (some 18) #[true, true, false, true, true, true, true, false, false] rfl rfl (any_of HT_.out (by kernel_rfl)) ?_
   refine one_ (i := 2) (N := some 14) #[true, true, true, true, true, true, true, false, false] rfl rfl (one_of HT_.out (by kernel_rfl)) (by decide) (fun K hK => ?_)
   refine goes_ Tryd.func65 (by kernel_rfl) rfl #[.agg #[.int .i64 t259, .int .i64 t260]] (by rfl) rfl rfl mp_ ?_
   with_reducible refine (shape_format_ones.calls t259 t260 t263 _ A4.out).mono ?_
   rintro e w14 ⟨rfl, hb⟩
   refine ⟨_, rfl, ?_⟩
   replace BK262 := A_ (bb_ BK262.out hb)
   replace HB := A_ (below_step (hb1_ HB.out GE262.out) hb);(try clear hb);(try clear hb2);(try clear hk);(try clear hi)
   refine hK.out _ _ ⟨bc_ BK262.out 0, bc_ BK262.out 1⟩ (fun hHeld => ?_)
   clear hK K
   refine norm_ (a' := ?_) ?_ ?_
   rotate_left
   ·show Act.put _ (some 14) _ = _
    simp only [Act.put, lI_, l0_, lS_, i64_w, i32_w]
    rfl
   refine one_ (i := 7) (N := some 19) #[true, true, true, true, true, true, true, true, false] rfl rfl (one_of HT_.out (by kernel_rfl)) (by decide) (fun K hK => ?_)
   refine goes_ Tryd.func64 (by kernel_rfl) rfl #[.agg #[.int .i64 t259, .int .i64 t260], .bool false, .int .u64 t263, .int .u64 ji7] (by rfl) rfl rfl (by (try simp only [List.map_toArray, List.map_cons, List.map_nil]); first | done | (simp only [hji7]; rfl) | rfl | (simp only [List.length_drop, List.length_take]; rfl)) ?_
   with_reducible refine (shape_format_join.calls t259 t260 false t263 ji7 t264 _ A8.out).mono ?_
   rintro e w15 ⟨rfl, hb⟩
   refine ⟨_, rfl, ?_⟩
   replace BK262 := A_ (bb_ BK262.out hb)
   replace HB := A_ (below_step (hb1_ HB.out GE262.out) hb);(try clear hb);(try clear hb2);(try clear hk);(try clear hi)
   refine hK.out _ _ ⟨bc_ BK262.out 0, bc_ BK262.out 1⟩ (fun hHeld => ?_)
   clear hK K
   refine norm_ (a' := ?_) ?_ ?_
   rotate_left
   ·show Act.put _ (some 19) _ = _
    simp only [Act.put, lI_, l0_, lS_, i64_w, i32_w]
    rfl
   refine pu_ 8 (some 2) #[true, true, true, true, true, true, true, true, true] rfl rfl (any_of HT_.out (by kernel_rfl)) ?_
   refine done_ (done_of HT_.out (by kernel_rfl)) ?_
   try go_wp2
   go_ret
   exact ⟨by first | rfl | (simp [errW_none, errW_some] <;> rfl) | (simp only [← hji5, ← hji7]; first | rfl | (simp [errW_none, errW_some] <;> rfl)) | (simp [*, errW_none, errW_some] <;> rfl), hb1_ HB.out GE262.out⟩
  ·rw [if_neg c6] at H
   exact absurd H (by simp)
 ·replace c3 := Bool.eq_false_iff.mpr c3
  subst c3
  have H1 : (some 0) = some r := by rw [if_neg (show ¬ (false = true) by decide)] at H; exact H
  clear H;have H := H1;clear H1
  obtain rfl := Option.some.inj H
  go_enter Tryd.func33, Tryd.ntmps33
  go_wp2_with (first | ((with_reducible refine gate_callee (f := 63) rfl ?_); refine goesL_ (some 7) rfl rfl Tryd.func63 (by kernel_rfl) rfl #[.int .i64 a0] rfl mp_ ?_; (with_reducible refine (shape_of.calls a0 t259 t260 false _ A2.out).mono ?_); rintro e w16 ⟨rfl, hb⟩; refine ⟨_, rfl, ?_⟩; replace HB := A_ (below_step (hb_ HB.out) hb); (try clear hb); (try clear hb2); (try clear hk); (try clear hi)) | ((with_reducible refine gate_dst (N := 3) rfl ?_); refine be_ 3 #[.int .i64 0, .int .i64 0] 78 ?_; intro gb262 hg w17 hbox hb; have BK262 := A_ (hbox); have GW262 := A_ (sz_ hg (hb_ HB.out)); have GE262 := A_ (sz_ hg (hb_ HB.out)); replace HB := A_ (below_step (hb_ HB.out) hb); clear hb hbox hg; have hcz18_0 := bv_ BK262.out 0; have hcz18_1 := bv_ BK262.out 1; have hfz18_0 := blk_frozen BK262.out 0; have hfz18_1 := blk_frozen BK262.out 1))
  go_ret
  exact ⟨er_, hb1_ HB.out GE262.out⟩
def shape_format_low.f (a0_0 : Int) (a0_1 : Int) : Option (Int) := if 0 ≤ (wrap64 (a0_0 - 1)) then (some (wrap64 ((wrap64 (2 - (shl .i64 1 (wrap64 (a0_0 - 1))))) - a0_1))) else (none)
theorem shape_format_low.calls (a0_0 : Int) (a0_1 : Int) (r : Int) (w : World) (h : shape_format_low.f a0_0 a0_1 = some r) :
  Calls Tryd.prog 88 #[.agg #[.int .i64 a0_0, .int .i64 a0_1]] w fun e w' => e = .returned (.int .i64 r) ∧ Below w.heap.size w w' := by
 have hu78 := Tryd.underlying78
 have HB := A_ (Below.refl w.heap.size w)
 have H : (if 0 ≤ (wrap64 (a0_0 - 1)) then (some (wrap64 ((wrap64 (2 - (shl .i64 1 (wrap64 (a0_0 - 1))))) - a0_1))) else (none)) = some r := h
 clear h
 obtain ⟨ji2, hji2⟩ : ∃ j_ : Int, (wrap64 (a0_0 - 1)) = j_ := ⟨_, rfl⟩
 replace H : (if 0 ≤ (ji2) then (some (wrap64 ((wrap64 (2 - (shl .i64 1 (ji2)))) - a0_1))) else (none)) = some r := by first | (rw [hji2] at H; exact H) | (simp only [hji2] at H ⊢; exact H)
 have hji2w : (IntKind.i64.wrap (a0_0 - 1)) = ji2 := (i64_w _).trans hji2
 by_cases c3 : 0 ≤ (ji2)
 ·rw [if_pos c3] at H
  have c3b0 := eq_true c3
  have c3b1 : decide (0 ≤ (ji2)) = true := decide_eq_true c3
  clear c3
  obtain ⟨ji4, hji4⟩ : ∃ j_ : Int, (shl .i64 1 (ji2)) = j_ := ⟨_, rfl⟩
  replace H : (some (wrap64 ((wrap64 (2 - (ji4))) - a0_1))) = some r := by first | (rw [hji4] at H; exact H) | (simp only [hji4] at H ⊢; exact H)
  have hji4_ : (IntKind.i64.wrap (1 * 2 ^ min (ji2).toNat 64)) = ji4 := hji4
  have hji4z : (ji2) ≤ 64 → (IntKind.i64.wrap (1 * 2 ^ (ji2).toNat)) = ji4 := shl_small hji4
  have hji4u : (IntKind.i64.wrap (2 ^ min (ji2).toNat 64)) = ji4 := by have h_ := hji4_; rw [Int.one_mul] at h_; exact h_
  have hji4v : (ji2) ≤ 64 → (IntKind.i64.wrap (2 ^ (ji2).toNat)) = ji4 := fun hle_ => by have h_ := hji4z hle_; rw [Int.one_mul] at h_; exact h_
  have hji4y : (wrap64 (1 * 2 ^ min (ji2).toNat 64)) = ji4 := (i64_w _).symm.trans hji4_
  have hji4x : (ji2) ≤ 64 → (wrap64 (1 * 2 ^ (ji2).toNat)) = ji4 := fun h_ => (i64_w _).symm.trans (hji4z h_)
  obtain rfl := Option.some.inj H
  go_enter Tryd.func88, Tryd.ntmps88
  go_wp2_with (first | ((with_reducible refine gate_dst (N := 1) rfl ?_); refine be_ 1 #[.int .i64 a0_0, .int .i64 a0_1] 78 ?_; intro gb265 hg w5 hbox hb; have BK265 := A_ (hbox); have GW265 := A_ (sz_ hg (hb_ HB.out)); have GE265 := A_ (sz_ hg (hb_ HB.out)); replace HB := A_ (below_step (hb_ HB.out) hb); clear hb hbox hg; have hcz6_0 := bv_ BK265.out 0; have hcz6_1 := bv_ BK265.out 1; have hfz6_0 := blk_frozen BK265.out 0; have hfz6_1 := blk_frozen BK265.out 1))
  repeat (go_quiet (first | ((with_reducible refine gate_dst (N := 1) rfl ?_); refine be_ 1 #[.int .i64 a0_0, .int .i64 a0_1] 78 ?_; intro gb265 hg w5 hbox hb; have BK265 := A_ (hbox); have GW265 := A_ (sz_ hg (hb_ HB.out)); have GE265 := A_ (sz_ hg (hb_ HB.out)); replace HB := A_ (below_step (hb_ HB.out) hb); clear hb hbox hg; have hcz6_0 := bv_ BK265.out 0; have hcz6_1 := bv_ BK265.out 1; have hfz6_0 := blk_frozen BK265.out 0; have hfz6_1 := blk_frozen BK265.out 1)); try go_wp2_with (first | ((with_reducible refine gate_dst (N := 1) rfl ?_); refine be_ 1 #[.int .i64 a0_0, .int .i64 a0_1] 78 ?_; intro gb265 hg w5 hbox hb; have BK265 := A_ (hbox); have GW265 := A_ (sz_ hg (hb_ HB.out)); have GE265 := A_ (sz_ hg (hb_ HB.out)); replace HB := A_ (below_step (hb_ HB.out) hb); clear hb hbox hg; have hcz6_0 := bv_ BK265.out 0; have hcz6_1 := bv_ BK265.out 1; have hfz6_0 := blk_frozen BK265.out 0; have hfz6_1 := blk_frozen BK265.out 1)))
  go_ret
  exact ⟨by first | rfl | (simp [errW_none, errW_some] <;> rfl) | (simp only [← hji2, ← hji4]; first | rfl | (simp [errW_none, errW_some] <;> rfl)) | (simp [*, errW_none, errW_some] <;> rfl), hb1_ HB.out GE265.out⟩
 ·rw [if_neg c3] at H
  exact absurd H (by simp)
def shape_format_finite.j0 : Nat → Int → Bool → Int → Int → Bool → Int → Int → Int → Option (Int × Bool)
 | 0, _, _, _, _, _, _, _, _ => none
 | k + 1, x6, x9, x267000, x267001, x268000, x268001, x268002, x268003 => if x9 = true then (some (0, false)) else (if 0 ≤ x267001 then (if x268003 < (shl .u64 1 x267001) then ((shape_format_join.f x267000 x267001 x268000 0 x268003).bind fun t269 => (some (t269, (x268002 == x6)))) else ((shape_format_ones.f x267000 x267001).bind fun t270 => (if (wrap64 (x268002 - x6)) > (wrap64 ((wrap64 (t270)) - 2)) then (some (0, false)) else ((shape_format_join.f x267000 x267001 x268000 (IntKind.u64.wrap ((IntKind.u64.wrap (wrap64 (x268002 - x6))) + 1)) (Go.bits .and .u64 x268003 (IntKind.u64.wrap ((shl .u64 1 x267001) - 1)))).bind fun t271 => (some (t271, true)))))) else (none))
def shape_format_finite.f (k : Nat) (a0_0 : Int) (a0_1 : Int) (a1_0 : Bool) (a1_1 : Int) (a1_2 : Int) (a1_3 : Int) : Option (Int × Bool) := (shape_format_low.f a0_0 a0_1).bind fun t268 => (if a1_3 = 0 then (shape_format_finite.j0 k t268 true a0_0 a0_1 a1_0 a1_1 a1_2 a1_3) else (if 0 ≤ a0_1 then (if a1_3 ≥ (shl .u64 2 a0_1) then (shape_format_finite.j0 k t268 true a0_0 a0_1 a1_0 a1_1 a1_2 a1_3) else (shape_format_finite.j0 k t268 (decide (a1_2 < t268)) a0_0 a0_1 a1_0 a1_1 a1_2 a1_3)) else (none)))
theorem shape_format_finite.mono_l : ∀ k, (∀ y0 y1 y2 y3 y4 y5 y6 y7, LeO (shape_format_finite.j0 k y0 y1 y2 y3 y4 y5 y6 y7) (shape_format_finite.j0 (k + 1) y0 y1 y2 y3 y4 y5 y6 y7))
 | 0 => fun _ _ _ _ _ _ _ _ r h => by simp [shape_format_finite.j0] at h
 | k + 1 => by
  have ih0 := shape_format_finite.mono_l k
  ·intro y0 y1 y2 y3 y4 y5 y6 y7
   unfold shape_format_finite.j0
   repeat' first
   | (with_reducible exact ih0 _ _ _ _ _ _ _ _)
   | (with_reducible exact LeO.refl _)
   | (with_reducible exact LeO.none _)
   | (with_reducible refine LeO.ite ?_ ?_)
   | (with_reducible refine LeO.bind ?_ (fun _ => ?_))
   | exact ih0 _ _ _ _ _ _ _ _
   | exact LeO.none _
   | refine LeO.ite ?_ ?_
   | refine LeO.bind ?_ (fun _ => ?_)
theorem shape_format_finite.mono : ∀ a0 a1 a2 a3 a4 a5 k, LeO (shape_format_finite.f k a0 a1 a2 a3 a4 a5) (shape_format_finite.f (k + 1) a0 a1 a2 a3 a4 a5) := by
 intro a0 a1 a2 a3 a4 a5 k
 have ih0 := shape_format_finite.mono_l k
 unfold shape_format_finite.f
 repeat' first
   | (with_reducible exact ih0 _ _ _ _ _ _ _ _)
   | (with_reducible exact LeO.refl _)
   | (with_reducible exact LeO.none _)
   | (with_reducible refine LeO.ite ?_ ?_)
   | (with_reducible refine LeO.bind ?_ (fun _ => ?_))
   | exact ih0 _ _ _ _ _ _ _ _
   | exact LeO.none _
   | refine LeO.ite ?_ ?_
   | refine LeO.bind ?_ (fun _ => ?_)
def shape_format_finite.T2 : Bool × List (List Nat × List Nat) := (true, [([], []), ([0], [0]), ([1], [1]), ([2], [2]), ([3], [3]), ([4, 3], [3, 4]), ([3], [3]), ([6, 3], [3, 6]), ([7, 3], [3, 7]), ([5, 8, 3], [3, 5, 8]), ([3, 9], [3, 9]), ([10, 3], [10]), ([11], [11]), ([12, 11], [11, 12]), ([11], [11]), ([13, 14, 11], [11, 13, 14]), ([11, 15], [11, 15]), ([16, 11], [16])])
def shape_format_finite.B2 : List Nat := [0, 1, 3, 7, 15, 31, 15, 79, 207, 511, 1023, 2047, 4095, 8191, 4095, 32767, 65535, 131071]
theorem shape_format_finite.tab2 : rtab .any (opsOf Tryd.f118 2) = shape_format_finite.T2 := by kernel_rfl
theorem shape_format_finite.bits2 : waitsOk shape_format_finite.T2.2 shape_format_finite.B2 = true := by kernel_rfl
def shape_format_finite.T5 : Bool × List (List Nat × List Nat) := (true, [([], []), ([], []), ([1], [1]), ([], []), ([3], [3]), ([0, 2, 4], [0, 2, 4]), ([], []), ([6], [6]), ([], []), ([7, 8], [7, 8]), ([5, 5, 0, 1, 2, 3, 4, 5], [5]), ([9, 10, 0, 1, 2, 3, 4, 5, 6, 7, 8, 9, 10], [9])])
def shape_format_finite.B5 : List Nat := [0, 0, 2, 0, 8, 31, 0, 64, 0, 448, 63, 2047]
theorem shape_format_finite.tab5 : rtab .any (opsOf Tryd.f118 5) = shape_format_finite.T5 := by kernel_rfl
theorem shape_format_finite.bits5 : waitsOk shape_format_finite.T5.2 shape_format_finite.B5 = true := by kernel_rfl
def shape_format_finite.T6 : Bool × List (List Nat × List Nat) := (true, [([], []), ([0], [0]), ([], []), ([1, 2], [1, 2]), ([], []), ([4], [4]), ([5], [5]), ([6], [6]), ([3, 7], [3, 7]), ([8, 5], [8])])
def shape_format_finite.B6 : List Nat := [0, 1, 0, 7, 0, 16, 48, 112, 255, 511]
theorem shape_format_finite.tab6 : rtab .any (opsOf Tryd.f118 6) = shape_format_finite.T6 := by kernel_rfl
theorem shape_format_finite.bits6 : waitsOk shape_format_finite.T6.2 shape_format_finite.B6 = true := by kernel_rfl
def shape_format_finite.T8 : Bool × List (List Nat × List Nat) := (true, [([], []), ([], []), ([1], [1]), ([], []), ([3], [3]), ([], []), ([4, 5], [4, 5]), ([6], [6]), ([7], [7]), ([], []), ([9], [9]), ([], []), ([11], [11]), ([12], [12]), ([13], [13]), ([10, 14], [10, 14]), ([0, 2, 8, 15], [0, 2, 8, 15]), ([16, 16, 0, 1, 2, 3, 4, 5, 6, 7, 8, 9, 10, 11, 12, 13, 14, 15, 16], [16]), ([17, 0, 1, 2, 3, 4, 5, 6, 7, 8, 9, 10, 11, 12, 13, 14, 15, 16, 17], [])])
def shape_format_finite.B8 : List Nat := [0, 0, 2, 0, 8, 0, 56, 120, 248, 0, 512, 0, 2048, 6144, 14336, 32256, 65535, 131071, 262143]
theorem shape_format_finite.tab8 : rtab .any (opsOf Tryd.f118 8) = shape_format_finite.T8 := by kernel_rfl
theorem shape_format_finite.bits8 : waitsOk shape_format_finite.T8.2 shape_format_finite.B8 = true := by kernel_rfl
theorem shape_format_finite.calls (k : Nat) (a0_0 : Int) (a0_1 : Int) (a1_0 : Bool) (a1_1 : Int) (a1_2 : Int) (a1_3 : Int) (r1 : Int) (r2 : Bool) (w : World) (h : shape_format_finite.f k a0_0 a0_1 a1_0 a1_1 a1_2 a1_3 = some (r1, r2)) :
  Calls Tryd.prog 118 #[.agg #[.int .i64 a0_0, .int .i64 a0_1], .agg #[.bool a1_0, .int .i64 a1_1, .int .i64 a1_2, .int .u64 a1_3]] w fun e w' => e = .returned (.tuple #[.int .u64 r1, .bool r2]) ∧ Below w.heap.size w w' := by
 have hu78 := Tryd.underlying78
 have hu75 := Tryd.underlying75
 have HB := A_ (Below.refl w.heap.size w)
 have H : ((shape_format_low.f a0_0 a0_1).bind fun t268 => (if a1_3 = 0 then (shape_format_finite.j0 k t268 true a0_0 a0_1 a1_0 a1_1 a1_2 a1_3) else (if 0 ≤ a0_1 then (if a1_3 ≥ (shl .u64 2 a0_1) then (shape_format_finite.j0 k t268 true a0_0 a0_1 a1_0 a1_1 a1_2 a1_3) else (shape_format_finite.j0 k t268 (decide (a1_2 < t268)) a0_0 a0_1 a1_0 a1_1 a1_2 a1_3)) else (none)))) = some (r1, r2) := h
 clear h
 replace H := ob_ H
 obtain ⟨t268, A30, H⟩ := H
 replace H : (if a1_3 = 0 then (shape_format_finite.j0 k t268 true a0_0 a0_1 a1_0 a1_1 a1_2 a1_3) else (if 0 ≤ a0_1 then (if a1_3 ≥ (shl .u64 2 a0_1) then (shape_format_finite.j0 k t268 true a0_0 a0_1 a1_0 a1_1 a1_2 a1_3) else (shape_format_finite.j0 k t268 (decide (a1_2 < t268)) a0_0 a0_1 a1_0 a1_1 a1_2 a1_3)) else (none))) = some (r1, r2) := H
 have A3 := A_ A30;clear A30;have HC4 := A_ H;clear H
 go_enter Tryd.func118, Tryd.ntmps118
 go_upto_region 2 with (first | ((with_reducible refine gate_dst (N := 2) rfl ?_); refine be_ 2 #[.int .i64 a0_0, .int .i64 a0_1] 78 ?_; intro gb266 hg w5 hbox hb; have BK266 := A_ (hbox); have GW266 := A_ (sz_ hg (hb_ HB.out)); have GE266 := A_ (sz_ hg (hb_ HB.out)); replace HB := A_ (below_step (hb_ HB.out) hb); clear hb hbox hg) | ((with_reducible refine gate_dst (N := 3) rfl ?_); refine be_ 3 #[.bool a1_0, .int .i64 a1_1, .int .i64 a1_2, .int .u64 a1_3] 75 ?_; intro gb267 hg w6 hbox hb; have BK267 := A_ (hbox); have GW267 := A_ (sz_ hg (hb1_ HB.out GE266.out)); have GE267 := A_ (sz_ hg (hb1_ HB.out GE266.out)); have NB266_267 := A_ (nl_ hg BK266.out); have NB267_266 := A_ (ng_ hg BK266.out); replace BK266 := A_ (bb_ BK266.out hb); replace HB := A_ (below_step (hb1_ HB.out GE266.out) hb); clear hb hbox hg; have hnb7 := NB266_267.out; have hnc7 := NB267_266.out; have hcz8_0 := bv_ BK266.out 0; have hcz8_1 := bv_ BK266.out 1; have hfz8_0 := blk_frozen BK266.out 0; have hfz8_1 := blk_frozen BK266.out 1) | ((with_reducible refine gate_callee (f := 88) rfl ?_); refine goesL_ (some 8) rfl rfl Tryd.func88 (by kernel_rfl) rfl #[.agg #[.int .i64 a0_0, .int .i64 a0_1]] rfl mp_ ?_; (with_reducible refine (shape_format_low.calls a0_0 a0_1 t268 _ A3.out).mono ?_); rintro e w9 ⟨rfl, hb⟩; refine ⟨_, rfl, ?_⟩; replace BK266 := A_ (bb_ BK266.out hb); replace BK267 := A_ (bb_ BK267.out hb); replace HB := A_ (below_step (hb2_ HB.out GE266.out GE267.out) hb); (try clear hb); (try clear hb2); (try clear hk); (try clear hi)))
 (try simp only [Act.put, lI_, l0_, lS_])
 go_cut [9] (fun v9 wc => ∃ (kq : Nat) (x9_3 : Bool), v9 = .bool x9_3 ∧ Aside0 (shape_format_finite.j0 kq t268 x9_3 a0_0 a0_1 a1_0 a1_1 a1_2 a1_3 = some (r1, r2)) ∧ Aside0 (kq ≤ k) ∧ Aside0 (wc.heap[gb266]? = some (.cells #[.int .i64 a0_0, .int .i64 a0_1] 78 (0, 0))) ∧ Aside0 (wc.heap[gb267]? = some (.cells #[.bool a1_0, .int .i64 a1_1, .int .i64 a1_2, .int .u64 a1_3] 75 (0, 0))) ∧ Aside0 (Below w.heap.size w wc))
 case first =>
  have H := HC4.out
  clear HC4
  by_cases c10 : a1_3 = 0
  ·rw [if_pos c10] at H
   have c10b0 : (a1_3 == 0) = true := beq_iff_eq.mpr c10
   have c10b1 : (a1_3 != 0) = false := bne_eq_false_iff_eq.mpr c10
   clear c10
   (first | rw [c10b0] | (simp only [i64_w, i32_w]; rw [c10b0]) | skip)
   have H' := A_ H
   clear H
   try go_wp2
   replace BK266 := A_ (blk_drew BK266.out)
   replace BK267 := A_ (blk_drew BK267.out)
   replace HB := A_ (below_drew1 HB.out)
   refine start_ (n := 18) (S := fun w' => w'.cell? ⟨gb267, 0, none⟩ = some (.bool a1_0) ∧ w'.cell? ⟨gb267, 1, none⟩ = some (.int .i64 a1_1) ∧ w'.cell? ⟨gb267, 2, none⟩ = some (.int .i64 a1_2) ∧ w'.cell? ⟨gb267, 3, none⟩ = some (.int .u64 a1_3)) (ds := []) #[false, false, false, false, false, false, false, false, false, false, false, false, false, false, false, false, false, false] (by kernel_rfl) rfl rfl ⟨bc_ BK267.out 0, bc_ BK267.out 1, bc_ BK267.out 2, bc_ BK267.out 3⟩ (fun hHeld => ?_); refine with_tabW shape_format_finite.tab2 shape_format_finite.bits2 (fun HT_ HW_ => ?_)
   generalize w9.drew = w11 at BK266 BK267 HB hHeld ⊢
   refine pu_ 0 (some 10) #[true, false, false, false, false, false, false, false, false, false, false, false, false, false, false, false, false, false] rfl rfl (any_of HT_.out (by kernel_rfl)) ?_
   refine tk4_ 1 (some 11) #[true, true, false, false, false, false, false, false, false, false, false, false, false, false, false, false, false, false] rfl rfl (take_ofW HT_.out HW_.out (by kernel_rfl)) hHeld ?_
   refine pu_ 2 (some 12) #[true, true, true, false, false, false, false, false, false, false, false, false, false, false, false, false, false, false] rfl rfl (any_of HT_.out (by kernel_rfl)) ?_
   refine pu_ 3 (some 13) #[true, true, true, true, false, false, false, false, false, false, false, false, false, false, false, false, false, false] rfl rfl (any_of HT_.out (by kernel_rfl)) ?_
   refine pure_ (i := 4) (N := some 14) (v := undef) (a' := ?_) #[true, true, true, true, true, false, false, false, false, false, false, false, false, false, false, false, false, false] rfl rfl (any_of HT_.out (by kernel_rfl)) (fun _ _ _ h => h) (Or.inr ⟨by rfl, rfl⟩) ?_ ?_
   rotate_left
   ·simp only [Act.put, lI_, l0_, lS_, i64_w, i32_w]
    rfl
   refine pure_ (i := 5) (N := some 15) (v := undef) (a' := ?_) #[true, true, true, true, true, true, false, false, false, false, false, false, false, false, false, false, false, false] rfl rfl (any_of HT_.out (by kernel_rfl)) (fun _ _ _ h => h) (Or.inr ⟨by rfl, rfl⟩) ?_ ?_
   rotate_left
   ·simp only [Act.put, lI_, l0_, lS_, i64_w, i32_w]
    rfl
   refine pure_ (i := 6) (N := some 16) (v := undef) (a' := ?_) #[true, true, true, true, true, true, true, false, false, false, false, false, false, false, false, false, false, false] rfl rfl (any_of HT_.out (by kernel_rfl)) (fun _ _ _ h => h) (Or.inr ⟨by rfl, rfl⟩) ?_ ?_
   rotate_left
   ·simp only [Act.put, lI_, l0_, lS_, i64_w, i32_w]
    rfl
   refine pure_ (i := 7) (N := some 17) (v := undef) (a' := ?_) #[true, true, true, true, true, true, true, true, false, false, false, false, false, false, false, false, false, false] rfl rfl (any_of HT_.out (by kernel_rfl)) (fun _ _ _ h => h) (Or.inr ⟨by rfl, rfl⟩) ?_ ?_
   rotate_left
   ·simp only [Act.put, lI_, l0_, lS_, i64_w, i32_w]
    rfl
   refine pure_ (i := 8) (N := some 18) (v := undef) (a' := ?_) #[true, true, true, true, true, true, true, true, true, false, false, false, false, false, false, false, false, false] rfl rfl (any_of HT_.out (by kernel_rfl)) (fun _ _ _ h => h) (Or.inr ⟨by rfl, rfl⟩) ?_ ?_
   rotate_left
   ·simp only [Act.put, lI_, l0_, lS_, i64_w, i32_w]
    rfl
   refine pure_ (i := 9) (N := some 19) (v := undef) (a' := ?_) #[true, true, true, true, true, true, true, true, true, true, false, false, false, false, false, false, false, false] rfl rfl (any_of HT_.out (by kernel_rfl)) (fun _ _ _ h => h) (Or.inr ⟨by rfl, rfl⟩) ?_ ?_
   rotate_left
   ·simp only [Act.put, lI_, l0_, lS_, i64_w, i32_w]
    rfl
   refine pu_ 10 (some 20) #[true, true, true, true, true, true, true, true, true, true, true, false, false, false, false, false, false, false] rfl rfl (any_of HT_.out (by kernel_rfl)) ?_
   refine pu_ 11 (some 21) #[true, true, true, true, true, true, true, true, true, true, true, true, false, false, false, false, false, false] rfl rfl (any_of HT_.out (by kernel_rfl)) ?_
   refine pure_ (i := 12) (N := some 22) (v := undef) (a' := ?_) #[true, true, true, true, true, true, true, true, true, true, true, true, true, false, false, false, false, false] rfl rfl (any_of HT_.out (by kernel_rfl)) (fun _ _ _ h => h) (Or.inr ⟨by rfl, rfl⟩) ?_ ?_
   rotate_left
   ·simp only [Act.put, lI_, l0_, lS_, i64_w, i32_w]
    rfl
   refine pure_ (i := 13) (N := some 23) (v := undef) (a' := ?_) #[true, true, true, true, true, true, true, true, true, true, true, true, true, true, false, false, false, false] rfl rfl (any_of HT_.out (by kernel_rfl)) (fun _ _ _ h => h) (Or.inr ⟨by rfl, rfl⟩) ?_ ?_
   rotate_left
   ·simp only [Act.put, lI_, l0_, lS_, i64_w, i32_w]
    rfl
   refine pure_ (i := 14) (N := some 24) (v := undef) (a' := ?_) #[true, true, true, true, true, true, true, true, true, true, true, true, true, true, true, false, false, false] rfl rfl (any_of HT_.out (by kernel_rfl)) (fun _ _ _ h => h) (Or.inr ⟨by rfl, rfl⟩) ?_ ?_
   rotate_left
   ·simp only [Act.put, lI_, l0_, lS_, i64_w, i32_w]
    rfl
   refine pure_ (i := 15) (N := some 25) (v := undef) (a' := ?_) #[true, true, true, true, true, true, true, true, true, true, true, true, true, true, true, true, false, false] rfl rfl (any_of HT_.out (by kernel_rfl)) (fun _ _ _ h => h) (Or.inr ⟨by rfl, rfl⟩) ?_ ?_
   rotate_left
   ·simp only [Act.put, lI_, l0_, lS_, i64_w, i32_w]
    rfl
   refine pu_ 16 (some 26) #[true, true, true, true, true, true, true, true, true, true, true, true, true, true, true, true, true, false] rfl rfl (any_of HT_.out (by kernel_rfl)) ?_
   refine pu_ 17 (some 9) #[true, true, true, true, true, true, true, true, true, true, true, true, true, true, true, true, true, true] rfl rfl (any_of HT_.out (by kernel_rfl)) ?_
   refine done_ (done_of HT_.out (by kernel_rfl)) ?_
   try go_wp2
   go_meet
   case rel => exact ⟨_, (true), sm_, H', ⟨by first | omega | exact Nat.le_refl _⟩, ⟨bk_ BK266.out⟩, ⟨bk_ BK267.out⟩, ⟨hb2_ HB.out GE266.out GE267.out⟩⟩
  ·rw [if_neg c10] at H
   have c10b0 : (a1_3 == 0) = false := beq_eq_false_iff_ne.mpr c10
   have c10b1 : (a1_3 != 0) = true := bne_iff_ne.mpr c10
   (first | rw [c10b0] | (simp only [i64_w, i32_w]; rw [c10b0]) | skip)
   by_cases c12 : 0 ≤ a0_1
   ·rw [if_pos c12] at H
    have c12b0 := eq_true c12
    have c12b1 : decide (0 ≤ a0_1) = true := decide_eq_true c12
    clear c12
    obtain ⟨ji13, hji13⟩ : ∃ j_ : Int, (shl .u64 2 a0_1) = j_ := ⟨_, rfl⟩
    replace H : (if a1_3 ≥ (ji13) then (shape_format_finite.j0 k t268 true a0_0 a0_1 a1_0 a1_1 a1_2 a1_3) else (shape_format_finite.j0 k t268 (decide (a1_2 < t268)) a0_0 a0_1 a1_0 a1_1 a1_2 a1_3)) = some (r1, r2) := by first | (rw [hji13] at H; exact H) | (simp only [hji13] at H ⊢; exact H)
    have hji13_ : (IntKind.u64.wrap (2 * 2 ^ min a0_1.toNat 64)) = ji13 := hji13
    have hji13z : a0_1 ≤ 64 → (IntKind.u64.wrap (2 * 2 ^ a0_1.toNat)) = ji13 := shl_small hji13
    by_cases c14 : a1_3 ≥ (ji13)
    ·rw [if_pos c14] at H
     have c14b0 : decide ((ji13) ≤ a1_3) = true := decide_eq_true c14
     clear c14
     have H' := A_ H
     clear H
     try go_wp2
     replace BK266 := A_ (blk_drew BK266.out)
     replace BK267 := A_ (blk_drew BK267.out)
     replace HB := A_ (below_drew1 HB.out)
     refine start_ (n := 18) (S := fun w' => w'.cell? ⟨gb267, 0, none⟩ = some (.bool a1_0) ∧ w'.cell? ⟨gb267, 1, none⟩ = some (.int .i64 a1_1) ∧ w'.cell? ⟨gb267, 2, none⟩ = some (.int .i64 a1_2) ∧ w'.cell? ⟨gb267, 3, none⟩ = some (.int .u64 a1_3) ∧ w'.cell? ⟨gb266, 0, none⟩ = some (.int .i64 a0_0) ∧ w'.cell? ⟨gb266, 1, none⟩ = some (.int .i64 a0_1)) (ds := []) #[false, false, false, false, false, false, false, false, false, false, false, false, false, false, false, false, false, false] (by kernel_rfl) rfl rfl ⟨bc_ BK267.out 0, bc_ BK267.out 1, bc_ BK267.out 2, bc_ BK267.out 3, bc_ BK266.out 0, bc_ BK266.out 1⟩ (fun hHeld => ?_); refine with_tabW shape_format_finite.tab2 shape_format_finite.bits2 (fun HT_ HW_ => ?_)
     generalize w9.drew = w15 at BK266 BK267 HB hHeld ⊢
     refine pu_ 0 (some 10) #[true, false, false, false, false, false, false, false, false, false, false, false, false, false, false, false, false, false] rfl rfl (any_of HT_.out (by kernel_rfl)) ?_
     refine tk6_ 1 (some 11) #[true, true, false, false, false, false, false, false, false, false, false, false, false, false, false, false, false, false] rfl rfl (take_ofW HT_.out HW_.out (by kernel_rfl)) hHeld ?_
     refine pu_ 2 (some 12) #[true, true, true, false, false, false, false, false, false, false, false, false, false, false, false, false, false, false] rfl rfl (any_of HT_.out (by kernel_rfl)) ?_
     refine pu_ 3 (some 13) #[true, true, true, true, false, false, false, false, false, false, false, false, false, false, false, false, false, false] rfl rfl (any_of HT_.out (by kernel_rfl)) ?_
     refine pu_ 4 (some 14) #[true, true, true, true, true, false, false, false, false, false, false, false, false, false, false, false, false, false] rfl rfl (any_of HT_.out (by kernel_rfl)) ?_
     refine pu_ 6 (some 16) #[true, true, true, true, true, false, true, false, false, false, false, false, false, false, false, false, false, false] rfl rfl (any_of HT_.out (by kernel_rfl)) ?_
     refine tk6_ 5 (some 15) #[true, true, true, true, true, true, true, false, false, false, false, false, false, false, false, false, false, false] rfl rfl (take_ofW HT_.out HW_.out (by kernel_rfl)) hHeld ?_
     refine tk6_ 7 (some 17) #[true, true, true, true, true, true, true, true, false, false, false, false, false, false, false, false, false, false] rfl rfl (take_ofW HT_.out HW_.out (by kernel_rfl)) hHeld ?_
     refine pu_ 8 (some 18) #[true, true, true, true, true, true, true, true, true, false, false, false, false, false, false, false, false, false] rfl rfl (any_of HT_.out (by kernel_rfl)) ?_
     refine pu_ 9 (some 19) #[true, true, true, true, true, true, true, true, true, true, false, false, false, false, false, false, false, false] rfl rfl (any_of HT_.out (by kernel_rfl)) ?_
     refine pu_ 10 (some 20) #[true, true, true, true, true, true, true, true, true, true, true, false, false, false, false, false, false, false] rfl rfl (any_of HT_.out (by kernel_rfl)) ?_
     refine pu_ 11 (some 21) #[true, true, true, true, true, true, true, true, true, true, true, true, false, false, false, false, false, false] rfl rfl (any_of HT_.out (by kernel_rfl)) ?_
     refine pure_ (i := 12) (N := some 22) (v := undef) (a' := ?_) #[true, true, true, true, true, true, true, true, true, true, true, true, true, false, false, false, false, false] rfl rfl (any_of HT_.out (by kernel_rfl)) (fun _ _ _ h => h) (Or.inr ⟨by rfl, rfl⟩) ?_ ?_
     rotate_left
     ·simp only [Act.put, lI_, l0_, lS_, i64_w, i32_w]
      rfl
     refine pure_ (i := 13) (N := some 23) (v := undef) (a' := ?_) #[true, true, true, true, true, true, true, true, true, true, true, true, true, true, false, false, false, false] rfl rfl (any_of HT_.out (by kernel_rfl)) (fun _ _ _ h => h) (Or.inr ⟨by rfl, rfl⟩) ?_ ?_
     rotate_left
     ·simp only [Act.put, lI_, l0_, lS_, i64_w, i32_w]
      rfl
     refine pure_ (i := 14) (N := some 24) (v := undef) (a' := ?_) #[true, true, true, true, true, true, true, true, true, true, true, true, true, true, true, false, false, false] rfl rfl (any_of HT_.out (by kernel_rfl)) (fun _ _ _ h => h) (Or.inr ⟨by rfl, rfl⟩) ?_ ?_
     rotate_left
     ·simp only [Act.put, lI_, l0_, lS_, i64_w, i32_w]
      rfl
     refine pure_ (i := 15) (N := some 25) (v := undef) (a' := ?_) #[true, true, true, true, true, true, true, true, true, true, true, true, true, true, true, true, false, false] rfl rfl (any_of HT_.out (by kernel_rfl)) (fun _ _ _ h => h) (Or.inr ⟨by rfl, rfl⟩) ?_ ?_
     rotate_left
     ·simp only [Act.put, lI_, l0_, lS_, i64_w, i32_w]
      rfl
     refine pu_ 16 (some 26) #[true, true, true, true, true, true, true, true, true, true, true, true, true, true, true, true, true, false] rfl rfl (any_of HT_.out (by kernel_rfl)) ?_
     refine pu_ 17 (some 9) #[true, true, true, true, true, true, true, true, true, true, true, true, true, true, true, true, true, true] rfl rfl (any_of HT_.out (by kernel_rfl)) ?_
     refine done_ (done_of HT_.out (by kernel_rfl)) ?_
     try go_wp2
     go_meet
     case rel => exact ⟨_, (true), sm_, H', ⟨by first | omega | exact Nat.le_refl _⟩, ⟨bk_ BK266.out⟩, ⟨bk_ BK267.out⟩, ⟨hb2_ HB.out GE266.out GE267.out⟩⟩
    ·rw [if_neg c14] at H
     have c14b0 : decide ((ji13) ≤ a1_3) = false := decide_eq_false c14
     clear c14
     have H' := A_ H
     clear H
     try go_wp2
     replace BK266 := A_ (blk_drew BK266.out)
     replace BK267 := A_ (blk_drew BK267.out)
     replace HB := A_ (below_drew1 HB.out)
     refine start_ (n := 18) (S := fun w' => w'.cell? ⟨gb267, 0, none⟩ = some (.bool a1_0) ∧ w'.cell? ⟨gb267, 1, none⟩ = some (.int .i64 a1_1) ∧ w'.cell? ⟨gb267, 2, none⟩ = some (.int .i64 a1_2) ∧ w'.cell? ⟨gb267, 3, none⟩ = some (.int .u64 a1_3) ∧ w'.cell? ⟨gb266, 0, none⟩ = some (.int .i64 a0_0) ∧ w'.cell? ⟨gb266, 1, none⟩ = some (.int .i64 a0_1)) (ds := []) #[false, false, false, false, false, false, false, false, false, false, false, false, false, false, false, false, false, false] (by kernel_rfl) rfl rfl ⟨bc_ BK267.out 0, bc_ BK267.out 1, bc_ BK267.out 2, bc_ BK267.out 3, bc_ BK266.out 0, bc_ BK266.out 1⟩ (fun hHeld => ?_); refine with_tabW shape_format_finite.tab2 shape_format_finite.bits2 (fun HT_ HW_ => ?_)
     generalize w9.drew = w16 at BK266 BK267 HB hHeld ⊢
     refine pu_ 0 (some 10) #[true, false, false, false, false, false, false, false, false, false, false, false, false, false, false, false, false, false] rfl rfl (any_of HT_.out (by kernel_rfl)) ?_
     refine tk6_ 1 (some 11) #[true, true, false, false, false, false, false, false, false, false, false, false, false, false, false, false, false, false] rfl rfl (take_ofW HT_.out HW_.out (by kernel_rfl)) hHeld ?_
     refine pu_ 2 (some 12) #[true, true, true, false, false, false, false, false, false, false, false, false, false, false, false, false, false, false] rfl rfl (any_of HT_.out (by kernel_rfl)) ?_
     refine pu_ 3 (some 13) #[true, true, true, true, false, false, false, false, false, false, false, false, false, false, false, false, false, false] rfl rfl (any_of HT_.out (by kernel_rfl)) ?_
     refine pu_ 4 (some 14) #[true, true, true, true, true, false, false, false, false, false, false, false, false, false, false, false, false, false] rfl rfl (any_of HT_.out (by kernel_rfl)) ?_
     refine pu_ 6 (some 16) #[true, true, true, true, true, false, true, false, false, false, false, false, false, false, false, false, false, false] rfl rfl (any_of HT_.out (by kernel_rfl)) ?_
     refine tk6_ 5 (some 15) #[true, true, true, true, true, true, true, false, false, false, false, false, false, false, false, false, false, false] rfl rfl (take_ofW HT_.out HW_.out (by kernel_rfl)) hHeld ?_
     refine tk6_ 7 (some 17) #[true, true, true, true, true, true, true, true, false, false, false, false, false, false, false, false, false, false] rfl rfl (take_ofW HT_.out HW_.out (by kernel_rfl)) hHeld ?_
     refine pu_ 8 (some 18) #[true, true, true, true, true, true, true, true, true, false, false, false, false, false, false, false, false, false] rfl rfl (any_of HT_.out (by kernel_rfl)) ?_
     refine pu_ 9 (some 19) #[true, true, true, true, true, true, true, true, true, true, false, false, false, false, false, false, false, false] rfl rfl (any_of HT_.out (by kernel_rfl)) ?_
     refine pu_ 10 (some 20) #[true, true, true, true, true, true, true, true, true, true, true, false, false, false, false, false, false, false] rfl rfl (any_of HT_.out (by kernel_rfl)) ?_
     refine pu_ 11 (some 21) #[true, true, true, true, true, true, true, true, true, true, true, true, false, false, false, false, false, false] rfl rfl (any_of HT_.out (by kernel_rfl)) ?_
     refine pu_ 12 (some 22) #[true, true, true, true, true, true, true, true, true, true, true, true, true, false, false, false, false, false] rfl rfl (any_of HT_.out (by kernel_rfl)) ?_
     refine pu_ 14 (some 24) #[true, true, true, true, true, true, true, true, true, true, true, true, true, false, true, false, false, false] rfl rfl (any_of HT_.out (by kernel_rfl)) ?_
     refine tk6_ 13 (some 23) #[true, true, true, true, true, true, true, true, true, true, true, true, true, true, true, false, false, false] rfl rfl (take_ofW HT_.out HW_.out (by kernel_rfl)) hHeld ?_
     refine pu_ 15 (some 25) #[true, true, true, true, true, true, true, true, true, true, true, true, true, true, true, true, false, false] rfl rfl (any_of HT_.out (by kernel_rfl)) ?_
     refine pu_ 16 (some 26) #[true, true, true, true, true, true, true, true, true, true, true, true, true, true, true, true, true, false] rfl rfl (any_of HT_.out (by kernel_rfl)) ?_
     refine pu_ 17 (some 9) #[true, true, true, true, true, true, true, true, true, true, true, true, true, true, true, true, true, true] rfl rfl (any_of HT_.out (by kernel_rfl)) ?_
     refine done_ (done_of HT_.out (by kernel_rfl)) ?_
     try go_wp2
     go_meet
     case rel => exact ⟨_, (decide (a1_2 < t268)), sm_, H', ⟨by first | omega | exact Nat.le_refl _⟩, ⟨bk_ BK266.out⟩, ⟨bk_ BK267.out⟩, ⟨hb2_ HB.out GE266.out GE267.out⟩⟩
   ·rw [if_neg c12] at H
    exact absurd H (by simp)
 case rest =>
  clear HC4
  try clear c1
  try clear p2
  try clear c7
  try clear c8
  try clear c10
  try clear c10b0
  try clear c10b1
  try clear c11
  try clear c12
  try clear c12b0
  try clear c12b1
  try clear c14
  try clear c14b0
  try clear hcz8_0
  try clear hcz8_1
  try clear hfz8_0
  try clear hfz8_1
  obtain ⟨kq, x9_3, rfl, HA, HJ3, BK266, BK267, HB⟩ := hcut
  cases kq with
  | zero => exact absurd HA.out (by simp [shape_format_finite.j0])
  | succ kj3 =>
   have H := HA.out
   clear HA
   simp only [shape_format_finite.j0] at H
   by_cases c17 : x9_3 = true
   ·subst c17
    have H1 : (some (0, false)) = some (r1, r2) := by rw [if_pos rfl] at H; exact H
    clear H;have H := H1;clear H1
    simp only [Option.some.injEq, Prod.mk.injEq] at H
    obtain ⟨rfl, rfl⟩ := H
    go_wp2
    go_ret2
    exact ⟨er_, hb2_ HB.out GE266.out GE267.out⟩
   ·replace c17 := Bool.eq_false_iff.mpr c17
    subst c17
    have H1 : (if 0 ≤ a0_1 then (if a1_3 < (shl .u64 1 a0_1) then ((shape_format_join.f a0_0 a0_1 a1_0 0 a1_3).bind fun t269 => (some (t269, (a1_2 == t268)))) else ((shape_format_ones.f a0_0 a0_1).bind fun t270 => (if (wrap64 (a1_2 - t268)) > (wrap64 ((wrap64 (t270)) - 2)) then (some (0, false)) else ((shape_format_join.f a0_0 a0_1 a1_0 (IntKind.u64.wrap ((IntKind.u64.wrap (wrap64 (a1_2 - t268))) + 1)) (Go.bits .and .u64 a1_3 (IntKind.u64.wrap ((shl .u64 1 a0_1) - 1)))).bind fun t271 => (some (t271, true)))))) else (none)) = some (r1, r2) := by rw [if_neg (show ¬ (false = true) by decide)] at H; exact H
    clear H;have H := H1;clear H1
    by_cases c18 : 0 ≤ a0_1
    ·rw [if_pos c18] at H
     have c18b0 := eq_true c18
     have c18b1 : decide (0 ≤ a0_1) = true := decide_eq_true c18
     clear c18
     obtain ⟨ji19, hji19⟩ : ∃ j_ : Int, (shl .u64 1 a0_1) = j_ := ⟨_, rfl⟩
     replace H : (if a1_3 < (ji19) then ((shape_format_join.f a0_0 a0_1 a1_0 0 a1_3).bind fun t269 => (some (t269, (a1_2 == t268)))) else ((shape_format_ones.f a0_0 a0_1).bind fun t270 => (if (wrap64 (a1_2 - t268)) > (wrap64 ((wrap64 (t270)) - 2)) then (some (0, false)) else ((shape_format_join.f a0_0 a0_1 a1_0 (IntKind.u64.wrap ((IntKind.u64.wrap (wrap64 (a1_2 - t268))) + 1)) (Go.bits .and .u64 a1_3 (IntKind.u64.wrap ((ji19) - 1)))).bind fun t271 => (some (t271, true)))))) = some (r1, r2) := by first | (rw [hji19] at H; exact H) | (simp only [hji19] at H ⊢; exact H)
     have hji19_ : (IntKind.u64.wrap (1 * 2 ^ min a0_1.toNat 64)) = ji19 := hji19
     have hji19z : a0_1 ≤ 64 → (IntKind.u64.wrap (1 * 2 ^ a0_1.toNat)) = ji19 := shl_small hji19
     have hji19u : (IntKind.u64.wrap (2 ^ min a0_1.toNat 64)) = ji19 := by have h_ := hji19_; rw [Int.one_mul] at h_; exact h_
     have hji19v : a0_1 ≤ 64 → (IntKind.u64.wrap (2 ^ a0_1.toNat)) = ji19 := fun hle_ => by have h_ := hji19z hle_; rw [Int.one_mul] at h_; exact h_
     by_cases c20 : a1_3 < (ji19)
     ·rw [if_pos c20] at H
      have c20b0 : decide (a1_3 < (ji19)) = true := decide_eq_true c20
      clear c20
      replace H := ob_ H
      obtain ⟨t269, A210, H⟩ := H
      replace H : (some (t269, (a1_2 == t268))) = some (r1, r2) := H
      have A21 := A_ A210;clear A210
      simp only [Option.some.injEq, Prod.mk.injEq] at H
      obtain ⟨rfl, rfl⟩ := H
      try go_wp2
      replace BK266 := A_ (blk_drew BK266.out)
      replace BK267 := A_ (blk_drew BK267.out)
      replace HB := A_ (below_drew1 HB.out)
      refine start_ (n := 7) (S := fun w' => w'.cell? ⟨gb267, 0, none⟩ = some (.bool a1_0) ∧ w'.cell? ⟨gb267, 1, none⟩ = some (.int .i64 a1_1) ∧ w'.cell? ⟨gb267, 2, none⟩ = some (.int .i64 a1_2) ∧ w'.cell? ⟨gb267, 3, none⟩ = some (.int .u64 a1_3) ∧ w'.cell? ⟨gb266, 0, none⟩ = some (.int .i64 a0_0) ∧ w'.cell? ⟨gb266, 1, none⟩ = some (.int .i64 a0_1)) (ds := []) #[false, false, false, false, false, false, false] (by kernel_rfl) rfl rfl ⟨bc_ BK267.out 0, bc_ BK267.out 1, bc_ BK267.out 2, bc_ BK267.out 3, bc_ BK266.out 0, bc_ BK266.out 1⟩ (fun hHeld => ?_)
      generalize wc.drew = w22 at BK266 BK267 HB hHeld ⊢
      refine pu_ 0 (some 28) #[true, false, false, false, false, false, false] rfl rfl (by kernel_rfl) ?_
      refine pu_ 2 (some 30) #[true, false, true, false, false, false, false] rfl rfl (by kernel_rfl) ?_
      refine tk6_ 1 (some 29) #[true, true, true, false, false, false, false] rfl rfl (by kernel_rfl) hHeld ?_
      refine tk6_ 3 (some 31) #[true, true, true, true, false, false, false] rfl rfl (by kernel_rfl) hHeld ?_
      refine pu_ 4 (some 32) #[true, true, true, true, true, false, false] rfl rfl (by kernel_rfl) ?_
      refine pu_ 5 (some 33) #[true, true, true, true, true, true, false] rfl rfl (by kernel_rfl) ?_
      refine pu_ 6 (some 27) #[true, true, true, true, true, true, true] rfl rfl (by kernel_rfl) ?_
      refine done_ (by kernel_rfl) ?_
      try go_wp2
      replace BK266 := A_ (blk_drew BK266.out)
      replace BK267 := A_ (blk_drew BK267.out)
      replace HB := A_ (below_drew1 HB.out)
      refine start_ (n := 12) (S := fun w' => w'.cell? ⟨gb266, 0, none⟩ = some (.int .i64 a0_0) ∧ w'.cell? ⟨gb266, 1, none⟩ = some (.int .i64 a0_1) ∧ w'.cell? ⟨gb267, 0, none⟩ = some (.bool a1_0) ∧ w'.cell? ⟨gb267, 1, none⟩ = some (.int .i64 a1_1) ∧ w'.cell? ⟨gb267, 2, none⟩ = some (.int .i64 a1_2) ∧ w'.cell? ⟨gb267, 3, none⟩ = some (.int .u64 a1_3)) (ds := []) #[false, false, false, false, false, false, false, false, false, false, false, false] (by kernel_rfl) rfl rfl ⟨bc_ BK266.out 0, bc_ BK266.out 1, bc_ BK267.out 0, bc_ BK267.out 1, bc_ BK267.out 2, bc_ BK267.out 3⟩ (fun hHeld => ?_); refine with_tabW shape_format_finite.tab5 shape_format_finite.bits5 (fun HT_ HW_ => ?_)
      generalize w22.drew = w23 at BK266 BK267 HB hHeld ⊢
      refine pu_ 1 (some 35) #[false, true, false, false, false, false, false, false, false, false, false, false] rfl rfl (any_of HT_.out (by kernel_rfl)) ?_
      refine pu_ 3 (some 37) #[false, true, false, true, false, false, false, false, false, false, false, false] rfl rfl (any_of HT_.out (by kernel_rfl)) ?_
      refine pu_ 6 (some 40) #[false, true, false, true, false, false, true, false, false, false, false, false] rfl rfl (any_of HT_.out (by kernel_rfl)) ?_
      refine pu_ 8 (some 42) #[false, true, false, true, false, false, true, false, true, false, false, false] rfl rfl (any_of HT_.out (by kernel_rfl)) ?_
      refine tk6_ 0 (some 34) #[true, true, false, true, false, false, true, false, true, false, false, false] rfl rfl (take_ofW HT_.out HW_.out (by kernel_rfl)) hHeld ?_
      refine tk6_ 2 (some 36) #[true, true, true, true, false, false, true, false, true, false, false, false] rfl rfl (take_ofW HT_.out HW_.out (by kernel_rfl)) hHeld ?_
      refine tk6_ 4 (some 38) #[true, true, true, true, true, false, true, false, true, false, false, false] rfl rfl (take_ofW HT_.out HW_.out (by kernel_rfl)) hHeld ?_
      refine tk6_ 7 (some 41) #[true, true, true, true, true, false, true, true, true, false, false, false] rfl rfl (take_ofW HT_.out HW_.out (by kernel_rfl)) hHeld ?_
      refine pu_ 9 (some 43) #[true, true, true, true, true, false, true, true, true, true, false, false] rfl rfl (any_of HT_.out (by kernel_rfl)) ?_
      refine one_ (i := 5) (N := some 39) #[true, true, true, true, true, true, true, true, true, true, false, false] rfl rfl (one_of HT_.out (by kernel_rfl)) (by decide) (fun K hK => ?_)
      refine goes_ Tryd.func64 (by kernel_rfl) rfl #[.agg #[.int .i64 a0_0, .int .i64 a0_1], .bool a1_0, .int .u64 0, .int .u64 a1_3] (by rfl) rfl rfl mp_ ?_
      with_reducible refine (shape_format_join.calls a0_0 a0_1 a1_0 0 a1_3 t269 _ A21.out).mono ?_
      rintro e w24 ⟨rfl, hb⟩
      refine ⟨_, rfl, ?_⟩
      replace BK266 := A_ (bb_ BK266.out hb)
      replace BK267 := A_ (bb_ BK267.out hb)
      replace HB := A_ (below_step (hb2_ HB.out GE266.out GE267.out) hb);(try clear hb);(try clear hb2);(try clear hk);(try clear hi)
      refine hK.out _ _ ⟨bc_ BK266.out 0, bc_ BK266.out 1, bc_ BK267.out 0, bc_ BK267.out 1, bc_ BK267.out 2, bc_ BK267.out 3⟩ (fun hHeld => ?_)
      clear hK K
      refine norm_ (a' := ?_) ?_ ?_
      rotate_left
      ·show Act.put _ (some 39) _ = _
       simp only [Act.put, lI_, l0_, lS_, i64_w, i32_w]
       rfl
      refine pu_ 10 (some 4) #[true, true, true, true, true, true, true, true, true, true, true, false] rfl rfl (any_of HT_.out (by kernel_rfl)) ?_
      refine pu_ 11 (some 5) #[true, true, true, true, true, true, true, true, true, true, true, true] rfl rfl (any_of HT_.out (by kernel_rfl)) ?_
      refine done_ (done_of HT_.out (by kernel_rfl)) ?_
      try go_wp2
      go_ret2
      exact ⟨by first | rfl | (simp [errW_none, errW_some] <;> rfl) | (simp only [← hji19]; first | rfl | (simp [errW_none, errW_some] <;> rfl)) | (simp [*, errW_none, errW_some] <;> rfl), hb2_ HB.out GE266.out GE267.out⟩
     ·rw [if_neg c20] at H
      have c20b0 : decide (a1_3 < (ji19)) = false := decide_eq_false c20
      clear c20
      replace H := ob_ H
      obtain ⟨t270, A250, H⟩ := H
      replace H : (if (wrap64 (a1_2 - t268)) > (wrap64 ((wrap64 (t270)) - 2)) then (some (0, false)) else ((shape_format_join.f a0_0 a0_1 a1_0 (IntKind.u64.wrap ((IntKind.u64.wrap (wrap64 (a1_2 - t268))) + 1)) (Go.bits .and .u64 a1_3 (IntKind.u64.wrap ((ji19) - 1)))).bind fun t271 => (some (t271, true)))) = some (r1, r2) := H
      have A25 := A_ A250;clear A250
      by_cases c26 : (wrap64 (a1_2 - t268)) > (wrap64 ((wrap64 (t270)) - 2))
      ·rw [if_pos c26] at H
       have c26b0 : decide ((wrap64 ((wrap64 (t270)) - 2)) < (wrap64 (a1_2 - t268))) = true := decide_eq_true c26
       clear c26
       simp only [Option.some.injEq, Prod.mk.injEq] at H
       obtain ⟨rfl, rfl⟩ := H
       try go_wp2
       replace BK266 := A_ (blk_drew BK266.out)
       replace BK267 := A_ (blk_drew BK267.out)
       replace HB := A_ (below_drew1 HB.out)
       refine start_ (n := 7) (S := fun w' => w'.cell? ⟨gb267, 0, none⟩ = some (.bool a1_0) ∧ w'.cell? ⟨gb267, 1, none⟩ = some (.int .i64 a1_1) ∧ w'.cell? ⟨gb267, 2, none⟩ = some (.int .i64 a1_2) ∧ w'.cell? ⟨gb267, 3, none⟩ = some (.int .u64 a1_3) ∧ w'.cell? ⟨gb266, 0, none⟩ = some (.int .i64 a0_0) ∧ w'.cell? ⟨gb266, 1, none⟩ = some (.int .i64 a0_1)) (ds := []) #[false, false, false, false, false, false, false] (by kernel_rfl) rfl rfl ⟨bc_ BK267.out 0, bc_ BK267.out 1, bc_ BK267.out 2, bc_ BK267.out 3, bc_ BK266.out 0, bc_ BK266.out 1⟩ (fun hHeld => ?_)
       generalize wc.drew = w27 at BK266 BK267 HB hHeld ⊢
       refine pu_ 0 (some 28) #[true, false, false, false, false, false, false] rfl rfl (by kernel_rfl) ?_
       refine pu_ 2 (some 30) #[true, false, true, false, false, false, false] rfl rfl (by kernel_rfl) ?_
       refine tk6_ 1 (some 29) #[true, true, true, false, false, false, false] rfl rfl (by kernel_rfl) hHeld ?_
       refine tk6_ 3 (some 31) #[true, true, true, true, false, false, false] rfl rfl (by kernel_rfl) hHeld ?_
       refine pu_ 4 (some 32) #[true, true, true, true, true, false, false] rfl rfl (by kernel_rfl) ?_
       refine pu_ 5 (some 33) #[true, true, true, true, true, true, false] rfl rfl (by kernel_rfl) ?_
       refine pu_ 6 (some 27) #[true, true, true, true, true, true, true] rfl rfl (by kernel_rfl) ?_
       refine done_ (by kernel_rfl) ?_
       try go_wp2
       replace BK266 := A_ (blk_drew BK266.out)
       replace BK267 := A_ (blk_drew BK267.out)
       replace HB := A_ (below_drew1 HB.out)
       refine start_ (n := 10) (S := fun w' => w'.cell? ⟨gb267, 0, none⟩ = some (.bool a1_0) ∧ w'.cell? ⟨gb267, 1, none⟩ = some (.int .i64 a1_1) ∧ w'.cell? ⟨gb267, 2, none⟩ = some (.int .i64 a1_2) ∧ w'.cell? ⟨gb267, 3, none⟩ = some (.int .u64 a1_3) ∧ w'.cell? ⟨gb266, 0, none⟩ = some (.int .i64 a0_0) ∧ w'.cell? ⟨gb266, 1, none⟩ = some (.int .i64 a0_1)) (ds := []) #[false, false, false, false, false, false, false, false, false, false] (by kernel_rfl) rfl rfl ⟨bc_ BK267.out 0, bc_ BK267.out 1, bc_ BK267.out 2, bc_ BK267.out 3, bc_ BK266.out 0, bc_ BK266.out 1⟩ (fun hHeld => ?_); refine with_tabW shape_format_finite.tab6 shape_format_finite.bits6 (fun HT_ HW_ => ?_)
       generalize w27.drew = w28 at BK266 BK267 HB hHeld ⊢
       refine pu_ 0 (some 45) #[true, false, false, false, false, false, false, false, false, false] rfl rfl (any_of HT_.out (by kernel_rfl)) ?_
       refine pu_ 2 (some 47) #[true, false, true, false, false, false, false, false, false, false] rfl rfl (any_of HT_.out (by kernel_rfl)) ?_
       refine tk6_ 1 (some 46) #[true, true, true, false, false, false, false, false, false, false] rfl rfl (take_ofW HT_.out HW_.out (by kernel_rfl)) hHeld ?_
       refine pu_ 3 (some 48) #[true, true, true, true, false, false, false, false, false, false] rfl rfl (any_of HT_.out (by kernel_rfl)) ?_
       refine tk6_ 4 (some 49) #[true, true, true, true, true, false, false, false, false, false] rfl rfl (take_ofW HT_.out HW_.out (by kernel_rfl)) hHeld ?_
       refine one_ (i := 5) (N := some 50) #[true, true, true, true, true, true, false, false, false, false] rfl rfl (one_of HT_.out (by kernel_rfl)) (by decide) (fun K hK => ?_)
       refine goes_ Tryd.func65 (by kernel_rfl) rfl #[.agg #[.int .i64 a0_0, .int .i64 a0_1]] (by rfl) rfl rfl mp_ ?_
       with_reducible refine (shape_format_ones.calls a0_0 a0_1 t270 _ A25.out).mono ?_
       rintro e w29 ⟨rfl, hb⟩
       refine ⟨_, rfl, ?_⟩
       replace BK266 := A_ (bb_ BK266.out hb)
       replace BK267 := A_ (bb_ BK267.out hb)
       replace HB := A_ (below_step (hb2_ HB.out GE266.out GE267.out) hb);(try clear hb);(try clear hb2);(try clear hk);(try clear hi)
       refine hK.out _ _ ⟨bc_ BK267.out 0, bc_ BK267.out 1, bc_ BK267.out 2, bc_ BK267.out 3, bc_ BK266.out 0, bc_ BK266.out 1⟩ (fun hHeld => ?_)
       clear hK K
       refine norm_ (a' := ?_) ?_ ?_
       rotate_left
       ·show Act.put _ (some 50) _ = _
        simp only [Act.put, lI_, l0_, lS_, i64_w, i32_w]
        rfl
       refine pu_ 6 (some 51) #[true, true, true, true, true, true, true, false, false, false] rfl rfl (any_of HT_.out (by kernel_rfl)) ?_
       refine pu_ 7 (some 52) #[true, true, true, true, true, true, true, true, false, false] rfl rfl (any_of HT_.out (by kernel_rfl)) ?_
       refine pu_ 8 (some 53) #[true, true, true, true, true, true, true, true, true, false] rfl rfl (any_of HT_.out (by kernel_rfl)) ?_
       refine pu_ 9 (some 44) #[true, true, true, true, true, true, true, true, true, true] rfl rfl (any_of HT_.out (by kernel_rfl)) ?_
       refine done_ (done_of HT_.out (by kernel_rfl)) ?_
       try go_wp2
       go_ret2
       exact ⟨by first | rfl | (simp [errW_none, errW_some] <;> rfl) | (simp only [← hji19]; first | rfl | (simp [errW_none, errW_some] <;> rfl)) | (simp [*, errW_none, errW_some] <;> rfl), hb2_ HB.out GE266.out GE267.out⟩
      ·rw [if_neg c26] at H
       have c26b0 : decide ((wrap64 ((wrap64 (t270)) - 2)) < (wrap64 (a1_2 - t268))) = false := decide_eq_false c26
       clear c26
       have c30b0 := eq_true (of_decide_eq_true (by first | (with_reducible assumption) | assumption) : 0 ≤ a0_1)
       replace H := ob_ H
       obtain ⟨t271, A310, H⟩ := H
       replace H : (some (t271, true)) = some (r1, r2) := H
       have A31 := A_ A310;clear A310
       simp only [Option.some.injEq, Prod.mk.injEq] at H
       obtain ⟨rfl, rfl⟩ := H
       try go_wp2
       replace BK266 := A_ (blk_drew BK266.out)
       replace BK267 := A_ (blk_drew BK267.out)
       replace HB := A_ (below_drew1 HB.out)
       refine start_ (n := 7) (S := fun w' => w'.cell? ⟨gb267, 0, none⟩ = some (.bool a1_0) ∧ w'.cell? ⟨gb267, 1, none⟩ = some (.int .i64 a1_1) ∧ w'.cell? ⟨gb267, 2, none⟩ = some (.int .i64 a1_2) ∧ w'.cell? ⟨gb267, 3, none⟩ = some (.int .u64 a1_3) ∧ w'.cell? ⟨gb266, 0, none⟩ = some (.int .i64 a0_0) ∧ w'.cell? ⟨gb266, 1, none⟩ = some (.int .i64 a0_1)) (ds := []) #[false, false, false, false, false, false, false] (by kernel_rfl) rfl rfl ⟨bc_ BK267.out 0, bc_ BK267.out 1, bc_ BK267.out 2, bc_ BK267.out 3, bc_ BK266.out 0, bc_ BK266.out 1⟩ (fun hHeld => ?_)
       generalize wc.drew = w32 at BK266 BK267 HB hHeld ⊢
       refine pu_ 0 (some 28) #[true, false, false, false, false, false, false] rfl rfl (by kernel_rfl) ?_
       refine pu_ 2 (some 30) #[true, false, true, false, false, false, false] rfl rfl (by kernel_rfl) ?_
       refine tk6_ 1 (some 29) #[true, true, true, false, false, false, false] rfl rfl (by kernel_rfl) hHeld ?_
       refine tk6_ 3 (some 31) #[true, true, true, true, false, false, false] rfl rfl (by kernel_rfl) hHeld ?_
       refine pu_ 4 (some 32) #[true, true, true, true, true, false, false] rfl rfl (by kernel_rfl) ?_
       refine pu_ 5 (some 33) #[true, true, true, true, true, true, false] rfl rfl (by kernel_rfl) ?_
       refine pu_ 6 (some 27) #[true, true, true, true, true, true, true] rfl rfl (by kernel_rfl) ?_
       refine done_ (by kernel_rfl) ?_
       try go_wp2
       replace BK266 := A_ (blk_drew BK266.out)
       replace BK267 := A_ (blk_drew BK267.out)
       replace HB := A_ (below_drew1 HB.out)
       refine start_ (n := 10) (S := fun w' => w'.cell? ⟨gb267, 0, none⟩ = some (.bool a1_0) ∧ w'.cell? ⟨gb267, 1, none⟩ = some (.int .i64 a1_1) ∧ w'.cell? ⟨gb267, 2, none⟩ = some (.int .i64 a1_2) ∧ w'.cell? ⟨gb267, 3, none⟩ = some (.int .u64 a1_3) ∧ w'.cell? ⟨gb266, 0, none⟩ = some (.int .i64 a0_0) ∧ w'.cell? ⟨gb266, 1, none⟩ = some (.int .i64 a0_1)) (ds := []) #[false, false, false, false, false, false, false, false, false, false] (by kernel_rfl) rfl rfl ⟨bc_ BK267.out 0, bc_ BK267.out 1, bc_ BK267.out 2, bc_ BK267.out 3, bc_ BK266.out 0, bc_ BK266.out 1⟩ (fun hHeld => ?_); refine with_tabW shape_format_finite.tab6 shape_format_finite.bits6 (fun HT_ HW_ => ?_)
       generalize w32.drew = w33 at BK266 BK267 HB hHeld ⊢
       refine pu_ 0 (some 45) #[true, false, false, false, false, false, false, false, false, false] rfl rfl (any_of HT_.out (by kernel_rfl)) ?_
       refine pu_ 2 (some 47) #[true, false, true, false, false, false, false, false, false, false] rfl rfl (any_of HT_.out (by kernel_rfl)) ?_
       refine tk6_ 1 (some 46) #[true, true, true, false, false, false, false, false, false, false] rfl rfl (take_ofW HT_.out HW_.out (by kernel_rfl)) hHeld ?_
       refine pu_ 3 (some 48) #[true, true, true, true, false, false, false, false, false, false] rfl rfl (any_of HT_.out (by kernel_rfl)) ?_
       refine tk6_ 4 (some 49) #[true, true, true, true, true, false, false, false, false, false] rfl rfl (take_ofW HT_.out HW_.out (by kernel_rfl)) hHeld ?_
       refine one_ (i := 5) (N := some 50) #[true, true, true, true, true, true, false, false, false, false] rfl rfl (one_of HT_.out (by kernel_rfl)) (by decide) (fun K hK => ?_)
       refine goes_ Tryd.func65 (by kernel_rfl) rfl #[.agg #[.int .i64 a0_0, .int .i64 a0_1]] (by rfl) rfl rfl mp_ ?_
       with_reducible refine (shape_format_ones.calls a0_0 a0_1 t270 _ A25.out).mono ?_
       rintro e w34 ⟨rfl, hb⟩
       refine ⟨_, rfl, ?_⟩
       replace BK266 := A_ (bb_ BK266.out hb)
       replace BK267 := A_ (bb_ BK267.out hb)
       replace HB := A_ (below_step (hb2_ HB.out GE266.out GE267.out) hb);(try clear hb);(try clear hb2);(try clear hk);(try clear hi)
       refine hK.out _ _ ⟨bc_ BK267.out 0, bc_ BK267.out 1, bc_ BK267.out 2, bc_ BK267.out 3, bc_ BK266.out 0, bc_ BK266.out 1⟩ (fun hHeld => ?_)
       clear hK K
       refine norm_ (a' := ?_) ?_ ?_
       rotate_left
       ·show Act.put _ (some 50) _ = _
        simp only [Act.put, lI_, l0_, lS_, i64_w, i32_w]
        rfl
       refine pu_ 6 (some 51) #[true, true, true, true, true, true, true, false, false, false] rfl rfl (any_of HT_.out (by kernel_rfl)) ?_
       refine pu_ 7 (some 52) #[true, true, true, true, true, true, true, true, false, false] rfl rfl (any_of HT_.out (by kernel_rfl)) ?_
       refine pu_ 8 (some 53) #[true, true, true, true, true, true, true, true, true, false] rfl rfl (any_of HT_.out (by kernel_rfl)) ?_
       refine pu_ 9 (some 44) #[true, true, true, true, true, true, true, true, true, true] rfl rfl (any_of HT_.out (by kernel_rfl)) ?_
       refine done_ (done_of HT_.out (by kernel_rfl)) ?_
       try go_wp2
       replace BK266 := A_ (blk_drew BK266.out)
       replace BK267 := A_ (blk_drew BK267.out)
       replace HB := A_ (below_drew1 HB.out)
       refine start_ (n := 19) (S := fun w' => w'.cell? ⟨gb266, 0, none⟩ = some (.int .i64 a0_0) ∧ w'.cell? ⟨gb266, 1, none⟩ = some (.int .i64 a0_1) ∧ w'.cell? ⟨gb267, 0, none⟩ = some (.bool a1_0) ∧ w'.cell? ⟨gb267, 1, none⟩ = some (.int .i64 a1_1) ∧ w'.cell? ⟨gb267, 2, none⟩ = some (.int .i64 a1_2) ∧ w'.cell? ⟨gb267, 3, none⟩ = some (.int .u64 a1_3)) (ds := []) #[false, false, false, false, false, false, false, false, false, false, false, false, false, false, false, false, false, false, false] (by kernel_rfl) rfl rfl ⟨bc_ BK266.out 0, bc_ BK266.out 1, bc_ BK267.out 0, bc_ BK267.out 1, bc_ BK267.out 2, bc_ BK267.out 3⟩ (fun hHeld => ?_); refine with_tabW shape_format_finite.tab8 shape_format_finite.bits8 (fun HT_ HW_ => ?_)
       generalize w34.drew = w35 at BK266 BK267 HB hHeld ⊢
       refine pu_ 1 (some 55) #[false, true, false, false, false, false, false, false, false, false, false, false, false, false, false, false, false, false, false] rfl rfl (any_of HT_.out (by kernel_rfl)) ?_
       refine pu_ 3 (some 57) #[false, true, false, true, false, false, false, false, false, false, false, false, false, false, false, false, false, false, false] rfl rfl (any_of HT_.out (by kernel_rfl)) ?_
       refine pu_ 5 (some 59) #[false, true, false, true, false, true, false, false, false, false, false, false, false, false, false, false, false, false, false] rfl rfl (any_of HT_.out (by kernel_rfl)) ?_
       refine pu_ 9 (some 63) #[false, true, false, true, false, true, false, false, false, true, false, false, false, false, false, false, false, false, false] rfl rfl (any_of HT_.out (by kernel_rfl)) ?_
       refine pu_ 11 (some 65) #[false, true, false, true, false, true, false, false, false, true, false, true, false, false, false, false, false, false, false] rfl rfl (any_of HT_.out (by kernel_rfl)) ?_
       refine tk6_ 0 (some 54) #[true, true, false, true, false, true, false, false, false, true, false, true, false, false, false, false, false, false, false] rfl rfl (take_ofW HT_.out HW_.out (by kernel_rfl)) hHeld ?_
       refine tk6_ 2 (some 56) #[true, true, true, true, false, true, false, false, false, true, false, true, false, false, false, false, false, false, false] rfl rfl (take_ofW HT_.out HW_.out (by kernel_rfl)) hHeld ?_
       refine tk6_ 4 (some 58) #[true, true, true, true, true, true, false, false, false, true, false, true, false, false, false, false, false, false, false] rfl rfl (take_ofW HT_.out HW_.out (by kernel_rfl)) hHeld ?_
       refine pu_ 6 (some 60) #[true, true, true, true, true, true, true, false, false, true, false, true, false, false, false, false, false, false, false] rfl rfl (any_of HT_.out (by kernel_rfl)) ?_
       refine pu_ 7 (some 61) #[true, true, true, true, true, true, true, true, false, true, false, true, false, false, false, false, false, false, false] rfl rfl (any_of HT_.out (by kernel_rfl)) ?_
       refine pu_ 8 (some 62) #[true, true, true, true, true, true, true, true, true, true, false, true, false, false, false, false, false, false, false] rfl rfl (any_of HT_.out (by kernel_rfl)) ?_
       refine tk6_ 10 (some 64) #[true, true, true, true, true, true, true, true, true, true, true, true, false, false, false, false, false, false, false] rfl rfl (take_ofW HT_.out HW_.out (by kernel_rfl)) hHeld ?_
       refine tk6_ 12 (some 66) #[true, true, true, true, true, true, true, true, true, true, true, true, true, false, false, false, false, false, false] rfl rfl (take_ofW HT_.out HW_.out (by kernel_rfl)) hHeld ?_
       refine pu_ 13 (some 67) #[true, true, true, true, true, true, true, true, true, true, true, true, true, true, false, false, false, false, false] rfl rfl (any_of HT_.out (by kernel_rfl)) ?_
       refine pu_ 14 (some 68) #[true, true, true, true, true, true, true, true, true, true, true, true, true, true, true, false, false, false, false] rfl rfl (any_of HT_.out (by kernel_rfl)) ?_
       refine pu_ 15 (some 69) #[true, true, true, true, true, true, true, true, true, true, true, true, true, true, true, true, false, false, false] rfl rfl (any_of HT_.out (by kernel_rfl)) ?_
       refine one_ (i := 16) (N := some 70) #[true, true, true, true, true, true, true, true, true, true, true, true, true, true, true, true, true, false, false] rfl rfl (one_of HT_.out (by kernel_rfl)) (by decide) (fun K hK => ?_)
       refine goes_ Tryd.func64 (by kernel_rfl) rfl #[.agg #[.int .i64 a0_0, .int .i64 a0_1], .bool a1_0, .int .u64 (IntKind.u64.wrap ((IntKind.u64.wrap (wrap64 (a1_2 - t268))) + 1)), .int .u64 (Go.bits .and .u64 a1_3 (IntKind.u64.wrap ((ji19) - 1)))] (by rfl) rfl rfl (by (try simp only [List.map_toArray, List.map_cons, List.map_nil]); first | done | (simp only [hji19]; rfl) | rfl | (simp only [List.length_drop, List.length_take]; rfl)) ?_
       with_reducible refine (shape_format_join.calls a0_0 a0_1 a1_0 (IntKind.u64.wrap ((IntKind.u64.wrap (wrap64 (a1_2 - t268))) + 1)) (Go.bits .and .u64 a1_3 (IntKind.u64.wrap ((ji19) - 1))) t271 _ A31.out).mono ?_
       rintro e w36 ⟨rfl, hb⟩
       refine ⟨_, rfl, ?_⟩
       replace BK266 := A_ (bb_ BK266.out hb)
       replace BK267 := A_ (bb_ BK267.out hb)
       replace HB := A_ (below_step (hb2_ HB.out GE266.out GE267.out) hb);(try clear hb);(try clear hb2);(try clear hk);(try clear hi)
       refine hK.out _ _ ⟨bc_ BK266.out 0, bc_ BK266.out 1, bc_ BK267.out 0, bc_ BK267.out 1, bc_ BK267.out 2, bc_ BK267.out 3⟩ (fun hHeld => ?_)
       clear hK K
       refine norm_ (a' := ?_) ?_ ?_
       rotate_left
       ·show Act.put _ (some 70) _ = _
        simp only [Act.put, lI_, l0_, lS_, i64_w, i32_w]
        rfl
       refine pu_ 17 (some 4) #[true, true, true, true, true, true, true, true, true, true, true, true, true, true, true, true, true, true, false] rfl rfl (any_of HT_.out (by kernel_rfl)) ?_
       refine pu_ 18 (some 5) #[true, true, true, true, true, true, true, true, true, true, true, true, true, true, true, true, true, true, true] rfl rfl (any_of HT_.out (by kernel_rfl)) ?_
       refine done_ (done_of HT_.out (by kernel_rfl)) ?_
       try go_wp2
       go_ret2
       exact ⟨by first | rfl | (simp [errW_none, errW_some] <;> rfl) | (simp only [← hji19]; first | rfl | (simp [errW_none, errW_some] <;> rfl)) | (simp [*, errW_none, errW_some] <;> rfl), hb2_ HB.out GE266.out GE267.out⟩
    ·rw [if_neg c18] at H
     exact absurd H (by simp)
def shape_Close.j0 : Nat → Int → Bool → Bool → Int → Int → Int → Option (Int × Int)
 | 0, _, _, _, _, _, _ => none
 | k + 1, x0, x36, x273000, x273001, x273002, x273003 => if x36 = true then (some (0, 2)) else (if x273001 = 0 then ((shape_Zero.f x0 x273000).bind fun t279 => (some (t279, 0))) else (if x273001 = 2 then ((shape_Inf.f x0 x273000).bind fun t280 => (some (t280, 0))) else (if x273001 = 3 then ((shape_Nan.f x0).bind fun t281 => (some (t281, 0))) else (some (0, 2)))))
def shape_Close.f (k : Nat) (a0 : Int) (a1_0 : Bool) (a1_1 : Int) (a1_2 : Int) (a1_3 : Int) : Option (Int × Int) := (shape_of.f a0).bind fun bt273 => (if bt273.2.2 = true then (if a1_1 = 1 then ((shape_format_finite.f k bt273.1 bt273.2.1 a1_0 a1_1 a1_2 a1_3).bind fun bt277 => (if bt277.2 = true then (some (bt277.1, 0)) else (some (0, 2)))) else (if a1_3 = 0 then (shape_Close.j0 k a0 (a1_2 != 0) a1_0 a1_1 a1_2 a1_3) else (shape_Close.j0 k a0 true a1_0 a1_1 a1_2 a1_3))) else (some (0, 2)))
theorem shape_Close.mono_l : ∀ k, (∀ y0 y1 y2 y3 y4 y5, LeO (shape_Close.j0 k y0 y1 y2 y3 y4 y5) (shape_Close.j0 (k + 1) y0 y1 y2 y3 y4 y5))
 | 0 => fun _ _ _ _ _ _ r h => by simp [shape_Close.j0] at h
 | k + 1 => by
  have ih0 := shape_Close.mono_l k
  ·intro y0 y1 y2 y3 y4 y5
   unfold shape_Close.j0
   repeat' first
   | (with_reducible exact ih0 _ _ _ _ _ _)
   | (with_reducible exact shape_format_finite.mono _ _ _ _ _ _ _)
   | (with_reducible exact LeO.refl _)
   | (with_reducible exact LeO.none _)
   | (with_reducible refine LeO.ite ?_ ?_)
   | (with_reducible refine LeO.bind ?_ (fun _ => ?_))
   | exact ih0 _ _ _ _ _ _
   | exact shape_format_finite.mono _ _ _ _ _ _ _
   | exact LeO.none _
   | refine LeO.ite ?_ ?_
   | refine LeO.bind ?_ (fun _ => ?_)
theorem shape_Close.mono : ∀ a0 a1 a2 a3 a4 k, LeO (shape_Close.f k a0 a1 a2 a3 a4) (shape_Close.f (k + 1) a0 a1 a2 a3 a4) := by
 intro a0 a1 a2 a3 a4 k
 have ih0 := shape_Close.mono_l k
 unfold shape_Close.f
 repeat' first
   | (with_reducible exact ih0 _ _ _ _ _ _)
   | (with_reducible exact shape_format_finite.mono _ _ _ _ _ _ _)
   | (with_reducible exact LeO.refl _)
   | (with_reducible exact LeO.none _)
   | (with_reducible refine LeO.ite ?_ ?_)
   | (with_reducible refine LeO.bind ?_ (fun _ => ?_))
   | exact ih0 _ _ _ _ _ _
   | exact shape_format_finite.mono _ _ _ _ _ _ _
   | exact LeO.none _
   | refine LeO.ite ?_ ?_
   | refine LeO.bind ?_ (fun _ => ?_)
theorem shape_Close.calls (k : Nat) (a0 : Int) (a1_0 : Bool) (a1_1 : Int) (a1_2 : Int) (a1_3 : Int) (r1 : Int) (r2 : Int) (w : World) (h : shape_Close.f k a0 a1_0 a1_1 a1_2 a1_3 = some (r1, r2)) :
  Calls Tryd.prog 115 #[.int .i64 a0, .agg #[.bool a1_0, .int .i64 a1_1, .int .i64 a1_2, .int .u64 a1_3]] w fun e w' => e = .returned (.tuple #[.int .u64 r1, .int .i64 r2]) ∧ Below w.heap.size w w' := by
 have hu75 := Tryd.underlying75
 have hu78 := Tryd.underlying78
 have HB := A_ (Below.refl w.heap.size w)
 have H : ((shape_of.f a0).bind fun bt273 => (if bt273.2.2 = true then (if a1_1 = 1 then ((shape_format_finite.f k bt273.1 bt273.2.1 a1_0 a1_1 a1_2 a1_3).bind fun bt277 => (if bt277.2 = true then (some (bt277.1, 0)) else (some (0, 2)))) else (if a1_3 = 0 then (shape_Close.j0 k a0 (a1_2 != 0) a1_0 a1_1 a1_2 a1_3) else (shape_Close.j0 k a0 true a1_0 a1_1 a1_2 a1_3))) else (some (0, 2)))) = some (r1, r2) := h
 clear h
 replace H := ob_ H
 obtain ⟨⟨t273, t274, t275⟩, A30, H⟩ := H
 replace H : (if t275 = true then (if a1_1 = 1 then ((shape_format_finite.f k t273 t274 a1_0 a1_1 a1_2 a1_3).bind fun bt277 => (if bt277.2 = true then (some (bt277.1, 0)) else (some (0, 2)))) else (if a1_3 = 0 then (shape_Close.j0 k a0 (a1_2 != 0) a1_0 a1_1 a1_2 a1_3) else (shape_Close.j0 k a0 true a1_0 a1_1 a1_2 a1_3))) else (some (0, 2))) = some (r1, r2) := H
 have A3 := A_ A30;clear A30
 by_cases c4 : t275 = true
 ·subst c4
  have H1 : (if a1_1 = 1 then ((shape_format_finite.f k t273 t274 a1_0 a1_1 a1_2 a1_3).bind fun bt277 => (if bt277.2 = true then (some (bt277.1, 0)) else (some (0, 2)))) else (if a1_3 = 0 then (shape_Close.j0 k a0 (a1_2 != 0) a1_0 a1_1 a1_2 a1_3) else (shape_Close.j0 k a0 true a1_0 a1_1 a1_2 a1_3))) = some (r1, r2) := by rw [if_pos rfl] at H; exact H
  clear H;have H := H1;clear H1
  by_cases c5 : a1_1 = 1
  ·rw [if_pos c5] at H
   have c5b0 : (a1_1 == 1) = true := beq_iff_eq.mpr c5
   have c5b1 : (a1_1 != 1) = false := bne_eq_false_iff_eq.mpr c5
   clear c5
   replace H := ob_ H
   obtain ⟨⟨t277, t278⟩, A60, H⟩ := H
   replace H : (if t278 = true then (some (t277, 0)) else (some (0, 2))) = some (r1, r2) := H
   have A6 := A_ A60;clear A60
   by_cases c7 : t278 = true
   ·subst c7
    have H1 : (some (t277, 0)) = some (r1, r2) := by rw [if_pos rfl] at H; exact H
    clear H;have H := H1;clear H1
    simp only [Option.some.injEq, Prod.mk.injEq] at H
    obtain ⟨rfl, rfl⟩ := H
    go_enter Tryd.func115, Tryd.ntmps115
    go_wp2_with (first | ((with_reducible refine gate_dst (N := 3) rfl ?_); refine be_ 3 #[.bool a1_0, .int .i64 a1_1, .int .i64 a1_2, .int .u64 a1_3] 75 ?_; intro gb272 hg w8 hbox hb; have BK272 := A_ (hbox); have GW272 := A_ (sz_ hg (hb_ HB.out)); have GE272 := A_ (sz_ hg (hb_ HB.out)); replace HB := A_ (below_step (hb_ HB.out) hb); clear hb hbox hg) | ((with_reducible refine gate_callee (f := 63) rfl ?_); refine goesL_ (some 12) rfl rfl Tryd.func63 (by kernel_rfl) rfl #[.int .i64 a0] rfl mp_ ?_; (with_reducible refine (shape_of.calls a0 t273 t274 true _ A3.out).mono ?_); rintro e w9 ⟨rfl, hb⟩; refine ⟨_, rfl, ?_⟩; replace BK272 := A_ (bb_ BK272.out hb); replace HB := A_ (below_step (hb1_ HB.out GE272.out) hb); (try clear hb); (try clear hb2); (try clear hk); (try clear hi)) | ((with_reducible refine gate_dst (N := 6) rfl ?_); refine be_ 6 #[.int .i64 0, .int .i64 0] 78 ?_; intro gb276 hg w10 hbox hb; have BK276 := A_ (hbox); have GW276 := A_ (sz_ hg (hb1_ HB.out GE272.out)); have GE276 := A_ (sz_ hg (hb1_ HB.out GE272.out)); have NB272_276 := A_ (nl_ hg BK272.out); have NB276_272 := A_ (ng_ hg BK272.out); replace BK272 := A_ (bb_ BK272.out hb); replace HB := A_ (below_step (hb1_ HB.out GE272.out) hb); clear hb hbox hg; have hnb11 := NB276_272.out; have hnc11 := NB272_276.out; have hcz12_0 := bv_ BK276.out 0; have hcz12_1 := bv_ BK276.out 1; have hfz12_0 := blk_frozen BK276.out 0; have hfz12_1 := blk_frozen BK276.out 1; have hcz13_0 := bv_ BK272.out 0; have hcz13_1 := bv_ BK272.out 1; have hcz13_2 := bv_ BK272.out 2; have hcz13_3 := bv_ BK272.out 3; have hfz13_0 := blk_frozen BK272.out 0; have hfz13_1 := blk_frozen BK272.out 1; have hfz13_2 := blk_frozen BK272.out 2; have hfz13_3 := blk_frozen BK272.out 3) | ((with_reducible refine gate_callee (f := 118) rfl ?_); refine goesL_ (some 23) rfl rfl Tryd.func118 (by kernel_rfl) rfl #[.agg #[.int .i64 t273, .int .i64 t274], .agg #[.bool a1_0, .int .i64 a1_1, .int .i64 a1_2, .int .u64 a1_3]] rfl mp_ ?_; (with_reducible refine (shape_format_finite.calls k t273 t274 a1_0 a1_1 a1_2 a1_3 t277 true _ A6.out).mono ?_); rintro e w14 ⟨rfl, hb⟩; refine ⟨_, rfl, ?_⟩; replace BK272 := A_ (blk_below (g := gb272) (o := .cells #[.bool a1_0, .int .i64 a1_1, .int .i64 a1_2, .int .u64 a1_3] 75 (0, 0)) (bf2_ BK272.out NB272_276.out NB272_276.out) hb); replace BK276 := A_ (blk_below (g := gb276) (o := .cells #[.int .i64 t273, .int .i64 t274] 78 (0, 0)) (by (with_reducible repeat (first | refine blk_drewN ?_ _ | refine blk_drew ?_ | refine blk_alloc ?_ _)); refine blk_put (cs := #[.int .i64 t273, .int .i64 0]) ?_ 1 _ rfl; (with_reducible repeat (first | refine blk_drewN ?_ _ | refine blk_drew ?_ | refine blk_alloc ?_ _)); refine blk_put (cs := #[.int .i64 0, .int .i64 0]) ?_ 0 _ rfl; (with_reducible repeat (first | refine blk_drewN ?_ _ | refine blk_drew ?_ | refine blk_alloc ?_ _)); exact BK276.out) hb); replace HB := A_ (below_step (hb2_ HB.out GE272.out GE276.out) hb); (try clear hb); (try clear hb2); (try clear hk); (try clear hi)))
    go_ret2
    exact ⟨er_, hb2_ HB.out GE272.out GE276.out⟩
   ·replace c7 := Bool.eq_false_iff.mpr c7
    subst c7
    have H1 : (some (0, 2)) = some (r1, r2) := by rw [if_neg (show ¬ (false = true) by decide)] at H; exact H
    clear H;have H := H1;clear H1
    simp only [Option.some.injEq, Prod.mk.injEq] at H
    obtain ⟨rfl, rfl⟩ := H
    go_enter Tryd.func115, Tryd.ntmps115
    go_wp2_with (first | ((with_reducible refine gate_dst (N := 3) rfl ?_); refine be_ 3 #[.bool a1_0, .int .i64 a1_1, .int .i64 a1_2, .int .u64 a1_3] 75 ?_; intro gb272 hg w15 hbox hb; have BK272 := A_ (hbox); have GW272 := A_ (sz_ hg (hb_ HB.out)); have GE272 := A_ (sz_ hg (hb_ HB.out)); replace HB := A_ (below_step (hb_ HB.out) hb); clear hb hbox hg) | ((with_reducible refine gate_callee (f := 63) rfl ?_); refine goesL_ (some 12) rfl rfl Tryd.func63 (by kernel_rfl) rfl #[.int .i64 a0] rfl mp_ ?_; (with_reducible refine (shape_of.calls a0 t273 t274 true _ A3.out).mono ?_); rintro e w16 ⟨rfl, hb⟩; refine ⟨_, rfl, ?_⟩; replace BK272 := A_ (bb_ BK272.out hb); replace HB := A_ (below_step (hb1_ HB.out GE272.out) hb); (try clear hb); (try clear hb2); (try clear hk); (try clear hi)) | ((with_reducible refine gate_dst (N := 6) rfl ?_); refine be_ 6 #[.int .i64 0, .int .i64 0] 78 ?_; intro gb276 hg w17 hbox hb; have BK276 := A_ (hbox); have GW276 := A_ (sz_ hg (hb1_ HB.out GE272.out)); have GE276 := A_ (sz_ hg (hb1_ HB.out GE272.out)); have NB272_276 := A_ (nl_ hg BK272.out); have NB276_272 := A_ (ng_ hg BK272.out); replace BK272 := A_ (bb_ BK272.out hb); replace HB := A_ (below_step (hb1_ HB.out GE272.out) hb); clear hb hbox hg; have hnb18 := NB276_272.out; have hnc18 := NB272_276.out; have hcz19_0 := bv_ BK276.out 0; have hcz19_1 := bv_ BK276.out 1; have hfz19_0 := blk_frozen BK276.out 0; have hfz19_1 := blk_frozen BK276.out 1; have hcz20_0 := bv_ BK272.out 0; have hcz20_1 := bv_ BK272.out 1; have hcz20_2 := bv_ BK272.out 2; have hcz20_3 := bv_ BK272.out 3; have hfz20_0 := blk_frozen BK272.out 0; have hfz20_1 := blk_frozen BK272.out 1; have hfz20_2 := blk_frozen BK272.out 2; have hfz20_3 := blk_frozen BK272.out 3) | ((with_reducible refine gate_callee (f := 118) rfl ?_); refine goesL_ (some 23) rfl rfl Tryd.func118 (by kernel_rfl) rfl #[.agg #[.int .i64 t273, .int .i64 t274], .agg #[.bool a1_0, .int .i64 a1_1, .int .i64 a1_2, .int .u64 a1_3]] rfl mp_ ?_; (with_reducible refine (shape_format_finite.calls k t273 t274 a1_0 a1_1 a1_2 a1_3 t277 false _ A6.out).mono ?_); rintro e w21 ⟨rfl, hb⟩; refine ⟨_, rfl, ?_⟩; replace BK272 := A_ (blk_below (g := gb272) (o := .cells #[.bool a1_0, .int .i64 a1_1, .int .i64 a1_2, .int .u64 a1_3] 75 (0, 0)) (bf2_ BK272.out NB272_276.out NB272_276.out) hb); replace BK276 := A_ (blk_below (g := gb276) (o := .cells #[.int .i64 t273, .int .i64 t274] 78 (0, 0)) (by (with_reducible repeat (first | refine blk_drewN ?_ _ | refine blk_drew ?_ | refine blk_alloc ?_ _)); refine blk_put (cs := #[.int .i64 t273, .int .i64 0]) ?_ 1 _ rfl; (with_reducible repeat (first | refine blk_drewN ?_ _ | refine blk_drew ?_ | refine blk_alloc ?_ _)); refine blk_put (cs := #[.int .i64 0, .int .i64 0]) ?_ 0 _ rfl; (with_reducible repeat (first | refine blk_drewN ?_ _ | refine blk_drew ?_ | refine blk_alloc ?_ _)); exact BK276.out) hb); replace HB := A_ (below_step (hb2_ HB.out GE272.out GE276.out) hb); (try clear hb); (try clear hb2); (try clear hk); (try clear hi)))
    go_ret2
    exact ⟨er_, hb2_ HB.out GE272.out GE276.out⟩
  ·rw [if_neg c5] at H
   have c5b0 : (a1_1 == 1) = false := beq_eq_false_iff_ne.mpr c5
   have c5b1 : (a1_1 != 1) = true := bne_iff_ne.mpr c5
   have HC22 := A_ H;clear H
   go_enter Tryd.func115, Tryd.ntmps115
   go_upto_region 9 with (first | ((with_reducible refine gate_dst (N := 3) rfl ?_); refine be_ 3 #[.bool a1_0, .int .i64 a1_1, .int .i64 a1_2, .int .u64 a1_3] 75 ?_; intro gb272 hg w23 hbox hb; have BK272 := A_ (hbox); have GW272 := A_ (sz_ hg (hb_ HB.out)); have GE272 := A_ (sz_ hg (hb_ HB.out)); replace HB := A_ (below_step (hb_ HB.out) hb); clear hb hbox hg) | ((with_reducible refine gate_callee (f := 63) rfl ?_); refine goesL_ (some 12) rfl rfl Tryd.func63 (by kernel_rfl) rfl #[.int .i64 a0] rfl mp_ ?_; (with_reducible refine (shape_of.calls a0 t273 t274 true _ A3.out).mono ?_); rintro e w24 ⟨rfl, hb⟩; refine ⟨_, rfl, ?_⟩; replace BK272 := A_ (bb_ BK272.out hb); replace HB := A_ (below_step (hb1_ HB.out GE272.out) hb); (try clear hb); (try clear hb2); (try clear hk); (try clear hi)) | ((with_reducible refine gate_dst (N := 6) rfl ?_); refine be_ 6 #[.int .i64 0, .int .i64 0] 78 ?_; intro gb276 hg w25 hbox hb; have BK276 := A_ (hbox); have GW276 := A_ (sz_ hg (hb1_ HB.out GE272.out)); have GE276 := A_ (sz_ hg (hb1_ HB.out GE272.out)); have NB272_276 := A_ (nl_ hg BK272.out); have NB276_272 := A_ (ng_ hg BK272.out); replace BK272 := A_ (bb_ BK272.out hb); replace HB := A_ (below_step (hb1_ HB.out GE272.out) hb); clear hb hbox hg; have hnb26 := NB276_272.out; have hnc26 := NB272_276.out; have hcz27_0 := bv_ BK276.out 0; have hcz27_1 := bv_ BK276.out 1; have hfz27_0 := blk_frozen BK276.out 0; have hfz27_1 := blk_frozen BK276.out 1; have hcz28_0 := bv_ BK272.out 0; have hcz28_1 := bv_ BK272.out 1; have hcz28_2 := bv_ BK272.out 2; have hcz28_3 := bv_ BK272.out 3; have hfz28_0 := blk_frozen BK272.out 0; have hfz28_1 := blk_frozen BK272.out 1; have hfz28_2 := blk_frozen BK272.out 2; have hfz28_3 := blk_frozen BK272.out 3))
   (try simp only [Act.put, lI_, l0_, lS_])
   go_cut [36] (fun v36 wc => ∃ (kq : Nat) (x36_21 : Bool), v36 = .bool x36_21 ∧ Aside0 (shape_Close.j0 kq a0 x36_21 a1_0 a1_1 a1_2 a1_3 = some (r1, r2)) ∧ Aside0 (kq ≤ k) ∧ Aside0 (wc.heap[gb272]? = some (.cells #[.bool a1_0, .int .i64 a1_1, .int .i64 a1_2, .int .u64 a1_3] 75 (0, 0))) ∧ Aside0 (wc.heap[gb276]? = some (.cells #[.int .i64 t273, .int .i64 t274] 78 (0, 0))) ∧ Aside0 (Below w.heap.size w wc))
   case first =>
    have H := HC22.out
    clear HC22
    by_cases c29 : a1_3 = 0
    ·rw [if_pos c29] at H
     have c29b0 : (a1_3 == 0) = true := beq_iff_eq.mpr c29
     have c29b1 : (a1_3 != 0) = false := bne_eq_false_iff_eq.mpr c29
     clear c29
     (first | rw [c29b0] | (simp only [i64_w, i32_w]; rw [c29b0]) | skip)
     have H' := A_ H
     clear H
     have hnb30 := NB272_276.out
     have hnc30 := NB276_272.out
     have hcz31_0 := bv_ BK272.out 0
     have hcz31_1 := bv_ BK272.out 1
     have hcz31_2 := bv_ BK272.out 2
     have hcz31_3 := bv_ BK272.out 3
     have hfz31_0 := blk_frozen BK272.out 0
     have hfz31_1 := blk_frozen BK272.out 1
     have hfz31_2 := blk_frozen BK272.out 2
     have hfz31_3 := blk_frozen BK272.out 3
     go_wp2
     go_meet
     case rel => exact ⟨_, ((a1_2 != 0)), sm_, H', ⟨by first | omega | exact Nat.le_refl _⟩, ⟨bf2_ BK272.out NB272_276.out NB272_276.out⟩, ⟨by (with_reducible repeat (first | refine blk_drewN ?_ _ | refine blk_drew ?_ | refine blk_alloc ?_ _)); refine blk_put (cs := #[.int .i64 t273, .int .i64 0]) ?_ 1 _ rfl; (with_reducible repeat (first | refine blk_drewN ?_ _ | refine blk_drew ?_ | refine blk_alloc ?_ _)); refine blk_put (cs := #[.int .i64 0, .int .i64 0]) ?_ 0 _ rfl; (with_reducible repeat (first | refine blk_drewN ?_ _ | refine blk_drew ?_ | refine blk_alloc ?_ _)); exact BK276.out⟩, ⟨hb2_ HB.out GE272.out GE276.out⟩⟩
    ·rw [if_neg c29] at H
     have c29b0 : (a1_3 == 0) = false := beq_eq_false_iff_ne.mpr c29
     have c29b1 : (a1_3 != 0) = true := bne_iff_ne.mpr c29
     (first | rw [c29b0] | (simp only [i64_w, i32_w]; rw [c29b0]) | skip)
     have H' := A_ H
     clear H
     have hnb32 := NB272_276.out
     have hnc32 := NB276_272.out
     have hcz33_0 := bv_ BK272.out 0
     have hcz33_1 := bv_ BK272.out 1
     have hcz33_2 := bv_ BK272.out 2
     have hcz33_3 := bv_ BK272.out 3
     have hfz33_0 := blk_frozen BK272.out 0
     have hfz33_1 := blk_frozen BK272.out 1
     have hfz33_2 := blk_frozen BK272.out 2
     have hfz33_3 := blk_frozen BK272.out 3
     go_wp2
     go_meet
     case rel => exact ⟨_, (true), sm_, H', ⟨by first | omega | exact Nat.le_refl _⟩, ⟨bf2_ BK272.out NB272_276.out NB272_276.out⟩, ⟨by (with_reducible repeat (first | refine blk_drewN ?_ _ | refine blk_drew ?_ | refine blk_alloc ?_ _)); refine blk_put (cs := #[.int .i64 t273, .int .i64 0]) ?_ 1 _ rfl; (with_reducible repeat (first | refine blk_drewN ?_ _ | refine blk_drew ?_ | refine blk_alloc ?_ _)); refine blk_put (cs := #[.int .i64 0, .int .i64 0]) ?_ 0 _ rfl; (with_reducible repeat (first | refine blk_drewN ?_ _ | refine blk_drew ?_ | refine blk_alloc ?_ _)); exact BK276.out⟩, ⟨hb2_ HB.out GE272.out GE276.out⟩⟩
   case rest =>
    clear HC22
    try clear c1
    try clear c2
    try clear p2
    try clear c3
    try clear c4
    try clear c5
    try clear c5b0
    try clear c5b1
    try clear c6
    try clear c7
    try clear c11
    try clear c18
    try clear c26
    try clear c29
    try clear c29b0
    try clear c29b1
    try clear c30
    try clear c32
    try clear hcz12_0
    try clear hcz12_1
    try clear hcz13_0
    try clear hcz13_1
    try clear hcz13_2
    try clear hcz13_3
    try clear hcz19_0
    try clear hcz19_1
    try clear hcz20_0
    try clear hcz20_1
    try clear hcz20_2
    try clear hcz20_3
    try clear hcz27_0
    try clear hcz27_1
    try clear hcz28_0
    try clear hcz28_1
    try clear hcz28_2
    try clear hcz28_3
    try clear hcz31_0
    try clear hcz31_1
    try clear hcz31_2
    try clear hcz31_3
    try clear hcz33_0
    try clear hcz33_1
    try clear hcz33_2
    try clear hcz33_3
    try clear hfz12_0
    try clear hfz12_1
    try clear hfz13_0
    try clear hfz13_1
    try clear hfz13_2
    try clear hfz13_3
    try clear hfz19_0
    try clear hfz19_1
    try clear hfz20_0
    try clear hfz20_1
    try clear hfz20_2
    try clear hfz20_3
    try clear hfz27_0
    try clear hfz27_1
    try clear hfz28_0
    try clear hfz28_1
    try clear hfz28_2
    try clear hfz28_3
    try clear hfz31_0
    try clear hfz31_1
    try clear hfz31_2
    try clear hfz31_3
    try clear hfz33_0
    try clear hfz33_1
    try clear hfz33_2
    try clear hfz33_3
    obtain ⟨kq, x36_21, rfl, HA, HJ21, BK272, BK276, HB⟩ := hcut
    cases kq with
    | zero => exact absurd HA.out (by simp [shape_Close.j0])
    | succ kj21 =>
     have H := HA.out
     clear HA
     simp only [shape_Close.j0] at H
     by_cases c34 : x36_21 = true
     ·subst c34
      have H1 : (some (0, 2)) = some (r1, r2) := by rw [if_pos rfl] at H; exact H
      clear H;have H := H1;clear H1
      simp only [Option.some.injEq, Prod.mk.injEq] at H
      obtain ⟨rfl, rfl⟩ := H
      go_wp2
      go_ret2
      exact ⟨er_, hb2_ HB.out GE272.out GE276.out⟩
     ·replace c34 := Bool.eq_false_iff.mpr c34
      subst c34
      have H1 : (if a1_1 = 0 then ((shape_Zero.f a0 a1_0).bind fun t279 => (some (t279, 0))) else (if a1_1 = 2 then ((shape_Inf.f a0 a1_0).bind fun t280 => (some (t280, 0))) else (if a1_1 = 3 then ((shape_Nan.f a0).bind fun t281 => (some (t281, 0))) else (some (0, 2))))) = some (r1, r2) := by rw [if_neg (show ¬ (false = true) by decide)] at H; exact H
      clear H;have H := H1;clear H1
      by_cases c35 : a1_1 = 0
      ·rw [if_pos c35] at H
       have c35b0 : (a1_1 == 0) = true := beq_iff_eq.mpr c35
       have c35b1 : (a1_1 != 0) = false := bne_eq_false_iff_eq.mpr c35
       clear c35
       replace H := ob_ H
       obtain ⟨t279, A360, H⟩ := H
       replace H : (some (t279, 0)) = some (r1, r2) := H
       have A36 := A_ A360;clear A360
       simp only [Option.some.injEq, Prod.mk.injEq] at H
       obtain ⟨rfl, rfl⟩ := H
       have hnb37 := NB272_276.out
       have hnc37 := NB276_272.out
       have hcz38_0 := bv_ BK272.out 0
       have hcz38_1 := bv_ BK272.out 1
       have hcz38_2 := bv_ BK272.out 2
       have hcz38_3 := bv_ BK272.out 3
       have hfz38_0 := blk_frozen BK272.out 0
       have hfz38_1 := blk_frozen BK272.out 1
       have hfz38_2 := blk_frozen BK272.out 2
       have hfz38_3 := blk_frozen BK272.out 3
       go_wp2_with (first | ((with_reducible refine gate_callee (f := 83) rfl ?_); refine goesL_ (some 44) rfl rfl Tryd.func83 (by kernel_rfl) rfl #[.int .i64 a0, .bool a1_0] rfl mp_ ?_; (with_reducible refine (shape_Zero.calls a0 a1_0 t279 _ A36.out).mono ?_); rintro e w39 ⟨rfl, hb⟩; refine ⟨_, rfl, ?_⟩; replace BK272 := A_ (bb_ BK272.out hb); replace BK276 := A_ (bb_ BK276.out hb); replace HB := A_ (below_step (hb2_ HB.out GE272.out GE276.out) hb); (try clear hb); (try clear hb2); (try clear hk); (try clear hi)))
       go_ret2
       exact ⟨er_, hb2_ HB.out GE272.out GE276.out⟩
      ·rw [if_neg c35] at H
       have c35b0 : (a1_1 == 0) = false := beq_eq_false_iff_ne.mpr c35
       have c35b1 : (a1_1 != 0) = true := bne_iff_ne.mpr c35
       by_cases c40 : a1_1 = 2
       ·rw [if_pos c40] at H
        have c40b0 : (a1_1 == 2) = true := beq_iff_eq.mpr c40
        have c40b1 : (a1_1 != 2) = false := bne_eq_false_iff_eq.mpr c40
        clear c40
        replace H := ob_ H
        obtain ⟨t280, A410, H⟩ := H
        replace H : (some (t280, 0)) = some (r1, r2) := H
        have A41 := A_ A410;clear A410
        simp only [Option.some.injEq, Prod.mk.injEq] at H
        obtain ⟨rfl, rfl⟩ := H
        have hnb42 := NB272_276.out
        have hnc42 := NB276_272.out
        have hcz43_0 := bv_ BK272.out 0
        have hcz43_1 := bv_ BK272.out 1
        have hcz43_2 := bv_ BK272.out 2
        have hcz43_3 := bv_ BK272.out 3
        have hfz43_0 := blk_frozen BK272.out 0
        have hfz43_1 := blk_frozen BK272.out 1
        have hfz43_2 := blk_frozen BK272.out 2
        have hfz43_3 := blk_frozen BK272.out 3
        go_wp2_with (first | ((with_reducible refine gate_callee (f := 86) rfl ?_); refine goesL_ (some 50) rfl rfl Tryd.func86 (by kernel_rfl) rfl #[.int .i64 a0, .bool a1_0] rfl mp_ ?_; (with_reducible refine (shape_Inf.calls a0 a1_0 t280 _ A41.out).mono ?_); rintro e w44 ⟨rfl, hb⟩; refine ⟨_, rfl, ?_⟩; replace BK272 := A_ (bb_ BK272.out hb); replace BK276 := A_ (bb_ BK276.out hb); replace HB := A_ (below_step (hb2_ HB.out GE272.out GE276.out) hb); (try clear hb); (try clear hb2); (try clear hk); (try clear hi)))
        go_ret2
        exact ⟨er_, hb2_ HB.out GE272.out GE276.out⟩
       ·rw [if_neg c40] at H
        have c40b0 : (a1_1 == 2) = false := beq_eq_false_iff_ne.mpr c40
        have c40b1 : (a1_1 != 2) = true := bne_iff_ne.mpr c40
        by_cases c45 : a1_1 = 3
        ·rw [if_pos c45] at H
         have c45b0 : (a1_1 == 3) = true := beq_iff_eq.mpr c45
         have c45b1 : (a1_1 != 3) = false := bne_eq_false_iff_eq.mpr c45
         clear c45
         replace H := ob_ H
         obtain ⟨t281, A460, H⟩ := H
         replace H : (some (t281, 0)) = some (r1, r2) := H
         have A46 := A_ A460;clear A460
         simp only [Option.some.injEq, Prod.mk.injEq] at H
         obtain ⟨rfl, rfl⟩ := H
         have hnb47 := NB272_276.out
         have hnc47 := NB276_272.out
         have hcz48_0 := bv_ BK272.out 0
         have hcz48_1 := bv_ BK272.out 1
         have hcz48_2 := bv_ BK272.out 2
         have hcz48_3 := bv_ BK272.out 3
         have hfz48_0 := blk_frozen BK272.out 0
         have hfz48_1 := blk_frozen BK272.out 1
         have hfz48_2 := blk_frozen BK272.out 2
         have hfz48_3 := blk_frozen BK272.out 3
         go_wp2_with (first | ((with_reducible refine gate_callee (f := 33) rfl ?_); refine goesL_ (some 54) rfl rfl Tryd.func33 (by kernel_rfl) rfl #[.int .i64 a0] rfl mp_ ?_; (with_reducible refine (shape_Nan.calls a0 t281 _ A46.out).mono ?_); rintro e w49 ⟨rfl, hb⟩; refine ⟨_, rfl, ?_⟩; replace BK272 := A_ (bb_ BK272.out hb); replace BK276 := A_ (bb_ BK276.out hb); replace HB := A_ (below_step (hb2_ HB.out GE272.out GE276.out) hb); (try clear hb); (try clear hb2); (try clear hk); (try clear hi)))
         go_ret2
         exact ⟨er_, hb2_ HB.out GE272.out GE276.out⟩
        ·rw [if_neg c45] at H
         have c45b0 : (a1_1 == 3) = false := beq_eq_false_iff_ne.mpr c45
         have c45b1 : (a1_1 != 3) = true := bne_iff_ne.mpr c45
         simp only [Option.some.injEq, Prod.mk.injEq] at H
         obtain ⟨rfl, rfl⟩ := H
         have hnb50 := NB272_276.out
         have hnc50 := NB276_272.out
         have hcz51_0 := bv_ BK272.out 0
         have hcz51_1 := bv_ BK272.out 1
         have hcz51_2 := bv_ BK272.out 2
         have hcz51_3 := bv_ BK272.out 3
         have hfz51_0 := blk_frozen BK272.out 0
         have hfz51_1 := blk_frozen BK272.out 1
         have hfz51_2 := blk_frozen BK272.out 2
         have hfz51_3 := blk_frozen BK272.out 3
         go_wp2
         go_ret2
         exact ⟨er_, hb2_ HB.out GE272.out GE276.out⟩
 ·replace c4 := Bool.eq_false_iff.mpr c4
  subst c4
  have H1 : (some (0, 2)) = some (r1, r2) := by rw [if_neg (show ¬ (false = true) by decide)] at H; exact H
  clear H;have H := H1;clear H1
  simp only [Option.some.injEq, Prod.mk.injEq] at H
  obtain ⟨rfl, rfl⟩ := H
  go_enter Tryd.func115, Tryd.ntmps115
  go_wp2_with (first | ((with_reducible refine gate_dst (N := 3) rfl ?_); refine be_ 3 #[.bool a1_0, .int .i64 a1_1, .int .i64 a1_2, .int .u64 a1_3] 75 ?_; intro gb272 hg w52 hbox hb; have BK272 := A_ (hbox); have GW272 := A_ (sz_ hg (hb_ HB.out)); have GE272 := A_ (sz_ hg (hb_ HB.out)); replace HB := A_ (below_step (hb_ HB.out) hb); clear hb hbox hg) | ((with_reducible refine gate_callee (f := 63) rfl ?_); refine goesL_ (some 12) rfl rfl Tryd.func63 (by kernel_rfl) rfl #[.int .i64 a0] rfl mp_ ?_; (with_reducible refine (shape_of.calls a0 t273 t274 false _ A3.out).mono ?_); rintro e w53 ⟨rfl, hb⟩; refine ⟨_, rfl, ?_⟩; replace BK272 := A_ (bb_ BK272.out hb); replace HB := A_ (below_step (hb1_ HB.out GE272.out) hb); (try clear hb); (try clear hb2); (try clear hk); (try clear hi)) | ((with_reducible refine gate_dst (N := 6) rfl ?_); refine be_ 6 #[.int .i64 0, .int .i64 0] 78 ?_; intro gb276 hg w54 hbox hb; have BK276 := A_ (hbox); have GW276 := A_ (sz_ hg (hb1_ HB.out GE272.out)); have GE276 := A_ (sz_ hg (hb1_ HB.out GE272.out)); have NB272_276 := A_ (nl_ hg BK272.out); have NB276_272 := A_ (ng_ hg BK272.out); replace BK272 := A_ (bb_ BK272.out hb); replace HB := A_ (below_step (hb1_ HB.out GE272.out) hb); clear hb hbox hg; have hnb55 := NB276_272.out; have hnc55 := NB272_276.out; have hcz56_0 := bv_ BK276.out 0; have hcz56_1 := bv_ BK276.out 1; have hfz56_0 := blk_frozen BK276.out 0; have hfz56_1 := blk_frozen BK276.out 1))
  go_ret2
  exact ⟨er_, hb2_ HB.out GE272.out GE276.out⟩
end Go.Proofs.YthdeeoallfbjmaaDoor.PA
