/- What the Go functions that the statement QuotientKeeps reaches compute, and the mathematics on it, in the order in which one leans on the other; for every input. -/
import Derived.Test.YtbpmnmceajmmcaaVQuotientKeeps0
import Derived.Test.YtbpmnmceajmmcaaMQuotientKeeps0
import Derived.Test.YtbpmnmceajmmcaaMQuotientKeeps7
import Derived.Test.YtbpmnmceajmmcaaMQuotientKeeps3
import Derived.Test.YtbpmnmceajmmcaaMQuotientKeeps6
import Derived.Test.YtbpmnmceajmmcaaMQuotientKeeps1
import Derived.Test.YtbpmnmceajmmcaaMQuotientKeeps5
import Derived.Test.YtbpmnmceajmmcaaMQuotientKeeps2
import Derived.Test.YtbpmnmceajmmcaaMQuotientKeeps4
import Derived.Deep.RegionHeld3
namespace Go.Proofs.Ytbpmnmceajmmcaa.PA
open Go.RowKit Go.Proofs.YtbpmnmceajmmcaaW.PrintWords Go.Proofs.YtbpmnmceajmmcaaW.PrintLast Go.Proofs.YtbpmnmceajmmcaaW.PrintMore
attribute [local go_sem] max2_int min2_int max_two min_two max_three min_three max_four min_four   -- for this text's walks alone
set_option linter.unusedVariables false
set_option linter.unusedSimpArgs false
set_option maxHeartbeats 8000000
set_option maxRecDepth 100000
mutual
def L06_QuotientKeeps.j0 : Nat → Int → Int → Int → Bool → Option (Bool)
 | 0, _, _, _, _ => none
 | k + 1, x0, x1, x2, x18 => if x18 = true then (some true) else ((r5_One.f k x0).bind fun t699 => ((quotient_Inverse.f k x0 t699).bind fun t700 => ((shape_Zero.f x0 true).bind fun t701 => ((quotient_Div.f k x0 x1 x2).bind fun t702 => ((shape_Open.f k x0 x1).bind fun bt703 => ((r5_One.f k x0).bind fun t708 => (if t700 = t708 then ((shape_Cut.f x0 t702).bind fun t709 => (L06_QuotientKeeps.j1 k x0 x1 x2 t700 t701 t702 (t702 != t709) bt703.1 bt703.2.1 bt703.2.2.1 bt703.2.2.2)) else (L06_QuotientKeeps.j1 k x0 x1 x2 t700 t701 t702 true bt703.1 bt703.2.1 bt703.2.2.1 bt703.2.2.2))))))))
def L06_QuotientKeeps.j1 : Nat → Int → Int → Int → Int → Int → Int → Bool → Bool → Int → Int → Int → Option (Bool)
 | 0, _, _, _, _, _, _, _, _, _, _, _ => none
 | k + 1, x0, x1, x2, x7, x8, x9, x42, x708000, x708001, x708002, x708003 => if x42 = true then (some false) else ((shape_IsNan.f k x0 x9).bind fun t710 => (if t710 = true then ((shape_Nan.f x0).bind fun t711 => (if x9 = t711 then ((quotient_Div.f k x0 (Go.bits .xor .u64 x1 x8) x2).bind fun t712 => (some (t712 == x9))) else (some false))) else ((quotient_Div.f k x0 (Go.bits .xor .u64 x1 x8) x2).bind fun t713 => (if t713 = (Go.bits .xor .u64 x9 x8) then ((quotient_Div.f k x0 x1 (Go.bits .xor .u64 x2 x8)).bind fun t714 => (if t714 = (Go.bits .xor .u64 x9 x8) then ((quotient_Div.f k x0 x1 x7).bind fun t715 => ((shape_Cut.f x0 x1).bind fun t716 => (if t715 = t716 then (if x708001 = 1 then ((quotient_Div.f k x0 x1 x1).bind fun t717 => (some (t717 == x7))) else (some true)) else (some false)))) else (some false))) else (some false)))))
end
def L06_QuotientKeeps.f (k : Nat) (a0 : Int) (a1 : Int) (a2 : Int) : Option (Bool) := (L06_awake.f k).bind fun t698 => (if t698 = true then (if a0 = 32 then (L06_QuotientKeeps.j0 k a0 a1 a2 false) else (L06_QuotientKeeps.j0 k a0 a1 a2 (a0 != 64))) else (some false))
theorem L06_QuotientKeeps.mono_l : ∀ k, (∀ y0 y1 y2 y3, LeO (L06_QuotientKeeps.j0 k y0 y1 y2 y3) (L06_QuotientKeeps.j0 (k + 1) y0 y1 y2 y3)) ∧ (∀ y0 y1 y2 y3 y4 y5 y6 y7 y8 y9 y10, LeO (L06_QuotientKeeps.j1 k y0 y1 y2 y3 y4 y5 y6 y7 y8 y9 y10) (L06_QuotientKeeps.j1 (k + 1) y0 y1 y2 y3 y4 y5 y6 y7 y8 y9 y10))
 | 0 => ⟨fun _ _ _ _ r h => by simp [L06_QuotientKeeps.j0] at h, fun _ _ _ _ _ _ _ _ _ _ _ r h => by simp [L06_QuotientKeeps.j1] at h⟩
 | k + 1 => by
  obtain ⟨ih0, ih1⟩ := L06_QuotientKeeps.mono_l k
  refine ⟨?_, ?_⟩
  ·intro y0 y1 y2 y3
   unfold L06_QuotientKeeps.j0
   repeat' first
   | (with_reducible exact ih0 _ _ _ _)
   | (with_reducible exact ih1 _ _ _ _ _ _ _ _ _ _ _)
   | (with_reducible exact quotient_Div.mono _ _ _ _)
   | (with_reducible exact quotient_Inverse.mono _ _ _)
   | (with_reducible exact shape_IsNan.mono _ _ _)
   | (with_reducible exact shape_Open.mono _ _ _)
   | (with_reducible exact L06_awake.mono _)
   | (with_reducible exact r5_One.mono _ _)
   | (with_reducible exact LeO.refl _)
   | (with_reducible exact LeO.none _)
   | (with_reducible refine LeO.ite ?_ ?_)
   | (with_reducible refine LeO.bind ?_ (fun _ => ?_))
   | exact ih0 _ _ _ _
   | exact ih1 _ _ _ _ _ _ _ _ _ _ _
   | exact quotient_Div.mono _ _ _ _
   | exact quotient_Inverse.mono _ _ _
   | exact shape_IsNan.mono _ _ _
   | exact shape_Open.mono _ _ _
   | exact L06_awake.mono _
   | exact r5_One.mono _ _
   | exact LeO.none _
   | refine LeO.ite ?_ ?_
   | refine LeO.bind ?_ (fun _ => ?_)
  ·intro y0 y1 y2 y3 y4 y5 y6 y7 y8 y9 y10
   unfold L06_QuotientKeeps.j1
   repeat' first
   | (with_reducible exact ih0 _ _ _ _)
   | (with_reducible exact ih1 _ _ _ _ _ _ _ _ _ _ _)
   | (with_reducible exact quotient_Div.mono _ _ _ _)
   | (with_reducible exact quotient_Inverse.mono _ _ _)
   | (with_reducible exact shape_IsNan.mono _ _ _)
   | (with_reducible exact shape_Open.mono _ _ _)
   | (with_reducible exact L06_awake.mono _)
   | (with_reducible exact r5_One.mono _ _)
   | (with_reducible exact LeO.refl _)
   | (with_reducible exact LeO.none _)
   | (with_reducible refine LeO.ite ?_ ?_)
   | (with_reducible refine LeO.bind ?_ (fun _ => ?_))
   | exact ih0 _ _ _ _
   | exact ih1 _ _ _ _ _ _ _ _ _ _ _
   | exact quotient_Div.mono _ _ _ _
   | exact quotient_Inverse.mono _ _ _
   | exact shape_IsNan.mono _ _ _
   | exact shape_Open.mono _ _ _
   | exact L06_awake.mono _
   | exact r5_One.mono _ _
   | exact LeO.none _
   | refine LeO.ite ?_ ?_
   | refine LeO.bind ?_ (fun _ => ?_)
theorem L06_QuotientKeeps.mono : ∀ a0 a1 a2 k, LeO (L06_QuotientKeeps.f k a0 a1 a2) (L06_QuotientKeeps.f (k + 1) a0 a1 a2) := by
 intro a0 a1 a2 k
 obtain ⟨ih0, ih1⟩ := L06_QuotientKeeps.mono_l k
 unfold L06_QuotientKeeps.f
 repeat' first
   | (with_reducible exact ih0 _ _ _ _)
   | (with_reducible exact ih1 _ _ _ _ _ _ _ _ _ _ _)
   | (with_reducible exact quotient_Div.mono _ _ _ _)
   | (with_reducible exact quotient_Inverse.mono _ _ _)
   | (with_reducible exact shape_IsNan.mono _ _ _)
   | (with_reducible exact shape_Open.mono _ _ _)
   | (with_reducible exact L06_awake.mono _)
   | (with_reducible exact r5_One.mono _ _)
   | (with_reducible exact LeO.refl _)
   | (with_reducible exact LeO.none _)
   | (with_reducible refine LeO.ite ?_ ?_)
   | (with_reducible refine LeO.bind ?_ (fun _ => ?_))
   | exact ih0 _ _ _ _
   | exact ih1 _ _ _ _ _ _ _ _ _ _ _
   | exact quotient_Div.mono _ _ _ _
   | exact quotient_Inverse.mono _ _ _
   | exact shape_IsNan.mono _ _ _
   | exact shape_Open.mono _ _ _
   | exact L06_awake.mono _
   | exact r5_One.mono _ _
   | exact LeO.none _
   | refine LeO.ite ?_ ?_
   | refine LeO.bind ?_ (fun _ => ?_)
theorem L06_QuotientKeeps.calls (k : Nat) (a0 : Int) (a1 : Int) (a2 : Int) (r : Bool) (w : World) (h : L06_QuotientKeeps.f k a0 a1 a2 = some r) (hr_ : Aside0 (r = true)) :
  Calls Try.prog 6 #[.int .i64 a0, .int .u64 a1, .int .u64 a2] w fun e w' => e = .returned (.bool r) ∧ Below w.heap.size w w' := by
 have hu38 := Try.underlying38
 have HB := A_ (Below.refl w.heap.size w)
 have H : ((L06_awake.f k).bind fun t698 => (if t698 = true then (if a0 = 32 then (L06_QuotientKeeps.j0 k a0 a1 a2 false) else (L06_QuotientKeeps.j0 k a0 a1 a2 (a0 != 64))) else (some false))) = some r := h
 clear h
 replace H := ob_ H
 obtain ⟨t698, A40, H⟩ := H
 replace H : (if t698 = true then (if a0 = 32 then (L06_QuotientKeeps.j0 k a0 a1 a2 false) else (L06_QuotientKeeps.j0 k a0 a1 a2 (a0 != 64))) else (some false)) = some r := H
 have A4 := A_ A40;clear A40
 by_cases c5 : t698 = true
 ·subst c5
  have H1 : (if a0 = 32 then (L06_QuotientKeeps.j0 k a0 a1 a2 false) else (L06_QuotientKeeps.j0 k a0 a1 a2 (a0 != 64))) = some r := by rw [if_pos rfl] at H; exact H
  clear H;have H := H1;clear H1;have HC6 := A_ H;clear H
  go_enter Try.func6, Try.ntmps6
  go_upto_region 3 with (first | ((with_reducible refine gate_callee (f := 26) rfl ?_); refine gl_ (some 11) Try.func26 #[] ?_; (with_reducible refine (L06_awake.calls k  true _ A4.out).mono ?_); rintro e w7 ⟨rfl, hb⟩; refine ⟨_, rfl, ?_⟩; have n0_ := A_ (below_step (hb_ HB.out) hb); clear HB; have HB := n0_; clear n0_; (try clear hb); (try clear hb2); (try clear hk); (try clear hi)))
  (try simp only [Act.put, lI_, l0_, lS_])
  go_cut [18] (fun v18 wc => ∃ (kq : Nat) (x18_5 : Bool), v18 = .bool x18_5 ∧ Aside0 (L06_QuotientKeeps.j0 kq a0 a1 a2 x18_5 = some r) ∧ Aside0 (kq ≤ k) ∧ Aside0 (Below w.heap.size w wc))
  case first =>
   have H := HC6.out
   clear HC6
   by_cases c8 : a0 = 32
   ·rw [if_pos c8] at H
    have c8b0 : (a0 == 32) = true := beq_iff_eq.mpr c8
    have c8b1 : (a0 != 32) = false := bne_eq_false_iff_eq.mpr c8
    clear c8
    (first | rw [c8b0] | (simp only [i64_w, i32_w]; rw [c8b0]) | skip)
    have H' := A_ H
    clear H
    go_wp2
    go_meet
    case rel => exact ⟨_, (false), sm_, H', ⟨by first | omega | exact Nat.le_refl _⟩, ⟨hb_ HB.out⟩⟩
   ·rw [if_neg c8] at H
    have c8b0 : (a0 == 32) = false := beq_eq_false_iff_ne.mpr c8
    have c8b1 : (a0 != 32) = true := bne_iff_ne.mpr c8
    (first | rw [c8b0] | (simp only [i64_w, i32_w]; rw [c8b0]) | skip)
    have H' := A_ H
    clear H
    go_wp2
    go_meet
    case rel => exact ⟨_, ((a0 != 64)), sm_, H', ⟨by first | omega | exact Nat.le_refl _⟩, ⟨hb_ HB.out⟩⟩
  case rest =>
   clear HC6
   try clear c2
   try clear p2
   try clear c5
   try clear c6
   try clear c8
   try clear c8b0
   try clear c8b1
   obtain ⟨kq, x18_5, rfl, HA, HJ5, HB⟩ := hcut
   cases kq with
   | zero => exact absurd HA.out (by simp [L06_QuotientKeeps.j0])
   | succ kj5 =>
    have H := HA.out
    clear HA
    simp only [L06_QuotientKeeps.j0] at H
    by_cases c9 : x18_5 = true
    ·subst c9
     have H1 : (some true) = some r := by rw [if_pos rfl] at H; exact H
     clear H;have H := H1;clear H1
     obtain rfl := Option.some.inj H
     go_wp2
     go_ret
     exact ⟨er_, hb_ HB.out⟩
    ·replace c9 := Bool.eq_false_iff.mpr c9
     subst c9
     have H1 : ((r5_One.f kj5 a0).bind fun t699 => ((quotient_Inverse.f kj5 a0 t699).bind fun t700 => ((shape_Zero.f a0 true).bind fun t701 => ((quotient_Div.f kj5 a0 a1 a2).bind fun t702 => ((shape_Open.f kj5 a0 a1).bind fun bt703 => ((r5_One.f kj5 a0).bind fun t708 => (if t700 = t708 then ((shape_Cut.f a0 t702).bind fun t709 => (L06_QuotientKeeps.j1 kj5 a0 a1 a2 t700 t701 t702 (t702 != t709) bt703.1 bt703.2.1 bt703.2.2.1 bt703.2.2.2)) else (L06_QuotientKeeps.j1 kj5 a0 a1 a2 t700 t701 t702 true bt703.1 bt703.2.1 bt703.2.2.1 bt703.2.2.2)))))))) = some r := by rw [if_neg (show ¬ (false = true) by decide)] at H; exact H
     clear H;have H := H1;clear H1
     replace H := ob_ H
     obtain ⟨t699, A100, H⟩ := H
     replace H : ((quotient_Inverse.f kj5 a0 t699).bind fun t700 => ((shape_Zero.f a0 true).bind fun t701 => ((quotient_Div.f kj5 a0 a1 a2).bind fun t702 => ((shape_Open.f kj5 a0 a1).bind fun bt703 => ((r5_One.f kj5 a0).bind fun t708 => (if t700 = t708 then ((shape_Cut.f a0 t702).bind fun t709 => (L06_QuotientKeeps.j1 kj5 a0 a1 a2 t700 t701 t702 (t702 != t709) bt703.1 bt703.2.1 bt703.2.2.1 bt703.2.2.2)) else (L06_QuotientKeeps.j1 kj5 a0 a1 a2 t700 t701 t702 true bt703.1 bt703.2.1 bt703.2.2.1 bt703.2.2.2))))))) = some r := H
     have A10 := A_ A100;clear A100
     replace H := ob_ H
     obtain ⟨t700, A110, H⟩ := H
     replace H : ((shape_Zero.f a0 true).bind fun t701 => ((quotient_Div.f kj5 a0 a1 a2).bind fun t702 => ((shape_Open.f kj5 a0 a1).bind fun bt703 => ((r5_One.f kj5 a0).bind fun t708 => (if t700 = t708 then ((shape_Cut.f a0 t702).bind fun t709 => (L06_QuotientKeeps.j1 kj5 a0 a1 a2 t700 t701 t702 (t702 != t709) bt703.1 bt703.2.1 bt703.2.2.1 bt703.2.2.2)) else (L06_QuotientKeeps.j1 kj5 a0 a1 a2 t700 t701 t702 true bt703.1 bt703.2.1 bt703.2.2.1 bt703.2.2.2)))))) = some r := H
     have A11 := A_ A110;clear A110
     replace H := ob_ H
     obtain ⟨t701, A120, H⟩ := H
     replace H : ((quotient_Div.f kj5 a0 a1 a2).bind fun t702 => ((shape_Open.f kj5 a0 a1).bind fun bt703 => ((r5_One.f kj5 a0).bind fun t708 => (if t700 = t708 then ((shape_Cut.f a0 t702).bind fun t709 => (L06_QuotientKeeps.j1 kj5 a0 a1 a2 t700 t701 t702 (t702 != t709) bt703.1 bt703.2.1 bt703.2.2.1 bt703.2.2.2)) else (L06_QuotientKeeps.j1 kj5 a0 a1 a2 t700 t701 t702 true bt703.1 bt703.2.1 bt703.2.2.1 bt703.2.2.2))))) = some r := H
     have A12 := A_ A120;clear A120
     replace H := ob_ H
     obtain ⟨t702, A130, H⟩ := H
     replace H : ((shape_Open.f kj5 a0 a1).bind fun bt703 => ((r5_One.f kj5 a0).bind fun t708 => (if t700 = t708 then ((shape_Cut.f a0 t702).bind fun t709 => (L06_QuotientKeeps.j1 kj5 a0 a1 a2 t700 t701 t702 (t702 != t709) bt703.1 bt703.2.1 bt703.2.2.1 bt703.2.2.2)) else (L06_QuotientKeeps.j1 kj5 a0 a1 a2 t700 t701 t702 true bt703.1 bt703.2.1 bt703.2.2.1 bt703.2.2.2)))) = some r := H
     have A13 := A_ A130;clear A130
     replace H := ob_ H
     obtain ⟨⟨t703, t704, t705, t706⟩, A140, H⟩ := H
     replace H : ((r5_One.f kj5 a0).bind fun t708 => (if t700 = t708 then ((shape_Cut.f a0 t702).bind fun t709 => (L06_QuotientKeeps.j1 kj5 a0 a1 a2 t700 t701 t702 (t702 != t709) t703 t704 t705 t706)) else (L06_QuotientKeeps.j1 kj5 a0 a1 a2 t700 t701 t702 true t703 t704 t705 t706))) = some r := H
     have A14 := A_ A140;clear A140;have HC15 := A_ H;clear H
     go_upto_region 7 with (first | ((with_reducible refine gate_callee (f := 23) rfl ?_); refine gl_ (some 21) Try.func23 #[.int .i64 a0] ?_; (with_reducible refine (r5_One.calls kj5 a0 t699 _ A10.out).mono ?_); rintro e w' ⟨rfl, ⟨nd, rfl⟩⟩; refine ⟨_, rfl, ?_⟩; (try (rw [drewN_self wc]; generalize hq_ : World.drewN wc _ = wc; have n0_ : Aside0 (Below w.heap.size w wc) := ⟨by rw [← hq_]; exact (hb_ HB.out)⟩; clear HB hq_; have HB := n0_; clear n0_))) | ((with_reducible refine gate_callee (f := 28) rfl ?_); refine gl_ (some 22) Try.func28 #[.int .i64 a0, .int .u64 t699] ?_; (with_reducible refine (quotient_Inverse.calls kj5 a0 t699 t700 _ A11.out).mono ?_); rintro e w16 ⟨rfl, hb⟩; refine ⟨_, rfl, ?_⟩; have n0_ := A_ (below_step (hb_ HB.out) hb); clear HB; have HB := n0_; clear n0_; (try clear hb); (try clear hb2); (try clear hk); (try clear hi)) | ((with_reducible refine gate_callee (f := 30) rfl ?_); refine gl_ (some 24) Try.func30 #[.int .i64 a0, .bool true] ?_; (with_reducible refine (shape_Zero.calls a0 true t701 _ A12.out).mono ?_); rintro e w17 ⟨rfl, hb⟩; refine ⟨_, rfl, ?_⟩; have n0_ := A_ (below_step (hb_ HB.out) hb); clear HB; have HB := n0_; clear n0_; (try clear hb); (try clear hb2); (try clear hk); (try clear hi)) | ((with_reducible refine gate_callee (f := 27) rfl ?_); refine gl_ (some 28) Try.func27 #[.int .i64 a0, .int .u64 a1, .int .u64 a2] ?_; (with_reducible refine (quotient_Div.calls kj5 a0 a1 a2 t702 _ A13.out).mono ?_); rintro e w18 ⟨rfl, hb⟩; refine ⟨_, rfl, ?_⟩; have n0_ := A_ (below_step (hb_ HB.out) hb); clear HB; have HB := n0_; clear n0_; (try clear hb); (try clear hb2); (try clear hk); (try clear hi)) | ((with_reducible refine gate_callee (f := 31) rfl ?_); refine gl_ (some 31) Try.func31 #[.int .i64 a0, .int .u64 a1] ?_; (with_reducible refine (shape_Open.calls kj5 a0 a1 t703 t704 t705 t706 _ A14.out).mono ?_); rintro e w19 ⟨rfl, hb⟩; refine ⟨_, rfl, ?_⟩; have n0_ := A_ (below_step (hb_ HB.out) hb); clear HB; have HB := n0_; clear n0_; (try clear hb); (try clear hb2); (try clear hk); (try clear hi)) | ((with_reducible refine gate_dst (N := 10) rfl ?_); refine be_ 10 #[.bool false, .int .i64 0, .int .i64 0, .int .u64 0] 38 ?_; intro gb707 hg w20 hbox hb; have n0_ := A_ (below_step (hb_ HB.out) hb); have n1_ := A_ (hbox); have n2_ := A_ (sz_ hg (hb_ HB.out)); have n3_ := A_ (sz_ hg (hb_ HB.out)); clear HB; have HB := n0_; have BK707 := n1_; have GW707 := n2_; have GE707 := n3_; clear n0_ n1_ n2_ n3_; clear hb hbox hg; have hcz21_0 : w20.cell? ⟨gb707, 0, none⟩ = some (.bool false) := bc_ BK707.out 0; have hcz21_1 : w20.cell? ⟨gb707, 1, none⟩ = some (.int .i64 0) := bc_ BK707.out 1; have hcz21_2 : w20.cell? ⟨gb707, 2, none⟩ = some (.int .i64 0) := bc_ BK707.out 2; have hcz21_3 : w20.cell? ⟨gb707, 3, none⟩ = some (.int .u64 0) := bc_ BK707.out 3; have hfz21_0 := blk_frozen BK707.out 0; have hfz21_1 := blk_frozen BK707.out 1; have hfz21_2 := blk_frozen BK707.out 2; have hfz21_3 := blk_frozen BK707.out 3))
     (try simp only [Act.put, lI_, l0_, lS_])
     go_cut [42] (fun v42 wc => ∃ (kq : Nat) (x42_14 : Bool), v42 = .bool x42_14 ∧ Aside0 (L06_QuotientKeeps.j1 kq a0 a1 a2 t700 t701 t702 x42_14 t703 t704 t705 t706 = some r) ∧ Aside0 (kq ≤ kj5) ∧ Aside0 (wc.heap[gb707]? = some (.cells #[.bool t703, .int .i64 t704, .int .i64 t705, .int .u64 t706] 38 (0, 0))) ∧ Aside0 (Below w.heap.size w wc))
     case first =>
      have H := HC15.out
      clear HC15
      replace H := ob_ H
      obtain ⟨t708, A220, H⟩ := H
      replace H : (if t700 = t708 then ((shape_Cut.f a0 t702).bind fun t709 => (L06_QuotientKeeps.j1 kj5 a0 a1 a2 t700 t701 t702 (t702 != t709) t703 t704 t705 t706)) else (L06_QuotientKeeps.j1 kj5 a0 a1 a2 t700 t701 t702 true t703 t704 t705 t706)) = some r := H
      have A22 := A_ A220;clear A220
      by_cases c23 : t700 = t708
      ·rw [if_pos c23] at H
       have c23b0 : (t700 == t708) = true := beq_iff_eq.mpr c23
       have c23b1 : (t700 != t708) = false := bne_eq_false_iff_eq.mpr c23
       clear c23
       (first | rw [c23b0] | (simp only [i64_w, i32_w]; rw [c23b0]) | skip)
       replace H := ob_ H
       obtain ⟨t709, A240, H⟩ := H
       replace H : (L06_QuotientKeeps.j1 kj5 a0 a1 a2 t700 t701 t702 (t702 != t709) t703 t704 t705 t706) = some r := H
       have A24 := A_ A240;clear A240
       have H' := A_ H
       clear H
       go_wp2_with (first | ((with_reducible refine gate_callee (f := 23) rfl ?_); refine gl_ (some 34) Try.func23 #[.int .i64 a0] ?_; (with_reducible refine (r5_One.calls kj5 a0 t708 _ A22.out).mono ?_); rintro e w' ⟨rfl, ⟨nd, rfl⟩⟩; refine ⟨_, rfl, ?_⟩) | (go_at_call 32; (with_reducible refine (shape_Cut.calls a0 t702 t709 _ A24.out).mono ?_); rintro e w' ⟨rfl, ⟨nd, rfl⟩⟩))
       go_meet
       case rel => exact ⟨_, ((t702 != t709)), sm_, H', ⟨by have := HJ5.out; first | omega | exact Nat.le_refl _⟩, ⟨by (with_reducible repeat (first | refine blk_drewN ?_ _ | refine blk_drew ?_ | refine blk_alloc ?_ _)); refine blk_put (cs := #[.bool t703, .int .i64 t704, .int .i64 t705, .int .u64 0]) ?_ 3 _ rfl; (with_reducible repeat (first | refine blk_drewN ?_ _ | refine blk_drew ?_ | refine blk_alloc ?_ _)); refine blk_put (cs := #[.bool t703, .int .i64 t704, .int .i64 0, .int .u64 0]) ?_ 2 _ rfl; (with_reducible repeat (first | refine blk_drewN ?_ _ | refine blk_drew ?_ | refine blk_alloc ?_ _)); refine blk_put (cs := #[.bool t703, .int .i64 0, .int .i64 0, .int .u64 0]) ?_ 1 _ rfl; (with_reducible repeat (first | refine blk_drewN ?_ _ | refine blk_drew ?_ | refine blk_alloc ?_ _)); refine blk_put (cs := #[.bool false, .int .i64 0, .int .i64 0, .int .u64 0]) ?_ 0 _ rfl; (with_reducible repeat (first | refine blk_drewN ?_ _ | refine blk_drew ?_ | refine blk_alloc ?_ _)); exact BK707.out⟩, ⟨hb1_ HB.out GE707.out⟩⟩
      ·rw [if_neg c23] at H
       have c23b0 : (t700 == t708) = false := beq_eq_false_iff_ne.mpr c23
       have c23b1 : (t700 != t708) = true := bne_iff_ne.mpr c23
       (first | rw [c23b0] | (simp only [i64_w, i32_w]; rw [c23b0]) | skip)
       have H' := A_ H
       clear H
       go_wp2_with (first | ((with_reducible refine gate_callee (f := 23) rfl ?_); refine gl_ (some 34) Try.func23 #[.int .i64 a0] ?_; (with_reducible refine (r5_One.calls kj5 a0 t708 _ A22.out).mono ?_); rintro e w' ⟨rfl, ⟨nd, rfl⟩⟩; refine ⟨_, rfl, ?_⟩))
       go_meet
       case rel => exact ⟨_, (true), sm_, H', ⟨by have := HJ5.out; first | omega | exact Nat.le_refl _⟩, ⟨by (with_reducible repeat (first | refine blk_drewN ?_ _ | refine blk_drew ?_ | refine blk_alloc ?_ _)); refine blk_put (cs := #[.bool t703, .int .i64 t704, .int .i64 t705, .int .u64 0]) ?_ 3 _ rfl; (with_reducible repeat (first | refine blk_drewN ?_ _ | refine blk_drew ?_ | refine blk_alloc ?_ _)); refine blk_put (cs := #[.bool t703, .int .i64 t704, .int .i64 0, .int .u64 0]) ?_ 2 _ rfl; (with_reducible repeat (first | refine blk_drewN ?_ _ | refine blk_drew ?_ | refine blk_alloc ?_ _)); refine blk_put (cs := #[.bool t703, .int .i64 0, .int .i64 0, .int .u64 0]) ?_ 1 _ rfl; (with_reducible repeat (first | refine blk_drewN ?_ _ | refine blk_drew ?_ | refine blk_alloc ?_ _)); refine blk_put (cs := #[.bool false, .int .i64 0, .int .i64 0, .int .u64 0]) ?_ 0 _ rfl; (with_reducible repeat (first | refine blk_drewN ?_ _ | refine blk_drew ?_ | refine blk_alloc ?_ _)); exact BK707.out⟩, ⟨hb1_ HB.out GE707.out⟩⟩
     case rest =>
      clear HC15
      try clear c2
      try clear p2
      try clear c3
      try clear c5
      try clear c6
      try clear c8
      try clear c8b0
      try clear c8b1
      try clear c9
      try clear c23
      try clear c23b0
      try clear c23b1
      try clear hcz21_0
      try clear hcz21_1
      try clear hcz21_2
      try clear hcz21_3
      try clear hfz21_0
      try clear hfz21_1
      try clear hfz21_2
      try clear hfz21_3
      try clear p2
      obtain ⟨kq, x42_14, rfl, HA, HJ14, BK707, HB⟩ := hcut
      cases kq with
      | zero => exact absurd HA.out (by simp [L06_QuotientKeeps.j1])
      | succ kj14 =>
       have H := HA.out
       clear HA
       simp only [L06_QuotientKeeps.j1] at H
       by_cases c25 : x42_14 = true
       ·subst c25
        have H1 : (some false) = some r := by rw [if_pos rfl] at H; exact H
        clear H;have H := H1;clear H1
        exact absurd ((Option.some.inj H).trans hr_.out) (by decide)
       ·replace c25 := Bool.eq_false_iff.mpr c25
        subst c25
        have H1 : ((shape_IsNan.f kj14 a0 t702).bind fun t710 => (if t710 = true then ((shape_Nan.f a0).bind fun t711 => (if t702 = t711 then ((quotient_Div.f kj14 a0 (Go.bits .xor .u64 a1 t701) a2).bind fun t712 => (some (t712 == t702))) else (some false))) else ((quotient_Div.f kj14 a0 (Go.bits .xor .u64 a1 t701) a2).bind fun t713 => (if t713 = (Go.bits .xor .u64 t702 t701) then ((quotient_Div.f kj14 a0 a1 (Go.bits .xor .u64 a2 t701)).bind fun t714 => (if t714 = (Go.bits .xor .u64 t702 t701) then ((quotient_Div.f kj14 a0 a1 t700).bind fun t715 => ((shape_Cut.f a0 a1).bind fun t716 => (if t715 = t716 then (if t704 = 1 then ((quotient_Div.f kj14 a0 a1 a1).bind fun t717 => (some (t717 == t700))) else (some true)) else (some false)))) else (some false))) else (some false))))) = some r := by rw [if_neg (show ¬ (false = true) by decide)] at H; exact H
        clear H;have H := H1;clear H1
        replace H := ob_ H
        obtain ⟨t710, A260, H⟩ := H
        replace H : (if t710 = true then ((shape_Nan.f a0).bind fun t711 => (if t702 = t711 then ((quotient_Div.f kj14 a0 (Go.bits .xor .u64 a1 t701) a2).bind fun t712 => (some (t712 == t702))) else (some false))) else ((quotient_Div.f kj14 a0 (Go.bits .xor .u64 a1 t701) a2).bind fun t713 => (if t713 = (Go.bits .xor .u64 t702 t701) then ((quotient_Div.f kj14 a0 a1 (Go.bits .xor .u64 a2 t701)).bind fun t714 => (if t714 = (Go.bits .xor .u64 t702 t701) then ((quotient_Div.f kj14 a0 a1 t700).bind fun t715 => ((shape_Cut.f a0 a1).bind fun t716 => (if t715 = t716 then (if t704 = 1 then ((quotient_Div.f kj14 a0 a1 a1).bind fun t717 => (some (t717 == t700))) else (some true)) else (some false)))) else (some false))) else (some false)))) = some r := H
        have A26 := A_ A260;clear A260
        by_cases c27 : t710 = true
        ·subst c27
         have H1 : ((shape_Nan.f a0).bind fun t711 => (if t702 = t711 then ((quotient_Div.f kj14 a0 (Go.bits .xor .u64 a1 t701) a2).bind fun t712 => (some (t712 == t702))) else (some false))) = some r := by rw [if_pos rfl] at H; exact H
         clear H;have H := H1;clear H1
         replace H := ob_ H
         obtain ⟨t711, A280, H⟩ := H
         replace H : (if t702 = t711 then ((quotient_Div.f kj14 a0 (Go.bits .xor .u64 a1 t701) a2).bind fun t712 => (some (t712 == t702))) else (some false)) = some r := H
         have A28 := A_ A280;clear A280
         by_cases c29 : t702 = t711
         ·rw [if_pos c29] at H
          have c29b0 : (t702 == t711) = true := beq_iff_eq.mpr c29
          have c29b1 : (t702 != t711) = false := bne_eq_false_iff_eq.mpr c29
          clear c29
          replace H := ob_ H
          obtain ⟨t712, A300, H⟩ := H
          replace H : (some (t712 == t702)) = some r := H
          have A30 := A_ A300;clear A300
          obtain rfl := Option.some.inj H
          go_wp2_with (first | ((with_reducible refine gate_callee (f := 33) rfl ?_); refine gl_ (some 45) Try.func33 #[.int .i64 a0, .int .u64 t702] ?_; (with_reducible refine (shape_IsNan.calls kj14 a0 t702 true _ A26.out).mono ?_); rintro e w31 ⟨rfl, hb⟩; refine ⟨_, rfl, ?_⟩; have n0_ := A_ (bb_ BK707.out hb); have n1_ := A_ (below_step (hb1_ HB.out GE707.out) hb); clear BK707; clear HB; have BK707 := n0_; have HB := n1_; clear n0_ n1_; (try clear hb); (try clear hb2); (try clear hk); (try clear hi)) | ((with_reducible refine gate_callee (f := 34) rfl ?_); refine gl_ (some 48) Try.func34 #[.int .i64 a0] ?_; (with_reducible refine (shape_Nan.calls a0 t711 _ A28.out).mono ?_); rintro e w32 ⟨rfl, hb⟩; refine ⟨_, rfl, ?_⟩; have n0_ := A_ (bb_ BK707.out hb); have n1_ := A_ (below_step (hb1_ HB.out GE707.out) hb); clear BK707; clear HB; have BK707 := n0_; have HB := n1_; clear n0_ n1_; (try clear hb); (try clear hb2); (try clear hk); (try clear hi)) | (go_at_call 27; (with_reducible refine (quotient_Div.calls kj14 a0 (Go.bits .xor .u64 a1 t701) a2 t712 _ A30.out).mono ?_); rintro e w33 ⟨rfl, hb⟩; have n0_ := A_ (bb_ BK707.out hb); have n1_ := A_ (below_step (hb1_ HB.out GE707.out) hb); clear BK707; clear HB; have BK707 := n0_; have HB := n1_; clear n0_ n1_; (try clear hb); (try clear hb2); (try clear hk); (try clear hi)))
          go_ret
          exact ⟨er_, hb1_ HB.out GE707.out⟩
         ·rw [if_neg c29] at H
          have c29b0 : (t702 == t711) = false := beq_eq_false_iff_ne.mpr c29
          have c29b1 : (t702 != t711) = true := bne_iff_ne.mpr c29
          exact absurd ((Option.some.inj H).trans hr_.out) (by decide)
        ·replace c27 := Bool.eq_false_iff.mpr c27
         subst c27
         have H1 : ((quotient_Div.f kj14 a0 (Go.bits .xor .u64 a1 t701) a2).bind fun t713 => (if t713 = (Go.bits .xor .u64 t702 t701) then ((quotient_Div.f kj14 a0 a1 (Go.bits .xor .u64 a2 t701)).bind fun t714 => (if t714 = (Go.bits .xor .u64 t702 t701) then ((quotient_Div.f kj14 a0 a1 t700).bind fun t715 => ((shape_Cut.f a0 a1).bind fun t716 => (if t715 = t716 then (if t704 = 1 then ((quotient_Div.f kj14 a0 a1 a1).bind fun t717 => (some (t717 == t700))) else (some true)) else (some false)))) else (some false))) else (some false))) = some r := by rw [if_neg (show ¬ (false = true) by decide)] at H; exact H
         clear H;have H := H1;clear H1
         replace H := ob_ H
         obtain ⟨t713, A340, H⟩ := H
         replace H : (if t713 = (Go.bits .xor .u64 t702 t701) then ((quotient_Div.f kj14 a0 a1 (Go.bits .xor .u64 a2 t701)).bind fun t714 => (if t714 = (Go.bits .xor .u64 t702 t701) then ((quotient_Div.f kj14 a0 a1 t700).bind fun t715 => ((shape_Cut.f a0 a1).bind fun t716 => (if t715 = t716 then (if t704 = 1 then ((quotient_Div.f kj14 a0 a1 a1).bind fun t717 => (some (t717 == t700))) else (some true)) else (some false)))) else (some false))) else (some false)) = some r := H
         have A34 := A_ A340;clear A340
         by_cases c35 : t713 = (Go.bits .xor .u64 t702 t701)
         ·rw [if_pos c35] at H
          have c35b0 : (t713 == (Go.bits .xor .u64 t702 t701)) = true := beq_iff_eq.mpr c35
          have c35b1 : (t713 != (Go.bits .xor .u64 t702 t701)) = false := bne_eq_false_iff_eq.mpr c35
          clear c35
          replace H := ob_ H
          obtain ⟨t714, A360, H⟩ := H
          replace H : (if t714 = (Go.bits .xor .u64 t702 t701) then ((quotient_Div.f kj14 a0 a1 t700).bind fun t715 => ((shape_Cut.f a0 a1).bind fun t716 => (if t715 = t716 then (if t704 = 1 then ((quotient_Div.f kj14 a0 a1 a1).bind fun t717 => (some (t717 == t700))) else (some true)) else (some false)))) else (some false)) = some r := H
          have A36 := A_ A360;clear A360
          by_cases c37 : t714 = (Go.bits .xor .u64 t702 t701)
          ·rw [if_pos c37] at H
           have c37b0 : (t714 == (Go.bits .xor .u64 t702 t701)) = true := beq_iff_eq.mpr c37
           have c37b1 : (t714 != (Go.bits .xor .u64 t702 t701)) = false := bne_eq_false_iff_eq.mpr c37
           clear c37
           replace H := ob_ H
           obtain ⟨t715, A380, H⟩ := H
           replace H : ((shape_Cut.f a0 a1).bind fun t716 => (if t715 = t716 then (if t704 = 1 then ((quotient_Div.f kj14 a0 a1 a1).bind fun t717 => (some (t717 == t700))) else (some true)) else (some false))) = some r := H
           have A38 := A_ A380;clear A380
           replace H := ob_ H
           obtain ⟨t716, A390, H⟩ := H
           replace H : (if t715 = t716 then (if t704 = 1 then ((quotient_Div.f kj14 a0 a1 a1).bind fun t717 => (some (t717 == t700))) else (some true)) else (some false)) = some r := H
           have A39 := A_ A390;clear A390
           by_cases c40 : t715 = t716
           ·rw [if_pos c40] at H
            have c40b0 : (t715 == t716) = true := beq_iff_eq.mpr c40
            have c40b1 : (t715 != t716) = false := bne_eq_false_iff_eq.mpr c40
            clear c40
            by_cases c41 : t704 = 1
            ·rw [if_pos c41] at H
             have c41b0 : (t704 == 1) = true := beq_iff_eq.mpr c41
             have c41b1 : (t704 != 1) = false := bne_eq_false_iff_eq.mpr c41
             clear c41
             replace H := ob_ H
             obtain ⟨t717, A420, H⟩ := H
             replace H : (some (t717 == t700)) = some r := H
             have A42 := A_ A420;clear A420
             obtain rfl := Option.some.inj H
             go_wp2_with (first | ((with_reducible refine gate_callee (f := 33) rfl ?_); refine gl_ (some 45) Try.func33 #[.int .i64 a0, .int .u64 t702] ?_; (with_reducible refine (shape_IsNan.calls kj14 a0 t702 false _ A26.out).mono ?_); rintro e w43 ⟨rfl, hb⟩; refine ⟨_, rfl, ?_⟩; have n0_ := A_ (bb_ BK707.out hb); have n1_ := A_ (below_step (hb1_ HB.out GE707.out) hb); clear BK707; clear HB; have BK707 := n0_; have HB := n1_; clear n0_ n1_; (try clear hb); (try clear hb2); (try clear hk); (try clear hi)) | ((with_reducible refine gate_callee (f := 27) rfl ?_); refine gl_ (some 65) Try.func27 #[.int .i64 a0, .int .u64 (Go.bits .xor .u64 a1 t701), .int .u64 a2] ?_; (with_reducible refine (quotient_Div.calls kj14 a0 (Go.bits .xor .u64 a1 t701) a2 t713 _ A34.out).mono ?_); rintro e w44 ⟨rfl, hb⟩; refine ⟨_, rfl, ?_⟩; have n0_ := A_ (bb_ BK707.out hb); have n1_ := A_ (below_step (hb1_ HB.out GE707.out) hb); clear BK707; clear HB; have BK707 := n0_; have HB := n1_; clear n0_ n1_; (try clear hb); (try clear hb2); (try clear hk); (try clear hi)) | (go_at_call 27; (with_reducible refine (quotient_Div.calls kj14 a0 a1 (Go.bits .xor .u64 a2 t701) t714 _ A36.out).mono ?_); rintro e w45 ⟨rfl, hb⟩; have n0_ := A_ (bb_ BK707.out hb); have n1_ := A_ (below_step (hb1_ HB.out GE707.out) hb); clear BK707; clear HB; have BK707 := n0_; have HB := n1_; clear n0_ n1_; (try clear hb); (try clear hb2); (try clear hk); (try clear hi)) | (go_at_call 27; (with_reducible refine (quotient_Div.calls kj14 a0 a1 t700 t715 _ A38.out).mono ?_); rintro e w46 ⟨rfl, hb⟩; have n0_ := A_ (bb_ BK707.out hb); have n1_ := A_ (below_step (hb1_ HB.out GE707.out) hb); clear BK707; clear HB; have BK707 := n0_; have HB := n1_; clear n0_ n1_; (try clear hb); (try clear hb2); (try clear hk); (try clear hi)) | (go_at_call 32; (with_reducible refine (shape_Cut.calls a0 a1 t716 _ A39.out).mono ?_); rintro e w' ⟨rfl, ⟨nd, rfl⟩⟩; have hcz47_0 : w46.cell? ⟨gb707, 0, none⟩ = some (.bool t703) := bc_ BK707.out 0; have hcz47_1 : w46.cell? ⟨gb707, 1, none⟩ = some (.int .i64 t704) := bc_ BK707.out 1; have hcz47_2 : w46.cell? ⟨gb707, 2, none⟩ = some (.int .i64 t705) := bc_ BK707.out 2; have hcz47_3 : w46.cell? ⟨gb707, 3, none⟩ = some (.int .u64 t706) := bc_ BK707.out 3; have hfz47_0 := blk_frozen BK707.out 0; have hfz47_1 := blk_frozen BK707.out 1; have hfz47_2 := blk_frozen BK707.out 2; have hfz47_3 := blk_frozen BK707.out 3) | (go_at_call 27; (with_reducible refine (quotient_Div.calls kj14 a0 a1 a1 t717 _ A42.out).mono ?_); rintro e w48 ⟨rfl, hb⟩; have n0_ := A_ (bb_ BK707.out hb); have n1_ := A_ (below_step (hb1_ HB.out GE707.out) hb); clear BK707; clear HB; have BK707 := n0_; have HB := n1_; clear n0_ n1_; (try clear hb); (try clear hb2); (try clear hk); (try clear hi)))
             go_ret
             exact ⟨er_, hb1_ HB.out GE707.out⟩
            ·rw [if_neg c41] at H
             have c41b0 : (t704 == 1) = false := beq_eq_false_iff_ne.mpr c41
             have c41b1 : (t704 != 1) = true := bne_iff_ne.mpr c41
             obtain rfl := Option.some.inj H
             go_wp2_with (first | ((with_reducible refine gate_callee (f := 33) rfl ?_); refine gl_ (some 45) Try.func33 #[.int .i64 a0, .int .u64 t702] ?_; (with_reducible refine (shape_IsNan.calls kj14 a0 t702 false _ A26.out).mono ?_); rintro e w49 ⟨rfl, hb⟩; refine ⟨_, rfl, ?_⟩; have n0_ := A_ (bb_ BK707.out hb); have n1_ := A_ (below_step (hb1_ HB.out GE707.out) hb); clear BK707; clear HB; have BK707 := n0_; have HB := n1_; clear n0_ n1_; (try clear hb); (try clear hb2); (try clear hk); (try clear hi)) | ((with_reducible refine gate_callee (f := 27) rfl ?_); refine gl_ (some 65) Try.func27 #[.int .i64 a0, .int .u64 (Go.bits .xor .u64 a1 t701), .int .u64 a2] ?_; (with_reducible refine (quotient_Div.calls kj14 a0 (Go.bits .xor .u64 a1 t701) a2 t713 _ A34.out).mono ?_); rintro e w50 ⟨rfl, hb⟩; refine ⟨_, rfl, ?_⟩; have n0_ := A_ (bb_ BK707.out hb); have n1_ := A_ (below_step (hb1_ HB.out GE707.out) hb); clear BK707; clear HB; have BK707 := n0_; have HB := n1_; clear n0_ n1_; (try clear hb); (try clear hb2); (try clear hk); (try clear hi)) | (go_at_call 27; (with_reducible refine (quotient_Div.calls kj14 a0 a1 (Go.bits .xor .u64 a2 t701) t714 _ A36.out).mono ?_); rintro e w51 ⟨rfl, hb⟩; have n0_ := A_ (bb_ BK707.out hb); have n1_ := A_ (below_step (hb1_ HB.out GE707.out) hb); clear BK707; clear HB; have BK707 := n0_; have HB := n1_; clear n0_ n1_; (try clear hb); (try clear hb2); (try clear hk); (try clear hi)) | (go_at_call 27; (with_reducible refine (quotient_Div.calls kj14 a0 a1 t700 t715 _ A38.out).mono ?_); rintro e w52 ⟨rfl, hb⟩; have n0_ := A_ (bb_ BK707.out hb); have n1_ := A_ (below_step (hb1_ HB.out GE707.out) hb); clear BK707; clear HB; have BK707 := n0_; have HB := n1_; clear n0_ n1_; (try clear hb); (try clear hb2); (try clear hk); (try clear hi)) | (go_at_call 32; (with_reducible refine (shape_Cut.calls a0 a1 t716 _ A39.out).mono ?_); rintro e w' ⟨rfl, ⟨nd, rfl⟩⟩; have hcz53_0 : w52.cell? ⟨gb707, 0, none⟩ = some (.bool t703) := bc_ BK707.out 0; have hcz53_1 : w52.cell? ⟨gb707, 1, none⟩ = some (.int .i64 t704) := bc_ BK707.out 1; have hcz53_2 : w52.cell? ⟨gb707, 2, none⟩ = some (.int .i64 t705) := bc_ BK707.out 2; have hcz53_3 : w52.cell? ⟨gb707, 3, none⟩ = some (.int .u64 t706) := bc_ BK707.out 3; have hfz53_0 := blk_frozen BK707.out 0; have hfz53_1 := blk_frozen BK707.out 1; have hfz53_2 := blk_frozen BK707.out 2; have hfz53_3 := blk_frozen BK707.out 3))
             go_ret
             exact ⟨er_, hb1_ HB.out GE707.out⟩
           ·rw [if_neg c40] at H
            have c40b0 : (t715 == t716) = false := beq_eq_false_iff_ne.mpr c40
            have c40b1 : (t715 != t716) = true := bne_iff_ne.mpr c40
            exact absurd ((Option.some.inj H).trans hr_.out) (by decide)
          ·rw [if_neg c37] at H
           have c37b0 : (t714 == (Go.bits .xor .u64 t702 t701)) = false := beq_eq_false_iff_ne.mpr c37
           have c37b1 : (t714 != (Go.bits .xor .u64 t702 t701)) = true := bne_iff_ne.mpr c37
           exact absurd ((Option.some.inj H).trans hr_.out) (by decide)
         ·rw [if_neg c35] at H
          have c35b0 : (t713 == (Go.bits .xor .u64 t702 t701)) = false := beq_eq_false_iff_ne.mpr c35
          have c35b1 : (t713 != (Go.bits .xor .u64 t702 t701)) = true := bne_iff_ne.mpr c35
          exact absurd ((Option.some.inj H).trans hr_.out) (by decide)
 ·replace c5 := Bool.eq_false_iff.mpr c5
  subst c5
  have H1 : (some false) = some r := by rw [if_neg (show ¬ (false = true) by decide)] at H; exact H
  clear H;have H := H1;clear H1
  exact absurd ((Option.some.inj H).trans hr_.out) (by decide)
def L06_QuotientKeeps.Pure : Prop := ∀ (a0 : Int) (a1 : Int) (a2 : Int), (Lit.int .i64 a0).wf = true → (Lit.int .u64 a1).wf = true → (Lit.int .u64 a2).wf = true → ∃ k, L06_QuotientKeeps.f k a0 a1 a2 = some true
theorem L06_QuotientKeeps.walk (P : L06_QuotientKeeps.Pure) (a0 : Int) (a1 : Int) (a2 : Int) (w : World) (w0 : (Lit.int .i64 a0).wf = true) (w1 : (Lit.int .u64 a1).wf = true) (w2 : (Lit.int .u64 a2).wf = true) :
  Calls Try.prog 6 #[.int .i64 a0, .int .u64 a1, .int .u64 a2] w fun e w' => e = .returned (.bool true) ∧ Below w.heap.size w w' := by
 obtain ⟨k, h⟩ := P a0 a1 a2 w0 w1 w2
 refine (L06_QuotientKeeps.calls k a0 a1 a2 true w h ⟨rfl⟩).mono ?_
 rintro e w' ⟨rfl, hd⟩
 exact ⟨rfl, hd⟩
end Go.Proofs.Ytbpmnmceajmmcaa.PA
section
set_option linter.unusedVariables false
set_option linter.unusedSimpArgs false
namespace Go.Proofs.Ytbpmnmceajmmcaa.Th
open Go.RowKit Go.Proofs.YtbpmnmceajmmcaaW.PrintWords Go.Proofs.YtbpmnmceajmmcaaW.PrintLast Go.Proofs.YtbpmnmceajmmcaaW.PrintMore Go.Proofs.Ytbpmnmceajmmcaa.PA Bit Flo
theorem opn_mk (w : Int) (hw : w = 32 ∨ w = 64) (m : Nat) (s : Bool) (h : m < sb w) : opn w (mkN w m s) = if m = 0 then (s, 0, 0, 0) else if m < (fmt w).inf then (s, 1, (fmt w).ex m, ((fmt w).sg m : Int)) else if m = (fmt w).inf then (s, 2, 0, 0) else (false, 3, 0, 0) := by
  unfold opn; simp only [sg_mk w hw m s h, mag_mk w hw m s h]
theorem cut_mk (w : Int) (hw : w = 32 ∨ w = 64) (m : Nat) (s : Bool) (h : m < sb w) : cutN w (mkN w m s) = mkN w m s := by
  rw [cutN_eq w hw _ (mkN_lt w hw m s h), sg_mk w hw m s h, mag_mk w hw m s h]; rfl
theorem cut_as_mk (w : Int) (hw : w = 32 ∨ w = 64) (a : Nat) (ha : a < 18446744073709551616) : cutN w a = mkN w (magN w a) (sgB w a) := by
  rw [cutN_eq w hw a ha]; rfl
end Go.Proofs.Ytbpmnmceajmmcaa.Th
end
section
set_option linter.unusedVariables false
set_option linter.unusedSimpArgs false
namespace Go.Proofs.Ytbpmnmceajmmcaa.Th
open Go.RowKit Go.Proofs.YtbpmnmceajmmcaaW.PrintWords Go.Proofs.YtbpmnmceajmmcaaW.PrintLast Go.Proofs.YtbpmnmceajmmcaaW.PrintMore Go.Proofs.Ytbpmnmceajmmcaa.PA Bit Flo Dig
theorem inf_pos (w : Int) (hw : w = 32 ∨ w = 64) : 0 < (fmt w).inf := by rcases hw with rfl | rfl <;> decide
theorem kinds (w : Int) (hw : w = 32 ∨ w = 64) (a : Nat) : (magN w a = 0 ∧ opn w a = (sgB w a, 0, 0, 0)) ∨ (0 < magN w a ∧ magN w a < (fmt w).inf ∧ opn w a = (sgB w a, 1, (fmt w).ex (magN w a), ((fmt w).sg (magN w a) : Int))) ∨ (magN w a = (fmt w).inf ∧ opn w a = (sgB w a, 2, 0, 0)) ∨ ((fmt w).inf < magN w a ∧ opn w a = (false, 3, 0, 0)) := by
  have h0 := inf_pos w hw
  unfold opn; simp only
  by_cases h1 : magN w a = 0
  · left; rw [if_pos h1]; exact ⟨h1, rfl⟩
  · right; rw [if_neg h1]
    by_cases h2 : magN w a < (fmt w).inf
    · left; rw [if_pos h2]; exact ⟨by omega, h2, rfl⟩
    · right; rw [if_neg h2]
      by_cases h3 : magN w a = (fmt w).inf
      · left; rw [if_pos h3]; exact ⟨h3, rfl⟩
      · right; rw [if_neg h3]; exact ⟨by omega, rfl⟩
theorem ex_bd (w : Int) (hw : w = 32 ∨ w = 64) (m : Nat) (h : m < (fmt w).inf) : -1074 ≤ (fmt w).ex m ∧ (fmt w).ex m ≤ 971 := by
  rcases hw with rfl | rfl
  · rw [fmt32, inf32] at h; rw [fmt32, ex32]; split <;> omega
  · rw [fmt64, inf64] at h; rw [fmt64, ex64]; split <;> omega
theorem sg_64 (w : Int) (hw : w = 32 ∨ w = 64) (m : Nat) : (fmt w).sg m < 9007199254740992 := by
  have h := (fmt w).sg_lt m
  rcases hw with rfl | rfl
  · rw [fmt32] at h ⊢; rw [show (2 : Nat) ^ (f32.f + 1) = 16777216 by decide] at h; omega
  · rw [fmt64] at h ⊢; rw [show (2 : Nat) ^ (f64.f + 1) = 9007199254740992 by decide] at h; omega
end Go.Proofs.Ytbpmnmceajmmcaa.Th
end
section
set_option linter.unusedVariables false
set_option linter.unusedSimpArgs false
namespace Go.Proofs.Ytbpmnmceajmmcaa.Th
open Flo
theorem fmt_bd (w : Int) : (fmt w).f < 100 ∧ (-5000 < (fmt w).low ∧ (fmt w).low < 0) ∧ (fmt w).top < 5000 := by
  unfold fmt; split <;> decide
theorem fmt_f (w : Int) : (fmt w).f ≤ 52 := by unfold fmt; split <;> decide
theorem pk_ex (w : Int) (S : Nat) (e : Int) (hS : S < 340282366920938463463374607431768211456) : pkm (fmt w) S e false = (fmt w).rnd ((S : Rat) * tw e) := by
  have h := fmt_bd w
  rw [← pkx_f, pkm_rnd _ h.1 h.2.1 h.2.2 S e false hS]
theorem pk_mo (w : Int) {x : Rat} {S : Nat} {e : Int} (hS : S < 340282366920938463463374607431768211456) (h0 : 9007199254740992 ≤ S) (h1 : (S : Rat) * tw e < x) (h2 : x < ((S + 1 : Nat) : Rat) * tw e) : pkm (fmt w) S e true = (fmt w).rnd x := by
  have h := fmt_bd w
  have h3 : 2 ^ ((fmt w).f + 1) ≤ S := by
    have : 2 ^ ((fmt w).f + 1) ≤ 2 ^ 53 := Nat.pow_le_pow_right (by decide) (by have := fmt_f w; omega)
    rw [show (2 : Nat) ^ 53 = 9007199254740992 by decide] at this
    omega
  rw [rnd_more _ h1 h2 h3, pkm_rnd _ h.1 h.2.1 h.2.2 S e true hS]
abbrev Pt := Bool × Int × Int × Int
noncomputable def pv (p : Pt) : Rat := if p.2.1 = 1 then (if p.1 then -((p.2.2.2.toNat : Rat) * tw p.2.2.1) else (p.2.2.2.toNat : Rat) * tw p.2.2.1) else 0
noncomputable def fx (w : Int) (s : Rat) (z : Bool) : Nat := if s = 0 then mkN w 0 z else if s < 0 then mkN w ((fmt w).rnd (-s)) true else mkN w ((fmt w).rnd s) false
noncomputable def divP (w : Int) (p q : Pt) : Nat :=
  if p.2.1 = 3 ∨ q.2.1 = 3 ∨ p.2.1 = 2 ∧ q.2.1 = 2 ∨ p.2.1 = 0 ∧ q.2.1 = 0 then nanN w else if p.2.1 = 2 ∨ q.2.1 = 0 then mkN w (fmt w).inf (p.1 != q.1)
  else if p.2.1 = 0 ∨ q.2.1 = 2 then mkN w 0 (p.1 != q.1) else fx w (pv p / pv q) (p.1 != q.1)
theorem fx_pos (w : Int) {s : Rat} (h : 0 < s) (z : Bool) : fx w s z = mkN w ((fmt w).rnd s) false := by
  unfold fx; rw [if_neg (by grind), if_neg (by grind)]
theorem fx_neg (w : Int) {s : Rat} (h : 0 < s) (z : Bool) : fx w (-s) z = mkN w ((fmt w).rnd s) true := by
  unfold fx; rw [if_neg (by grind), if_pos (by grind), Rat.neg_neg]
theorem fx_zero (w : Int) (z : Bool) : fx w 0 z = mkN w 0 z := by unfold fx; rw [if_pos rfl]
theorem fx_sg (w : Int) {s : Rat} (h : 0 < s) (n z : Bool) : fx w (if n then -s else s) z = mkN w ((fmt w).rnd s) n := by
  cases n
  · exact fx_pos w h z
  · exact fx_neg w h z
end Go.Proofs.Ytbpmnmceajmmcaa.Th
end
namespace Go.Proofs.Ytbpmnmceajmmcaa.PA
open Go.RowKit Go.Proofs.YtbpmnmceajmmcaaW.PrintWords Go.Proofs.YtbpmnmceajmmcaaW.PrintLast Go.Proofs.YtbpmnmceajmmcaaW.PrintMore
attribute [local go_sem] max2_int min2_int max_two min_two max_three min_three max_four min_four   -- for this text's walks alone
set_option linter.unusedVariables false
set_option linter.unusedSimpArgs false
set_option maxHeartbeats 8000000
set_option maxRecDepth 100000
def r1_Div.l0 : Nat → Int → List Int → List Int → List Int → Option (List Int × List Int)
 | 0, _, _, _, _ => none
 | k + 1, x8, x426000, x429000, x430000 => if x8 ≥ 0 then ((r1_Shl.f k x426000 x8).bind fun t432 => ((r1_Cmp.f k x430000 t432).bind fun t436 => (if t436 ≥ 0 then ((r1_Sub.f k x430000 t432).bind fun t437 => ((r1_Of.f k 1).bind fun t440 => ((r1_Shl.f k t440 x8).bind fun t443 => ((r1_Add.f k x429000 t443).bind fun t446 => (r1_Div.l0 k (wrap64 (x8 - 1)) x426000 t446 t437))))) else (r1_Div.l0 k (wrap64 (x8 - 1)) x426000 x429000 x430000)))) else (some (x429000, x430000))
def r1_Div.f (k : Nat) (l0_0 : List Int) (l1_0 : List Int) : Option (List Int × List Int) := (r1_Len.f k l0_0).bind fun t430 => ((r1_Len.f k l1_0).bind fun t431 => (r1_Div.l0 k (wrap64 (t430 - t431)) l1_0 ([] : List Int) l0_0))
theorem r1_Div.mono_l : ∀ k, (∀ y0 y1 y2 y3, LeO (r1_Div.l0 k y0 y1 y2 y3) (r1_Div.l0 (k + 1) y0 y1 y2 y3))
 | 0 => fun _ _ _ _ r h => by simp [r1_Div.l0] at h
 | k + 1 => by
  have ih0 := r1_Div.mono_l k
  ·intro y0 y1 y2 y3
   unfold r1_Div.l0
   repeat' first
   | (with_reducible exact ih0 _ _ _ _)
   | (with_reducible exact r1_Add.mono _ _ _)
   | (with_reducible exact r1_Cmp.mono _ _ _)
   | (with_reducible exact r1_Len.mono _ _)
   | (with_reducible exact r1_Of.mono _ _)
   | (with_reducible exact r1_Shl.mono _ _ _)
   | (with_reducible exact r1_Sub.mono _ _ _)
   | (with_reducible exact LeO.refl _)
   | (with_reducible exact LeO.none _)
   | (with_reducible refine LeO.ite ?_ ?_)
   | (with_reducible refine LeO.bind ?_ (fun _ => ?_))
   | exact ih0 _ _ _ _
   | exact r1_Add.mono _ _ _
   | exact r1_Cmp.mono _ _ _
   | exact r1_Len.mono _ _
   | exact r1_Of.mono _ _
   | exact r1_Shl.mono _ _ _
   | exact r1_Sub.mono _ _ _
   | exact LeO.none _
   | refine LeO.ite ?_ ?_
   | refine LeO.bind ?_ (fun _ => ?_)
theorem r1_Div.mono : ∀ a0 a1 k, LeO (r1_Div.f k a0 a1) (r1_Div.f (k + 1) a0 a1) := by
 intro a0 a1 k
 have ih0 := r1_Div.mono_l k
 unfold r1_Div.f
 repeat' first
   | (with_reducible exact ih0 _ _ _ _)
   | (with_reducible exact r1_Add.mono _ _ _)
   | (with_reducible exact r1_Cmp.mono _ _ _)
   | (with_reducible exact r1_Len.mono _ _)
   | (with_reducible exact r1_Of.mono _ _)
   | (with_reducible exact r1_Shl.mono _ _ _)
   | (with_reducible exact r1_Sub.mono _ _ _)
   | (with_reducible exact LeO.refl _)
   | (with_reducible exact LeO.none _)
   | (with_reducible refine LeO.ite ?_ ?_)
   | (with_reducible refine LeO.bind ?_ (fun _ => ?_))
   | exact ih0 _ _ _ _
   | exact r1_Add.mono _ _ _
   | exact r1_Cmp.mono _ _ _
   | exact r1_Len.mono _ _
   | exact r1_Of.mono _ _
   | exact r1_Shl.mono _ _ _
   | exact r1_Sub.mono _ _ _
   | exact LeO.none _
   | refine LeO.ite ?_ ?_
   | refine LeO.bind ?_ (fun _ => ?_)
-- IMPORT Derived.Deep.RegionHeld3
-- IMPORT Derived.Test.YtbpmnmceajmmcaaNr
theorem Nr.len (k : Nat) (v : Value) (l : List Int) (r : Int) (w : World) (n : Nr.Nr w v l) (h : r1_Len.f k l = some r) : Calls Try.prog 96 #[.agg #[v]] w fun e w' => e = .returned (.int .i64 r) ∧ Below w.heap.size w w' := by
 obtain ⟨A, c, rfl, hc, hC⟩ := n
 exact r1_Len.calls k A c l r w hC hc h
theorem Nr.cmp (k : Nat) (v v1 : Value) (l l1 : List Int) (r : Int) (w : World) (n : Nr.Nr w v l) (n1 : Nr.Nr w v1 l1) (h : r1_Cmp.f k l l1 = some r) : Calls Try.prog 113 #[.agg #[v], .agg #[v1]] w fun e w' => e = .returned (.int .i64 r) ∧ Below w.heap.size w w' := by
 obtain ⟨A, c, rfl, hc, hC⟩ := n
 obtain ⟨A1, c1, rfl, hc1, hC1⟩ := n1
 exact r1_Cmp.calls k A c l A1 c1 l1 r w hC hc hC1 hc1 h
theorem Nr.outR {f : Nat} {xs : Array Value} {w : World} {r : List Int} (h : Calls Try.prog f xs w fun e w' => ∃ v0_ : Value, e = .returned (.agg #[v0_]) ∧ Kd.R (Kd.int .u64) 22 w' w.heap.size (fun _ => True) v0_ r ∧ Below w.heap.size w w') : Calls Try.prog f xs w fun e w' => ∃ A c, e = .returned (.agg #[.slice A r.length c]) ∧ Nr.Ow 22 w.heap.size w' (.slice A r.length c) r ∧ Below w.heap.size w w' := by
 refine h.mono ?_
 rintro e w' ⟨v0, rfl, hR, hb⟩
 obtain ⟨A, c, rfl, _⟩ := Nr.Nr.of_R hR
 exact ⟨A, c, rfl, Nr.Ow.of_R hR (Nat.le_refl _), hb⟩
theorem Nr.shl (k : Nat) (v : Value) (l : List Int) (a : Int) (r : List Int) (w : World) (n : Nr.Nr w v l) (h : r1_Shl.f k l a = some r) : Calls Try.prog 78 #[.agg #[v], .int .i64 a] w fun e w' => ∃ A c, e = .returned (.agg #[.slice A r.length c]) ∧ Nr.Ow 22 w.heap.size w' (.slice A r.length c) r ∧ Below w.heap.size w w' := by
 obtain ⟨A, c, rfl, hc, hC⟩ := n
 exact Nr.outR (r1_Shl.calls k A c l a r w hC hc h)
theorem Nr.sub (k : Nat) (v v1 : Value) (l l1 : List Int) (r : List Int) (w : World) (n : Nr.Nr w v l) (n1 : Nr.Nr w v1 l1) (h : r1_Sub.f k l l1 = some r) : Calls Try.prog 118 #[.agg #[v], .agg #[v1]] w fun e w' => ∃ A c, e = .returned (.agg #[.slice A r.length c]) ∧ Nr.Ow 22 w.heap.size w' (.slice A r.length c) r ∧ Below w.heap.size w w' := by
 obtain ⟨A, c, rfl, hc, hC⟩ := n
 obtain ⟨A1, c1, rfl, hc1, hC1⟩ := n1
 exact Nr.outR (r1_Sub.calls k A c l A1 c1 l1 r w hC hc hC1 hc1 h)
theorem Nr.add (k : Nat) (v v1 : Value) (l l1 : List Int) (r : List Int) (w : World) (n : Nr.Nr w v l) (n1 : Nr.Nr w v1 l1) (h : r1_Add.f k l l1 = some r) : Calls Try.prog 80 #[.agg #[v], .agg #[v1]] w fun e w' => ∃ A c, e = .returned (.agg #[.slice A r.length c]) ∧ Nr.Ow 22 w.heap.size w' (.slice A r.length c) r ∧ Below w.heap.size w w' := by
 obtain ⟨A, c, rfl, hc, hC⟩ := n
 obtain ⟨A1, c1, rfl, hc1, hC1⟩ := n1
 exact Nr.outR (r1_Add.calls k A c l A1 c1 l1 r w hC hc hC1 hc1 h)
theorem Nr.of (k : Nat) (a : Int) (r : List Int) (w : World) (h : r1_Of.f k a = some r) : Calls Try.prog 62 #[.int .u64 a] w fun e w' => ∃ A c, e = .returned (.agg #[.slice A r.length c]) ∧ Nr.Ow 22 w.heap.size w' (.slice A r.length c) r ∧ Below w.heap.size w w' :=
 Nr.outR (r1_Of.calls k a r w h)
theorem Nr.lower {e b b' : Nat} {w : World} {v : Value} {l : List Int} (h : Nr.Ow e b w v l) (hb : b' ≤ b) : Nr.Ow e b' w v l := Nr.Ow.of_R h.out hb
theorem Nr.fresh {P : Nat → Prop} {e e' base : Nat} {w0 w1 : World} {vq vr : Value} {lq lr : List Int} (hq : Nr.Ow e base w0 vq lq) (hr : Nr.Ow e' w0.heap.size w1 vr lr) (hb : base ≤ w0.heap.size) : Nr.At (fun k => (P k ∨ base ≤ k) ∧ some k ≠ vq.ownBlock) vr :=
 (Nr.At.of_R hr.out).mono fun k hk => ⟨Or.inr (Nat.le_trans hb hk.1), fun e => Nat.lt_irrefl _ (Nat.lt_of_lt_of_le (Kd.R_lt hq.out k e.symm) hk.1)⟩
theorem Nr.atlt {w : World} {v : Value} {l : List Int} (h : Nr.Nr w v l) : Nr.At (fun k => k < w.heap.size) v := by
 obtain ⟨A, c, hv, hl, h1, h2, h3⟩ := h
 intro ad n c' e hn
 rw [hv] at e
 injection e with e1 e2 e3
 subst e2
 obtain ⟨ad', e4, h4⟩ := h3 hn
 rw [e1] at e4
 injection e4 with e4
 subst e4
 obtain ⟨x, hx⟩ : ∃ x, l[0]? = some x := ⟨l[0]'hn, List.getElem?_eq_getElem hn⟩
 obtain ⟨cs, k1, k2, k3⟩ := h4 0 x hx
 have k2' : cs = [Value.int .u64 x] := k2
 have := World.block_lt_of_cell? w _ (k3 0 (.int .u64 x) (by rw [k2']; rfl))
 rwa [add_block] at this
theorem Nr.other {P : Nat → Prop} {e' : Nat} {w0 w1 : World} {vq vq' vr : Value} {lq' lr : List Int} (ha : Nr.At (fun k => P k ∧ some k ≠ vq.ownBlock) vr) (hn : Nr.Nr w0 vr lr) (hq : Nr.Ow e' w0.heap.size w1 vq' lq') : Nr.At (fun k => P k ∧ some k ≠ vq'.ownBlock) vr := fun ad n c e hn' =>
 ⟨(ha ad n c e hn').1, fun e2 => Nat.lt_irrefl _ (Nat.lt_of_lt_of_le (Nr.atlt hn ad n c e hn') (Kd.R_base hq.out _ e2.symm))⟩
theorem Nr.undrew {w w1 : World} (h : Below w.drew.heap.size w.drew w1) : Below w.heap.size w w1 := below_step (below_drew1 (Below.refl _ _)) h
theorem Nr.unalloc {w w1 : World} {o : Obj} (h : Below (w.alloc o).heap.size (w.alloc o) w1) : Below w.heap.size w w1 := below_step (below_alloc (Below.refl _ _) o) h
theorem Nr.newlt {w w1 : World} {o : Obj} (h : Below (w.alloc o).heap.size (w.alloc o) w1) : w.heap.size < w1.heap.size := by
 have := h.size
 simp at this
 omega
theorem Nr.newcell {w w1 : World} {v : Value} {ty : Nat} (h : Below (w.alloc (.cells #[v] ty)).heap.size (w.alloc (.cells #[v] ty)) w1) : w1.cell? ⟨w.heap.size, 0, none⟩ = some v := by
 rw [(Nr.bcell h).1 _ _ (by simp)]
 exact (World.cell?_alloc_new _ _ _ _).trans rfl
theorem r1_Div.calls (k : Nat) (P0_0_ : Nat → Prop) (A0_0 : Option Addr) (c0_0 : Nat) (l0_0 : List Int) (A1_0 : Option Addr) (c1_0 : Nat) (l1_0 : List Int) (r1 : List Int) (r2 : List Int) (w : World) (hs0_0 : Kd.V (Kd.int .u64) 22 w w.heap.size (fun k_ => P0_0_ k_) (.slice A0_0 l0_0.length c0_0) l0_0) (hr1_0 : Kd.C (Kd.int .u64) w A1_0 l1_0.length l1_0) (hc1_0 : l1_0.length ≤ c1_0) (h : r1_Div.f k l0_0 l1_0 = some (r1, r2)) :
  Calls Try.prog 115 #[.agg #[.slice A0_0 l0_0.length c0_0], .agg #[.slice A1_0 l1_0.length c1_0]] w fun e w' => ∃ v0_ v1_ : Value, e = .returned (.tuple #[.agg #[v0_], .agg #[v1_]]) ∧ Kd.R (Kd.int .u64) 22 w' w.heap.size (fun k_ => (w.heap.size ≤ k_)) v0_ r1 ∧ Kd.V (Kd.int .u64) 22 w' w.heap.size (fun k_ => (P0_0_ k_ ∨ w.heap.size ≤ k_) ∧ some k_ ≠ (v0_ : Value).ownBlock) v1_ r2 ∧ Below w.heap.size w w' := by
 obtain ⟨t0, A0, H⟩ := ob_ h
 obtain ⟨t1, A1, H⟩ := ob_ H
 have L0 := A_ A0;have L1 := A_ A1;have HL := A_ H;clear h A0 A1 H
 have NA := Nr.Nr.of_V hs0_0
 have AA := A_ (Nr.At.of_V hs0_0)
 have NB := Nr.Nr.of_C hc1_0 hr1_0
 clear hs0_0 hr1_0
 go_enter Try.func115, Try.ntmps115
 go_wp2
 go_region_held3 (fun w' => w'.cell? ⟨w.heap.size, 0, none⟩ = some (.slice A0_0 l0_0.length c0_0) ∧ w'.cell? ⟨w.heap.size + 1, 0, none⟩ = some (.slice A1_0 l1_0.length c1_0) ∧ w'.cell? ⟨w.heap.size + 2, 0, none⟩ = some (.slice none 0 0) ∧ w'.cell? ⟨w.heap.size + 3, 0, none⟩ = some (.slice none 0 0) ∧ w'.cell? ⟨w.heap.size + 4, 0, none⟩ = some (.slice none 0 0) ∧ w'.cell? ⟨w.heap.size + 5, 0, none⟩ = some (.slice A0_0 l0_0.length c0_0) ∧ w'.frozen? ⟨w.heap.size + 2, 0, none⟩ = false ∧ w'.frozen? ⟨w.heap.size + 3, 0, none⟩ = false ∧ w'.frozen? ⟨w.heap.size + 4, 0, none⟩ = false ∧ w'.frozen? ⟨w.heap.size + 5, 0, none⟩ = false ∧ w.heap.size + 5 < w'.heap.size ∧ Nr.Nr w' (.slice A0_0 l0_0.length c0_0) l0_0 ∧ Nr.Nr w' (.slice A1_0 l1_0.length c1_0) l1_0 ∧ Nr.Ow 22 w.heap.size w' (.slice none 0 0) [] ∧ Below w.heap.size w w')
  (((try go_split_ands); (try dsimp only); (repeat' apply And.intro) <;> first | assumption | (rw [hc _ _ (by omega)]; assumption) | (rw [hf _ _ (by omega)]; assumption) | (rw [Nr.al (by omega)]; assumption) | (rw [Nr.alf (by omega)]; assumption) | (apply Nr.lt_al; assumption) | (have := hb.size; omega) | (refine Nr.Nr.below ?_ hb; assumption) | (apply Nr.Nr.drew; (repeat apply Nr.Nr.alloc); assumption) | (apply Nr.Nr.alloc; assumption) | (apply Nr.Nr.drew; assumption) | (exact Nr.Ow.nil _ _ _) | (refine Nr.Ow.below ?_ hb; assumption) | (apply Nr.Ow.alloc; assumption) | (apply Nr.Ow.drew; assumption) | (refine below_step ?_ hb; assumption) | (simp [go_sem, World.cell?_alloc_past]; done) | (repeat (first | assumption | exact Below.refl _ _ | apply below_drew1 | apply below_alloc | (refine below_set ?_ (by omega))))))
  ((first | (go_at_call 96; (try go_split_ands); refine (Nr.len k _ l0_0 t0 _ ?_ L0.out).mono ?_; (assumption); rintro e w1 ⟨rfl, hb⟩; obtain ⟨hc, hf⟩ := Nr.bcell hb) | (go_at_call 96; (try go_split_ands); refine (Nr.len k _ l1_0 t1 _ ?_ L1.out).mono ?_; (assumption); rintro e w2 ⟨rfl, hb⟩; obtain ⟨hc, hf⟩ := Nr.bcell hb)))
 rename_i hH
 obtain ⟨q0, q1, q2, q3, q4, q5, f2, f3, f4, f5, hz, nr, nb, ow, bl⟩ := hH
 (repeat clear hc hf)
 (repeat clear hb)
 go_wp2
 iterate 30 (rename_i left_; clear left_)
 rename_i hK
 clear H
 have at0 : Nr.At (fun k_ => (P0_0_ k_ ∨ w.heap.size ≤ k_) ∧ some k_ ≠ (Value.slice none 0 0).ownBlock) (.slice A0_0 l0_0.length c0_0) := AA.out.mono fun k hk => ⟨Or.inl hk, fun e => by cases e⟩
 go_loopg [8] k (fun kq v8 w' => ∃ (x : Int) (Aq : Option Addr) (cq : Nat) (lq : List Int) (Ar : Option Addr) (cr : Nat) (lr : List Int), v8 = .int .i64 x ∧ Aside0 (r1_Div.l0 kq x l1_0 lq lr = some (r1, r2)) ∧ Aside0 (w'.cell? ⟨w.heap.size + 1, 0, none⟩ = some (.slice A1_0 l1_0.length c1_0) ∧ w'.cell? ⟨w.heap.size + 2, 0, none⟩ = some (.slice none 0 0) ∧ w'.cell? ⟨w.heap.size + 3, 0, none⟩ = some (.slice none 0 0) ∧ w'.cell? ⟨w.heap.size + 4, 0, none⟩ = some (.slice Aq lq.length cq) ∧ w'.cell? ⟨w.heap.size + 5, 0, none⟩ = some (.slice Ar lr.length cr) ∧ w'.frozen? ⟨w.heap.size + 2, 0, none⟩ = false ∧ w'.frozen? ⟨w.heap.size + 3, 0, none⟩ = false ∧ w'.frozen? ⟨w.heap.size + 4, 0, none⟩ = false ∧ w'.frozen? ⟨w.heap.size + 5, 0, none⟩ = false ∧ w.heap.size + 5 < w'.heap.size ∧ Nr.Nr w' (.slice A1_0 l1_0.length c1_0) l1_0 ∧ Nr.Nr w' (.slice Ar lr.length cr) lr ∧ Nr.Ow 22 (w.heap.size + 6) w' (.slice Aq lq.length cq) lq ∧ Nr.At (fun k_ => (P0_0_ k_ ∨ w.heap.size ≤ k_) ∧ some k_ ≠ (Value.slice Aq lq.length cq).ownBlock) (.slice Ar lr.length cr) ∧ Below w.heap.size w w'))
 case atStart => exact ⟨_, none, 0, [], A0_0, c0_0, l0_0, by rw [i64_w], HL, q1, q2, q3, q4, q5, f2, f3, f4, f5, hz, nb, nr, Nr.Ow.nil _ _ _, at0, bl⟩
 case round =>
  (repeat clear q0 q1 q2 q3 q4 q5 f2 f3 f4 f5 hz nr ow bl at0 nb)
  obtain ⟨x, Aq, cq, lq, Ar, cr, lr, rfl, E, F⟩ := hrel
  obtain ⟨q1, q2, q3, q4, q5, f2, f3, f4, f5, hz, nb, nr, ow, at0, bl⟩ := F.out
  clear F HL
  obtain _ | kr := gk
  ·cases E.out
  have E := E.out
  unfold r1_Div.l0 at E
  by_cases hx : x ≥ 0
  ·rw [if_pos hx] at E
   have c0 : decide (0 ≤ x) = true := decide_eq_true hx
   obtain ⟨t, T0, E⟩ := ob_ E
   obtain ⟨u, T1, E⟩ := ob_ E
   replace T0 := A_ T0;replace T1 := A_ T1;replace hx := A_ hx
   by_cases hu : u ≥ 0
   ·rw [if_pos hu] at E
    obtain ⟨s, S0, E⟩ := ob_ E
    obtain ⟨o1, S1, E⟩ := ob_ E
    obtain ⟨o2, S2, E⟩ := ob_ E
    obtain ⟨q', S3, E⟩ := ob_ E
    replace S0 := A_ S0;replace S1 := A_ S1;replace S2 := A_ S2;replace S3 := A_ S3;have EE := A_ E;clear E
    have cu : decide (0 ≤ u) = true := decide_eq_true hu
    clear hu
    go_wp2_with (first | (go_at_call 78; refine (Nr.shl kr _ l1_0 x t _ nb T0.out).mono ?_; rintro e w1 ⟨At, ct, rfl, ot, hb⟩; (try replace hb := Nr.undrew hb); obtain ⟨hc, hf⟩ := Nr.bcell hb; have hs := hb.size; replace q1 := (hc _ _ (by omega)).trans q1; replace q2 := (hc _ _ (by omega)).trans q2; replace q3 := (hc _ _ (by omega)).trans q3; replace q4 := (hc _ _ (by omega)).trans q4; replace q5 := (hc _ _ (by omega)).trans q5; replace f2 := (hf _ _ (by omega)).trans f2; replace f3 := (hf _ _ (by omega)).trans f3; replace f4 := (hf _ _ (by omega)).trans f4; replace f5 := (hf _ _ (by omega)).trans f5; replace nb := Nr.Nr.below nb hb; replace nr := Nr.Nr.below nr hb; replace ow := Nr.Ow.below ow hb; replace bl := below_step bl hb; replace hz := Nat.lt_of_lt_of_le hz hs; clear hc hf hs hb) | (go_at_call 113; refine (Nr.cmp kr _ _ lr t u _ (Nr.Nr.alloc nr _) (Nr.Nr.alloc ot.nr _) T1.out).mono ?_; rintro e w2 ⟨rfl, hb⟩; have tq := Nr.newcell hb; have ht := Nr.newlt hb; replace hb := Nr.unalloc hb; (try replace hb := Nr.undrew hb); obtain ⟨hc, hf⟩ := Nr.bcell hb; have hs := hb.size; replace q1 := (hc _ _ (by omega)).trans q1; replace q2 := (hc _ _ (by omega)).trans q2; replace q3 := (hc _ _ (by omega)).trans q3; replace q4 := (hc _ _ (by omega)).trans q4; replace q5 := (hc _ _ (by omega)).trans q5; replace f2 := (hf _ _ (by omega)).trans f2; replace f3 := (hf _ _ (by omega)).trans f3; replace f4 := (hf _ _ (by omega)).trans f4; replace f5 := (hf _ _ (by omega)).trans f5; replace nb := Nr.Nr.below nb hb; replace nr := Nr.Nr.below nr hb; replace ow := Nr.Ow.below ow hb; replace ot := Nr.Ow.below ot hb; replace bl := below_step bl hb; replace hz := Nat.lt_of_lt_of_le hz hs; clear hc hf hs hb) | (go_at_call 118; refine (Nr.sub kr _ _ lr t s _ nr ot.nr S0.out).mono ?_; rintro e w3 ⟨As, cs, rfl, os, hb⟩; have at1 := Nr.fresh (P := P0_0_) (Nr.lower ow (b' := w.heap.size) (by omega)) os (by omega); replace os := Nr.lower os (b' := w.heap.size + 6) (by omega); (try replace hb := Nr.undrew hb); obtain ⟨hc, hf⟩ := Nr.bcell hb; have hs := hb.size; replace q1 := (hc _ _ (by omega)).trans q1; replace q2 := (hc _ _ (by omega)).trans q2; replace q3 := (hc _ _ (by omega)).trans q3; replace q4 := (hc _ _ (by omega)).trans q4; replace q5 := (hc _ _ (by omega)).trans q5; replace f2 := (hf _ _ (by omega)).trans f2; replace f3 := (hf _ _ (by omega)).trans f3; replace f4 := (hf _ _ (by omega)).trans f4; replace f5 := (hf _ _ (by omega)).trans f5; replace nb := Nr.Nr.below nb hb; replace nr := Nr.Nr.below nr hb; replace ow := Nr.Ow.below ow hb; replace ot := Nr.Ow.below ot hb; replace bl := below_step bl hb; replace hz := Nat.lt_of_lt_of_le hz hs; clear hc hf hs hb))
    generalize hW : World.setCell _ _ _ = w4
    have hz4 : w4.heap.size = w3.heap.size := by rw [← hW]; simp
    have hc : ∀ b, b ≠ w.heap.size + 5 → w4.cell? ⟨b, 0, none⟩ = w3.cell? ⟨b, 0, none⟩ := fun b hb => by rw [← hW]; exact World.cell?_setCell_far _ _ _ _ (fun e => hb e.symm)
    have hf : ∀ b, w4.frozen? ⟨b, 0, none⟩ = w3.frozen? ⟨b, 0, none⟩ := fun b => by rw [← hW]; exact World.frozen?_setCell _ _ _ _
    have hi : Nr.IsRow (w3.cell? ⟨w.heap.size + 5, 0, none⟩) := by rw [q5]; exact Nr.IsRow.slice _ _ _
    replace q5 : w4.cell? ⟨w.heap.size + 5, 0, none⟩ = some (.slice As s.length cs) := by rw [← hW]; exact World.cell?_setCell_same _ _ _ q5
    replace q1 := (hc _ (by omega)).trans q1
    replace q2 := (hc _ (by omega)).trans q2
    replace q3 := (hc _ (by omega)).trans q3
    replace q4 := (hc _ (by omega)).trans q4
    replace f2 := (hf _).trans f2
    replace f3 := (hf _).trans f3
    replace f4 := (hf _).trans f4
    replace f5 := (hf _).trans f5
    replace nb : Nr.Nr w4 (.slice A1_0 l1_0.length c1_0) l1_0 := by rw [← hW]; exact Nr.Nr.set nb _ hi
    replace ow : Nr.Ow 22 (w.heap.size + 6) w4 (.slice Aq lq.length cq) lq := by rw [← hW]; exact Nr.Ow.set ow _ (fun e => by have h6 : _ ≤ w.heap.size + 5 := Kd.R_base ow.out _ e; omega)
    replace os : Nr.Ow 22 (w.heap.size + 6) w4 (.slice As s.length cs) s := by rw [← hW]; exact Nr.Ow.set os _ (fun e => by have h6 : _ ≤ w.heap.size + 5 := Kd.R_base os.out _ e; omega)
    replace bl : Below w.heap.size w w4 := by rw [← hW]; exact below_set bl (by omega)
    replace hz : w.heap.size + 5 < w4.heap.size := by omega
    clear hW hc hf hi hz4
    replace nr := os.nr
    clear os
    go_region_with (first | (go_at_call 62; refine (Nr.of kr 1 o1 _ S1.out).mono ?_; rintro e w5 ⟨Ao, co, rfl, oo, hb⟩; (try replace hb := Nr.undrew hb); obtain ⟨hc, hf⟩ := Nr.bcell hb; have hs := hb.size; replace q1 := (hc _ _ (by omega)).trans q1; replace q2 := (hc _ _ (by omega)).trans q2; replace q3 := (hc _ _ (by omega)).trans q3; replace q4 := (hc _ _ (by omega)).trans q4; replace q5 := (hc _ _ (by omega)).trans q5; replace f2 := (hf _ _ (by omega)).trans f2; replace f3 := (hf _ _ (by omega)).trans f3; replace f4 := (hf _ _ (by omega)).trans f4; replace f5 := (hf _ _ (by omega)).trans f5; replace nb := Nr.Nr.below nb hb; replace nr := Nr.Nr.below nr hb; replace ow := Nr.Ow.below ow hb; replace bl := below_step bl hb; replace hz := Nat.lt_of_lt_of_le hz hs; clear hc hf hs hb) | (go_at_call 78; refine (Nr.shl kr _ o1 x o2 _ oo.nr S2.out).mono ?_; rintro e w6 ⟨Ap, cp, rfl, op, hb⟩; (try replace hb := Nr.undrew hb); obtain ⟨hc, hf⟩ := Nr.bcell hb; have hs := hb.size; replace q1 := (hc _ _ (by omega)).trans q1; replace q2 := (hc _ _ (by omega)).trans q2; replace q3 := (hc _ _ (by omega)).trans q3; replace q4 := (hc _ _ (by omega)).trans q4; replace q5 := (hc _ _ (by omega)).trans q5; replace f2 := (hf _ _ (by omega)).trans f2; replace f3 := (hf _ _ (by omega)).trans f3; replace f4 := (hf _ _ (by omega)).trans f4; replace f5 := (hf _ _ (by omega)).trans f5; replace nb := Nr.Nr.below nb hb; replace nr := Nr.Nr.below nr hb; replace ow := Nr.Ow.below ow hb; replace oo := Nr.Ow.below oo hb; replace bl := below_step bl hb; replace hz := Nat.lt_of_lt_of_le hz hs; clear hc hf hs hb) | (go_at_call 80; refine (Nr.add kr _ _ lq o2 q' _ ow.nr op.nr S3.out).mono ?_; rintro e w7 ⟨Az, cz, rfl, oz, hb⟩; have at2 := Nr.other at1 nr oz; have oz := Nr.lower oz (b' := w.heap.size + 6) (by omega); (try replace hb := Nr.undrew hb); obtain ⟨hc, hf⟩ := Nr.bcell hb; have hs := hb.size; replace q1 := (hc _ _ (by omega)).trans q1; replace q2 := (hc _ _ (by omega)).trans q2; replace q3 := (hc _ _ (by omega)).trans q3; replace q4 := (hc _ _ (by omega)).trans q4; replace q5 := (hc _ _ (by omega)).trans q5; replace f2 := (hf _ _ (by omega)).trans f2; replace f3 := (hf _ _ (by omega)).trans f3; replace f4 := (hf _ _ (by omega)).trans f4; replace f5 := (hf _ _ (by omega)).trans f5; replace nb := Nr.Nr.below nb hb; replace nr := Nr.Nr.below nr hb; replace ow := Nr.Ow.below ow hb; replace bl := below_step bl hb; replace hz := Nat.lt_of_lt_of_le hz hs; clear hc hf hs hb))
    all_goals (
     generalize hW : World.setCell _ _ _ = w8
     have hz4 : w8.heap.size = w7.heap.size := by rw [← hW]; simp
     have hc : ∀ b, b ≠ w.heap.size + 4 → w8.cell? ⟨b, 0, none⟩ = w7.cell? ⟨b, 0, none⟩ := fun b hb => by rw [← hW]; exact World.cell?_setCell_far _ _ _ _ (fun e => hb e.symm)
     have hf : ∀ b, w8.frozen? ⟨b, 0, none⟩ = w7.frozen? ⟨b, 0, none⟩ := fun b => by rw [← hW]; exact World.frozen?_setCell _ _ _ _
     have hi : Nr.IsRow (w7.cell? ⟨w.heap.size + 4, 0, none⟩) := by rw [q4]; exact Nr.IsRow.slice _ _ _
     replace q4 : w8.cell? ⟨w.heap.size + 4, 0, none⟩ = some (.slice Az q'.length cz) := by rw [← hW]; exact World.cell?_setCell_same _ _ _ q4
     replace q1 := (hc _ (by omega)).trans q1
     replace q2 := (hc _ (by omega)).trans q2
     replace q3 := (hc _ (by omega)).trans q3
     replace q5 := (hc _ (by omega)).trans q5
     replace f2 := (hf _).trans f2
     replace f3 := (hf _).trans f3
     replace f4 := (hf _).trans f4
     replace f5 := (hf _).trans f5
     replace nb : Nr.Nr w8 (.slice A1_0 l1_0.length c1_0) l1_0 := by rw [← hW]; exact Nr.Nr.set nb _ hi
     replace nr : Nr.Nr w8 (.slice As s.length cs) s := by rw [← hW]; exact Nr.Nr.set nr _ hi
     replace oz : Nr.Ow 22 (w.heap.size + 6) w8 (.slice Az q'.length cz) q' := by rw [← hW]; exact Nr.Ow.set oz _ (fun e => by have h6 : _ ≤ w.heap.size + 4 := Kd.R_base oz.out _ e; omega)
     replace bl : Below w.heap.size w w8 := by rw [← hW]; exact below_set bl (by omega)
     replace hz : w.heap.size + 5 < w8.heap.size := by omega
     clear hW hc hf hi hz4
     go_wp2
     go_roundg kr
     case measure => omega
     case rel => exact ⟨_, Az, cz, q', As, cs, s, rfl, EE, ⟨q1, q2, q3, q4, q5, f2, f3, f4, f5, hz, nb, nr, oz, at2, bl⟩⟩)
   ·rw [if_neg hu] at E
    have EE := A_ E;clear E
    have cu : decide (0 ≤ u) = false := decide_eq_false hu
    clear hu
    go_wp2_with (first | (go_at_call 78; refine (Nr.shl kr _ l1_0 x t _ nb T0.out).mono ?_; rintro e w1 ⟨At, ct, rfl, ot, hb⟩; (try replace hb := Nr.undrew hb); obtain ⟨hc, hf⟩ := Nr.bcell hb; have hs := hb.size; replace q1 := (hc _ _ (by omega)).trans q1; replace q2 := (hc _ _ (by omega)).trans q2; replace q3 := (hc _ _ (by omega)).trans q3; replace q4 := (hc _ _ (by omega)).trans q4; replace q5 := (hc _ _ (by omega)).trans q5; replace f2 := (hf _ _ (by omega)).trans f2; replace f3 := (hf _ _ (by omega)).trans f3; replace f4 := (hf _ _ (by omega)).trans f4; replace f5 := (hf _ _ (by omega)).trans f5; replace nb := Nr.Nr.below nb hb; replace nr := Nr.Nr.below nr hb; replace ow := Nr.Ow.below ow hb; replace bl := below_step bl hb; replace hz := Nat.lt_of_lt_of_le hz hs; clear hc hf hs hb) | (go_at_call 113; refine (Nr.cmp kr _ _ lr t u _ (Nr.Nr.alloc nr _) (Nr.Nr.alloc ot.nr _) T1.out).mono ?_; rintro e w2 ⟨rfl, hb⟩; have tq := Nr.newcell hb; have ht := Nr.newlt hb; replace hb := Nr.unalloc hb; (try replace hb := Nr.undrew hb); obtain ⟨hc, hf⟩ := Nr.bcell hb; have hs := hb.size; replace q1 := (hc _ _ (by omega)).trans q1; replace q2 := (hc _ _ (by omega)).trans q2; replace q3 := (hc _ _ (by omega)).trans q3; replace q4 := (hc _ _ (by omega)).trans q4; replace q5 := (hc _ _ (by omega)).trans q5; replace f2 := (hf _ _ (by omega)).trans f2; replace f3 := (hf _ _ (by omega)).trans f3; replace f4 := (hf _ _ (by omega)).trans f4; replace f5 := (hf _ _ (by omega)).trans f5; replace nb := Nr.Nr.below nb hb; replace nr := Nr.Nr.below nr hb; replace ow := Nr.Ow.below ow hb; replace ot := Nr.Ow.below ot hb; replace bl := below_step bl hb; replace hz := Nat.lt_of_lt_of_le hz hs; clear hc hf hs hb))
    go_roundg kr
    case measure => omega
    case rel => exact ⟨_, Aq, cq, lq, Ar, cr, lr, rfl, EE, ⟨q1, q2, q3, q4, q5, f2, f3, f4, f5, hz, nb, nr, ow, at0, bl⟩⟩
  ·rw [if_neg hx] at E
   have c0 : decide (0 ≤ x) = false := decide_eq_false hx
   injection E with E
   injection E with E1 E2
   subst E1
   subst E2
   clear hx E
   go_wp2
   go_region
   go_wp2
   have i2 : Nr.IsRow (wr.cell? ⟨w.heap.size + 2, 0, none⟩) := by rw [q2]; exact Nr.IsRow.slice _ _ _
   have e2 := World.cell?_setCell_same _ _ (.slice Aq lq.length cq) q2
   have e3 : (wr.setCell ⟨w.heap.size + 2, 0, none⟩ (.slice Aq lq.length cq)).cell? ⟨w.heap.size + 3, 0, none⟩ = some (.slice none 0 0) := (World.cell?_setCell_far _ _ _ _ (by simp)).trans q3
   have i3 : Nr.IsRow ((wr.setCell ⟨w.heap.size + 2, 0, none⟩ (.slice Aq lq.length cq)).cell? ⟨w.heap.size + 3, 0, none⟩) := by rw [e3]; exact Nr.IsRow.slice _ _ _
   have e4 := World.cell?_setCell_same _ _ (.slice Ar lr.length cr) e3
   have e5 : ((wr.setCell ⟨w.heap.size + 2, 0, none⟩ (.slice Aq lq.length cq)).setCell ⟨w.heap.size + 3, 0, none⟩ (.slice Ar lr.length cr)).cell? ⟨w.heap.size + 2, 0, none⟩ = some (.slice Aq lq.length cq) := (World.cell?_setCell_far _ _ _ _ (by simp)).trans e2
   have ow' := Nr.Ow.drew (Nr.Ow.set (Nr.Ow.set ow (p := ⟨w.heap.size + 2, 0, none⟩) (.slice Aq lq.length cq) (fun e => by have h6 : _ ≤ w.heap.size + 2 := Kd.R_base ow.out _ e; omega)) (p := ⟨w.heap.size + 3, 0, none⟩) (.slice Ar lr.length cr) (fun e => by have h6 : _ ≤ w.heap.size + 3 := Kd.R_base ow.out _ e; omega))
   have nr' := Nr.Nr.drew (Nr.Nr.set (Nr.Nr.set nr (.slice Aq lq.length cq) i2) (.slice Ar lr.length cr) i3)
   exact bodyPost_ret (v := .tuple #[.agg #[.slice Aq lq.length cq], .agg #[.slice Ar lr.length cr]]) (by simp [results, Try.results115, go_sem, e4, e5]) rfl ⟨_, _, rfl, (Nr.lower ow' (by omega)).out, Nr.Nr.toV nr' at0, below_drew1 (below_set (below_set bl (by omega)) (by omega))⟩
end Go.Proofs.Ytbpmnmceajmmcaa.PA
section
set_option linter.unusedVariables false
set_option linter.unusedSimpArgs false
namespace Go.Proofs.Ytbpmnmceajmmcaa.Th
open Go.RowKit Go.Proofs.YtbpmnmceajmmcaaW.PrintWords Go.Proofs.YtbpmnmceajmmcaaW.PrintLast Go.Proofs.YtbpmnmceajmmcaaW.PrintMore Go.Proofs.Ytbpmnmceajmmcaa.PA Bit Flo
theorem packE (w : Int) (hw : w = 32 ∨ w = 64) (s : Bool) (h l : Nat) (hh : h < 18446744073709551616) (hl : l < 18446744073709551616) (e : Int) (m : Bool) : round_Pack.f w s h l e m = some ((mkN w (pkm (fmt w) (wn h l) e m) s : Nat) : Int) := by
  unfold round_Pack.f
  rw [if_pos (by omega), if_pos hw, Int.toNat_natCast, Int.toNat_natCast]
theorem packV (w : Int) (hw : w = 32 ∨ w = 64) (s : Bool) (V : Nat) (hV : V < 340282366920938463463374607431768211456) (e : Int) (m : Bool) : round_Pack.f w s ((V / 18446744073709551616 : Nat) : Int) ((V % 18446744073709551616 : Nat) : Int) e m = some ((mkN w (pkm (fmt w) V e m) s : Nat) : Int) := by
  rw [packE w hw s _ _ (hi64 hV) (lo64 V), wn_div]
theorem pack1 (w : Int) (hw : w = 32 ∨ w = 64) (s : Bool) (n : Nat) (hn : n < 18446744073709551616) (e : Int) : round_Pack.f w s 0 n e false = some ((mkN w ((fmt w).rnd ((n : Rat) * tw e)) s : Nat) : Int) := by
  have := packE w hw s 0 n (by decide) hn e false
  rw [show wn 0 n = n by unfold wn; omega, pk_ex w n e (by omega)] at this
  exact this
theorem wholeE (w : Int) (hw : w = 32 ∨ w = 64) (s : Bool) (n : Nat) (hn : n < 18446744073709551616) : round_Whole.f w s n = some ((mkN w ((fmt w).rnd (n : Rat)) (s && decide (0 < n)) : Nat) : Int) := by
  unfold round_Whole.f
  have h := fun t => pack1 w hw t n hn 0
  rw [tw_zero, Rat.mul_one] at h
  rw [ofW n]
  cases s
  · rw [if_neg (by decide), Option.bind_some]
    show (round_Pack.f w false 0 (n : Int) 0 false).bind _ = _
    rw [h false, Option.bind_some]
    simp
  · rw [if_pos rfl, Option.bind_some]
    show (round_Pack.f w (decide ((n : Int) > 0)) 0 (n : Int) 0 false).bind _ = _
    rw [h, Option.bind_some]
    simp
theorem shN (w : Int) (hw : w = 32 ∨ w = 64) : shape_Nan.f w = some ((nanN w : Nat) : Int) := by rcases hw with rfl | rfl; exact shNan32; exact shNan64
theorem pv1 (s : Bool) (e : Int) (g : Nat) : pv (s, 1, e, (g : Int)) = if s then -((g : Rat) * tw e) else (g : Rat) * tw e := by
  unfold pv; rw [if_pos rfl]; simp
theorem pos_tw {g : Nat} (h : 0 < g) (e : Int) : 0 < (g : Rat) * tw e := Rat.mul_pos (by exact_mod_cast h) (tw_pos e)
def PtOk (p : Pt) : Prop := (p.2.1 = 0 ∨ p.2.1 = 1 ∨ p.2.1 = 2 ∨ p.2.1 = 3) ∧ (p.2.1 = 1 → 0 < p.2.2.2) ∧ (p.2.1 ≠ 1 → p.2.2.2 = 0 ∧ p.2.2.1 = 0) ∧ 0 ≤ p.2.2.2 ∧ p.2.2.2 < 9007199254740992 ∧ -1100 ≤ p.2.2.1 ∧ p.2.2.1 ≤ 1000
theorem opn_ok (w : Int) (hw : w = 32 ∨ w = 64) (a : Nat) : PtOk (opn w a) := by
  rcases kinds w hw a with ⟨_, h⟩ | ⟨h1, h2, h⟩ | ⟨_, h⟩ | ⟨_, h⟩ <;> rw [h]
  · exact ⟨.inl rfl, fun h => absurd h (by simp), fun _ => ⟨rfl, rfl⟩, by simp, by simp, by simp, by simp⟩
  · have h3 := ex_bd w hw _ h2
    have h4 := sg_64 w hw (magN w a)
    refine ⟨.inr (.inl rfl), fun _ => ?_, fun h => absurd rfl h, by simp, by simp; omega, by simp; omega, by simp; omega⟩
    have : 0 < (fmt w).val (magN w a) := (fmt w).val_pos.2 h1
    unfold Fmt.val at this
    rcases Nat.eq_zero_or_pos ((fmt w).sg (magN w a)) with h5 | h5
    · rw [h5] at this; simp at this
    · simp; omega
  · exact ⟨.inr (.inr (.inl rfl)), fun h => absurd h (by simp), fun _ => ⟨rfl, rfl⟩, by simp, by simp, by simp, by simp⟩
  · exact ⟨.inr (.inr (.inr rfl)), fun h => absurd h (by simp), fun _ => ⟨rfl, rfl⟩, by simp, by simp, by simp, by simp⟩
end Go.Proofs.Ytbpmnmceajmmcaa.Th
end
section
set_option linter.unusedVariables false
set_option linter.unusedSimpArgs false
namespace Go.Proofs.Ytbpmnmceajmmcaa.Th
open Go.RowKit Go.Proofs.YtbpmnmceajmmcaaW.PrintWords Go.Proofs.YtbpmnmceajmmcaaW.PrintLast Go.Proofs.YtbpmnmceajmmcaaW.PrintMore Go.Proofs.Ytbpmnmceajmmcaa.PA Bit Dig Flo
def Can (w : Int) (r : Nat) : Prop := r = nanN w ∨ ∃ m s, m ≤ (fmt w).inf ∧ r = mkN w m s
theorem inf_sb (w : Int) (hw : w = 32 ∨ w = 64) : (fmt w).inf < sb w ∧ nanN w < sb w ∧ (fmt w).inf < nanN w ∧ nanN w = mkN w (nanN w) false := by
  rcases hw with rfl | rfl
  · rw [fmt32, inf32]; exact ⟨by decide, by decide, by decide, by decide⟩
  · rw [fmt64, inf64]; exact ⟨by decide, by decide, by decide, by decide⟩
theorem can_fx (w : Int) (s : Rat) (z : Bool) : Can w (fx w s z) := by
  unfold fx
  split
  · exact .inr ⟨_, _, Nat.zero_le _, rfl⟩
  · split <;> exact .inr ⟨_, _, (fmt w).rnd_le _, rfl⟩
theorem can_cut {w : Int} (hw : w = 32 ∨ w = 64) {r : Nat} (h : Can w r) : cutN w r = r ∧ r < 18446744073709551616 := by
  have hs := inf_sb w hw
  have h2 : 2 * sb w ≤ 18446744073709551616 := by unfold sb; split <;> decide
  rcases h with rfl | ⟨m, s, hm, rfl⟩
  · rw [hs.2.2.2, cut_mk w hw _ _ hs.2.1, ← hs.2.2.2]; exact ⟨rfl, by omega⟩
  · rw [cut_mk w hw _ _ (by omega)]
    refine ⟨rfl, ?_⟩
    unfold mkN; split <;> omega
theorem can_nan {w : Int} (hw : w = 32 ∨ w = 64) {r : Nat} (h : Can w r) : ((opn w r).2.1 == 3) = decide (r = nanN w) := by
  have hs := inf_sb w hw
  rcases h with rfl | ⟨m, s, hm, rfl⟩
  · rw [hs.2.2.2, opn_mk w hw _ _ hs.2.1, if_neg (by omega), if_neg (by omega), if_neg (by omega)]
    rw [← hs.2.2.2]; simp
  · rw [opn_mk w hw _ _ (by omega)]
    have hne : mkN w m s ≠ nanN w := by unfold mkN; split <;> omega
    rw [decide_eq_false hne]
    by_cases h0 : m = 0
    · rw [if_pos h0]; rfl
    · rw [if_neg h0]
      by_cases h1 : m < (fmt w).inf
      · rw [if_pos h1]; rfl
      · rw [if_neg h1, if_pos (by omega)]; rfl
def tn (r : Nat) (w : Int) : Nat := r ^^^ sb w
theorem sb_pow (w : Int) : ∃ k, sb w = 2 ^ k ∧ k < 64 := by unfold sb; split; exact ⟨31, by decide, by decide⟩; exact ⟨63, by decide, by decide⟩
theorem tn_lt {w : Int} {r : Nat} (h : r < 18446744073709551616) : tn r w < 18446744073709551616 := by
  unfold tn
  exact Nat.xor_lt_two_pow (n := 64) h (by unfold sb; split <;> decide)
theorem tn_parts (w : Int) (r : Nat) : magN w (tn r w) = magN w r ∧ sgB w (tn r w) = !sgB w r := by
  unfold magN sgB tn
  obtain ⟨k, hk, _⟩ := sb_pow w
  rw [hk]
  refine ⟨?_, ?_⟩
  · rw [Nat.xor_mod_two_pow, Nat.mod_self, Nat.xor_zero]
  · rw [← Nat.shiftRight_eq_div_pow, ← Nat.shiftRight_eq_div_pow, Nat.shiftRight_xor_distrib, Nat.shiftRight_eq_div_pow (2 ^ k), Nat.div_self (Nat.pow_pos (by decide))]
    have := @Nat.xor_mod_two_eq_one (r >>> k) 1
    by_cases h : (r >>> k) % 2 = 1 <;> simp [h, this] <;> omega
theorem tn_mk {w : Int} (hw : w = 32 ∨ w = 64) {m : Nat} (s : Bool) (h : m < sb w) : tn (mkN w m s) w = mkN w m (!s) := by
  unfold tn mkN
  obtain ⟨k, hk, _⟩ := sb_pow w
  rw [hk] at h ⊢
  cases s
  · simp only [Bool.false_eq_true, if_false, Nat.add_zero, Bool.not_false, if_true]
    exact xor_pow_lt _ _ h
  · simp only [if_true, Bool.not_true, Bool.false_eq_true, if_false, Nat.add_zero]
    rw [xor_pow_ge _ _ (by omega) (by rw [Nat.pow_succ]; omega)]; omega
def tp (p : Pt) : Pt := if p.2.1 = 3 then p else (!p.1, p.2)
theorem opn_tn (w : Int) (hw : w = 32 ∨ w = 64) (a : Nat) : opn w (tn a w) = tp (opn w a) := by
  obtain ⟨e1, e2⟩ := tn_parts w a
  unfold opn; simp only [e1, e2]
  split
  · rfl
  · split
    · rfl
    · split <;> rfl
theorem fx_neg' (w : Int) (s : Rat) (hs : s ≠ 0 ∨ True) (z : Bool) : ∃ m t, m ≤ (fmt w).inf ∧ fx w s z = mkN w m t ∧ fx w (-s) (!z) = mkN w m (!t) := by
  by_cases h0 : s = 0
  · subst h0
    rw [Rat.neg_zero, fx_zero, fx_zero]
    exact ⟨0, z, Nat.zero_le _, rfl, rfl⟩
  · by_cases h1 : s < 0
    · have h2 : 0 < -s := by grind
      refine ⟨(fmt w).rnd (-s), true, (fmt w).rnd_le _, ?_, fx_pos w h2 _⟩
      have := fx_neg w h2 z
      rwa [Rat.neg_neg] at this
    · have h2 : 0 < s := by grind
      exact ⟨(fmt w).rnd s, false, (fmt w).rnd_le _, fx_pos w h2 _, fx_neg w h2 _⟩
theorem pv_tp (p : Pt) : pv (tp p) = -pv p := by
  unfold tp pv
  obtain ⟨s, kd, e, g⟩ := p
  simp only
  by_cases h : kd = 3
  · rw [if_pos h]; simp only; rw [if_neg (by omega), Rat.neg_zero]
  · rw [if_neg h]; simp only
    split
    · cases s
      · simp
      · simp [Rat.neg_neg]
    · rw [Rat.neg_zero]
def oneN (w : Int) : Nat := if w = 32 then 1065353216 else 4607182418800017408
theorem val_one (w : Int) (hw : w = 32 ∨ w = 64) : (fmt w).val (oneN w) = 1 ∧ oneN w < (fmt w).inf ∧ 0 < oneN w := by
  rcases hw with rfl | rfl
  · refine ⟨?_, by rw [fmt32, inf32]; decide, by decide⟩
    unfold Fmt.val
    rw [fmt32, show oneN 32 = 127 * 2 ^ f32.f + 0 by decide]
    have := Fmt.sg_mk f32 126 (2 ^ f32.f) (by decide) (fun _ => Nat.le_refl _)
    rw [show 127 * 2 ^ f32.f + 0 = 126 * 2 ^ f32.f + 2 ^ f32.f by decide, this.1, this.2]
    rw [show ((2 ^ f32.f : Nat) : Rat) = tw 23 from (tw_nat 23).symm, ← tw_add]
    exact tw_zero
  · refine ⟨?_, by rw [fmt64, inf64]; decide, by decide⟩
    unfold Fmt.val
    rw [fmt64, show oneN 64 = 1022 * 2 ^ f64.f + 2 ^ f64.f by decide]
    have := Fmt.sg_mk f64 1022 (2 ^ f64.f) (by decide) (fun _ => Nat.le_refl _)
    rw [this.1, this.2]
    rw [show ((2 ^ f64.f : Nat) : Rat) = tw 52 from (tw_nat 52).symm, ← tw_add]
    exact tw_zero
theorem opn_one (w : Int) (hw : w = 32 ∨ w = 64) : opn w (oneN w) = (false, 1, (fmt w).ex (oneN w), ((fmt w).sg (oneN w) : Int)) ∧ pv (opn w (oneN w)) = 1 := by
  have h := val_one w hw
  have hi := inf_sb w hw
  have e := opn_mk w hw (oneN w) false (by omega)
  rw [show mkN w (oneN w) false = oneN w by simp [mkN], if_neg (by omega), if_pos h.2.1] at e
  refine ⟨e, ?_⟩
  rw [e, pv1]
  have := h.1
  unfold Fmt.val at this
  simpa using this
theorem xor_tn (w : Int) (hw : w = 32 ∨ w = 64) {a : Nat} (ha : a < 18446744073709551616) : Go.bits .xor .u64 (a : Int) ((mkN w 0 true : Nat) : Int) = ((tn a w : Nat) : Int) := by
  rw [show mkN w 0 true = sb w by simp [mkN], u64_xor_nat a _ ha (by unfold sb; split <;> decide)]
  rfl
end Go.Proofs.Ytbpmnmceajmmcaa.Th
end
namespace Knu
theorem k1 (u y d : Nat) (hu : u < y) (hd : d < 4294967296) : (u * 4294967296 + d) / y < 4294967296 := by
  rw [Nat.div_lt_iff_lt_mul (by omega), Nat.mul_comm 4294967296]
  have : (u + 1) * 4294967296 ≤ y * 4294967296 := Nat.mul_le_mul_right _ hu
  omega
theorem k2 (u a b d q r : Nat) (ha : 0 < a) (h : q * a + r = u) : (u * 4294967296 + d) / (a * 4294967296 + b) < q ↔ r * 4294967296 + d < q * b := by
  rw [Nat.div_lt_iff_lt_mul (by omega), Nat.mul_add, ← Nat.mul_assoc, ← h]
  generalize q * b = t
  generalize q * a = s
  omega
theorem k3 (u a b d : Nat) (ha : 0 < a) (hd : d < 4294967296) : (u * 4294967296 + d) / (a * 4294967296 + b) ≤ u / a := by
  rw [Nat.le_div_iff_mul_le ha]
  have h := Nat.div_mul_le_self (u * 4294967296 + d) (a * 4294967296 + b)
  rw [Nat.mul_add, ← Nat.mul_assoc] at h
  generalize (u * 4294967296 + d) / (a * 4294967296 + b) * b = t at *
  generalize (u * 4294967296 + d) / (a * 4294967296 + b) * a = s at *
  omega
theorem k4 (u a b q r : Nat) (h : q * a + r = u) (hu : u < a * 4294967296 + b) (hq : 4294967296 ≤ q) : r < b := by
  have : 4294967296 * a ≤ q * a := Nat.mul_le_mul_right _ hq
  omega
theorem k5 (a q r u : Nat) (h : q * a + r = u) (hq : 0 < q) : (q - 1) * a + (r + a) = u := by
  obtain ⟨p, rfl⟩ : ∃ p, q = p + 1 := ⟨q - 1, by omega⟩
  rw [Nat.add_mul] at h
  rw [Nat.add_sub_cancel]; omega
theorem k6 (q b : Nat) (hq : q < 4294967296) (hb : b < 4294967296) : q * b < 18446744073709551616 := by
  have := Nat.mul_le_mul (show q ≤ 4294967295 by omega) (show b ≤ 4294967295 by omega); omega
theorem two_gen (B u y c d : Nat) (hy : 0 < y) : ((u * B + c) * B + d) / y = (u * B + c) / y * B + ((u * B + c) % y * B + d) / y ∧ ((u * B + c) * B + d) % y = ((u * B + c) % y * B + d) % y := by
  have h := Nat.div_add_mod (u * B + c) y
  generalize (u * B + c) / y = q at *
  generalize (u * B + c) % y = r at *
  generalize u * B + c = v at *
  have e : v * B + d = y * (q * B) + (r * B + d) := by
    rw [← h, Nat.add_mul, Nat.mul_assoc]; omega
  rw [e, Nat.mul_add_div hy, Nat.mul_add_mod]
  exact ⟨rfl, rfl⟩
theorem two (u y c d : Nat) (hy : 0 < y) : ((u * 4294967296 + c) * 4294967296 + d) / y = (u * 4294967296 + c) / y * 4294967296 + ((u * 4294967296 + c) % y * 4294967296 + d) / y ∧ ((u * 4294967296 + c) * 4294967296 + d) % y = ((u * 4294967296 + c) % y * 4294967296 + d) % y :=
  two_gen 4294967296 u y c d hy
end Knu
set_option linter.unusedVariables false
set_option linter.unusedSectionVars false
set_option linter.unusedSimpArgs false
namespace Go.Proofs.Ytbpmnmceajmmcaa.Th
open Go.RowKit Go.Proofs.YtbpmnmceajmmcaaW.PrintWords Go.Proofs.YtbpmnmceajmmcaaW.PrintLast Go.Proofs.YtbpmnmceajmmcaaW.PrintMore Go.Proofs.Ytbpmnmceajmmcaa.PA Bit Dig
theorem rem_wrap (u c q y : Nat) (hq : q = (u * 4294967296 + c) / y) (hy : 0 < y) (hy2 : y < 18446744073709551616) :
    IntKind.u64.wrap ((IntKind.u64.wrap ((IntKind.u64.wrap ((u : Int) * 4294967296)) + (c : Int))) - (IntKind.u64.wrap ((q : Int) * (y : Int)))) = (((u * 4294967296 + c) % y : Nat) : Int) := by
  have h := Nat.div_add_mod (u * 4294967296 + c) y
  have h2 := Nat.mod_lt (u * 4294967296 + c) hy
  rw [← hq] at h
  rw [← Int.natCast_mul, Nat.mul_comm q y]
  generalize y * q = t at *
  generalize (u * 4294967296 + c) % y = r at *
  simp only [IntKind.wrap_u64]
  omega
section
variable (y a b u c d s : Nat) (hy : y = a * 4294967296 + b) (ha : 2147483648 ≤ a) (ha2 : a < 4294967296) (hb : b < 4294967296) (hc : c < 4294967296) (hd : d < 4294967296) (R : Int × Int)
include hy ha ha2 hb hc hd
theorem div_l0 (hu : u < y) (Q : Nat) (hQ : (u * 4294967296 + c) / y = Q) (hj : Ev (fun k => bits_Div64.j2 k y s a b u c d ((Q : Nat) : Int)) R) (n : Nat) :
    ∀ q r : Nat, q - Q = n → Q ≤ q → q < 18446744073709551616 → q * a + r = u → r < 4294967296 →
    Ev (fun k => bits_Div64.l0 k y s a b u c d q r) R := by
  have K1 := Knu.k1 u y c hu hc
  rw [hQ] at K1
  induction n with
  | zero =>
    intro q r hn hq hq2 he hr
    obtain rfl : q = Q := by omega
    have K2 := Knu.k2 u a b c _ r (by omega) he
    rw [← hy, hQ] at K2
    have K6 := Knu.k6 _ b K1 hb
    refine Ev.step (fun _ => bits_Div64.l0.eq_2 ..) ?_
    refine Ev.neg (by omega) ?_
    rw [← Int.natCast_mul, u64_id (by omega) (by omega), u64_id (n := 4294967296 * (r : Int)) (by omega) (by omega), u64_id (by omega) (by omega), decide_eq_false (by omega)]
    refine Ev.step (fun _ => bits_Div64.j1.eq_2 ..) ?_
    exact Ev.neg (by decide) hj
  | succ n ih =>
    intro q r hn hq hq2 he hr
    have hq0 : 0 < q := by omega
    have K2 := Knu.k2 u a b c q r (by omega) he
    rw [← hy, hQ] at K2
    have K5 := Knu.k5 a q r u he hq0
    have body : Ev (fun k => bits_Div64.j1 k y s a b u c d q r true) R := by
      refine Ev.step (fun _ => bits_Div64.j1.eq_2 ..) ?_
      refine Ev.pos rfl ?_
      rw [u64_id (n := (r : Int) + a) (by omega) (by omega), u64_id (n := (q : Int) - 1) (by omega) (by omega), show (q : Int) - 1 = ((q - 1 : Nat) : Int) by omega, show (r : Int) + a = ((r + a : Nat) : Int) by omega]
      by_cases h : ((r + a : Nat) : Int) ≥ 4294967296
      · have e : q - 1 = Q := by
          have h1 : q - 1 < 4294967296 := by
            rcases Nat.lt_or_ge (q - 1) 4294967296 with h2 | h2
            · exact h2
            · have := Knu.k4 u a b (q - 1) (r + a) K5 (by omega) h2; omega
          have K2' := Knu.k2 u a b c (q - 1) (r + a) (by omega) K5
          rw [← hy, hQ] at K2'
          have K6 := Knu.k6 (q - 1) b h1 hb
          omega
        rw [e]
        exact Ev.pos h hj
      · exact Ev.neg h (ih (q - 1) (r + a) (by omega) (by omega) (by omega) K5 (by omega))
    refine Ev.step (fun _ => bits_Div64.l0.eq_2 ..) ?_
    by_cases h : (q : Int) ≥ 4294967296
    · exact Ev.pos h body
    · refine Ev.neg h ?_
      have K6 := Knu.k6 q b (by omega) hb
      rw [← Int.natCast_mul, u64_id (by omega) (by omega), u64_id (n := 4294967296 * (r : Int)) (by omega) (by omega), u64_id (by omega) (by omega), decide_eq_true (by omega)]
      exact body
theorem div_l1 (q1 : Nat) (hq1 : q1 < 4294967296) (hu : u < y) (hs : s < 64) (Q M : Nat) (hQ : (u * 4294967296 + d) / y = Q) (hM : (u * 4294967296 + d) % y = M) (n : Nat) :
    ∀ q r : Nat, q - Q = n → Q ≤ q → q < 18446744073709551616 → q * a + r = u → r < 4294967296 →
    Ev (fun k => bits_Div64.l1 k y s a b d q1 r u q) (((q1 * 4294967296 + Q : Nat) : Int), ((M / 2 ^ s : Nat) : Int)) := by
  have K1 := Knu.k1 u y d hu hd
  rw [hQ] at K1
  have Y0 : 0 < y := by omega
  have Y2 : y < 18446744073709551616 := by omega
  have W := rem_wrap u d Q y hQ.symm Y0 Y2
  rw [hM] at W
  have hsh := shrN' M s hs
  induction n with
  | zero =>
    intro q r hn hq hq2 he hr
    obtain rfl : q = Q := by omega
    have K2 := Knu.k2 u a b d _ r (by omega) he
    rw [← hy, hQ] at K2
    have K6 := Knu.k6 _ b K1 hb
    refine Ev.step (fun _ => bits_Div64.l1.eq_2 ..) ?_
    refine Ev.neg (by omega) ?_
    rw [← Int.natCast_mul, u64_id (by omega) (by omega), u64_id (n := 4294967296 * (r : Int)) (by omega) (by omega), u64_id (by omega) (by omega), decide_eq_false (by omega)]
    refine Ev.step (fun _ => bits_Div64.j4.eq_2 ..) ?_
    refine Ev.neg (by decide) (Ev.pos (by omega) (Ev.out ?_))
    rw [W, hsh, u64_id (n := (q1 : Int) * 4294967296) (by omega) (by omega), u64_id (by omega) (by omega)]
    congr 1
  | succ n ih =>
    intro q r hn hq hq2 he hr
    have hq0 : 0 < q := by omega
    have K2 := Knu.k2 u a b d q r (by omega) he
    rw [← hy, hQ] at K2
    have K5 := Knu.k5 a q r u he hq0
    have body : Ev (fun k => bits_Div64.j4 k y s a b d q1 r u q true) (((q1 * 4294967296 + Q : Nat) : Int), ((M / 2 ^ s : Nat) : Int)) := by
      refine Ev.step (fun _ => bits_Div64.j4.eq_2 ..) ?_
      refine Ev.pos rfl ?_
      rw [u64_id (n := (r : Int) + a) (by omega) (by omega), u64_id (n := (q : Int) - 1) (by omega) (by omega), show (q : Int) - 1 = ((q - 1 : Nat) : Int) by omega, show (r : Int) + a = ((r + a : Nat) : Int) by omega]
      by_cases h : ((r + a : Nat) : Int) ≥ 4294967296
      · have e : q - 1 = Q := by
          have h1 : q - 1 < 4294967296 := by
            rcases Nat.lt_or_ge (q - 1) 4294967296 with h2 | h2
            · exact h2
            · have := Knu.k4 u a b (q - 1) (r + a) K5 (by omega) h2; omega
          have K2' := Knu.k2 u a b d (q - 1) (r + a) (by omega) K5
          rw [← hy, hQ] at K2'
          have K6 := Knu.k6 (q - 1) b h1 hb
          omega
        refine Ev.pos h (Ev.pos (by omega) (Ev.out ?_))
        rw [e, W, hsh, u64_id (n := (q1 : Int) * 4294967296) (by omega) (by omega), u64_id (by omega) (by omega)]
        congr 1
      · exact Ev.neg h (ih (q - 1) (r + a) (by omega) (by omega) (by omega) K5 (by omega))
    refine Ev.step (fun _ => bits_Div64.l1.eq_2 ..) ?_
    by_cases h : (q : Int) ≥ 4294967296
    · exact Ev.pos h body
    · refine Ev.neg h ?_
      have K6 := Knu.k6 q b (by omega) hb
      rw [← Int.natCast_mul, u64_id (by omega) (by omega), u64_id (n := 4294967296 * (r : Int)) (by omega) (by omega), u64_id (by omega) (by omega), decide_eq_true (by omega)]
      exact body
end
theorem and_mask32 (x : Nat) (hx : x < 18446744073709551616) : Go.bits .and .u64 (x : Int) 4294967295 = ((x % 4294967296 : Nat) : Int) := by
  rw [show (4294967295 : Int) = ((4294967295 : Nat) : Int) from rfl, u64_and_nat x _ hx (by decide), show (4294967295 : Nat) = 2 ^ 32 - 1 by decide, and_low]
theorem start_q (u a : Nat) (ha : 0 < a) (hu : u < 18446744073709551616) : IntKind.u64.wrap (Int.tdiv (u : Int) (a : Int)) = ((u / a : Nat) : Int) ∧ IntKind.u64.wrap ((u : Int) - IntKind.u64.wrap (((u / a : Nat) : Int) * (a : Int))) = ((u % a : Nat) : Int) := by
  have h := Nat.div_add_mod u a
  have h1 := Nat.div_le_self u a
  have h2 := Nat.mod_lt u ha
  constructor
  · rw [Int.tdiv_eq_ediv_of_nonneg (by omega), ← Int.natCast_ediv]
    generalize u / a = q at *
    rw [u64_id (by omega) (by omega)]
  · rw [← Int.natCast_mul, Nat.mul_comm]
    generalize a * (u / a) = t at *
    generalize u % a = r at *
    rw [u64_id (n := (t : Int)) (by omega) (by omega), u64_id (by omega) (by omega)]; omega
theorem div64 (h l y : Nat) (hh : h < y) (hl : l < 18446744073709551616) (hy2 : y < 18446744073709551616) :
    Ev (fun k => bits_Div64.f k h l y) (((wn h l / y : Nat) : Int), ((wn h l % y : Nat) : Int)) := by
  unfold bits_Div64.f
  refine Ev.neg (by omega) (Ev.neg (by omega) ?_)
  by_cases h0 : h = 0
  · subst h0
    refine Ev.pos rfl (Ev.out ?_)
    have h1 := Nat.div_le_self l y
    rw [Int.tdiv_eq_ediv_of_nonneg (by omega), Int.tmod_eq_emod_of_nonneg (by omega), ← Int.natCast_ediv, ← Int.natCast_emod, show wn 0 l = l by unfold wn; omega]
    generalize l / y = q at *
    rw [u64_id (by omega) (by omega)]
  · refine Ev.neg (by omega) ?_
    have hy0 : 0 < y := by omega
    have hby := bl64 hy2
    have hbp := bl_pos.2 hy0
    obtain ⟨s, hs⟩ : ∃ s, s = 64 - bl y := ⟨_, rfl⟩
    have hs64 : s < 64 := by omega
    have hlz : bits_LeadingZeros64.f y = some ((s : Nat) : Int) := by
      unfold bits_LeadingZeros64.f
      rw [if_pos (by omega), Int.toNat_natCast, bitLen_bl hy2]; congr 1; omega
    refine Ev.bs hlz ?_
    rw [u64_id (n := (s : Int)) (by omega) (by omega), u64_id (n := 64 - (s : Int)) (by omega) (by omega), show (64 : Int) - s = ((64 - s : Nat) : Int) by omega]
    have p0 : 0 < 2 ^ s := Nat.pow_pos (by decide)
    have e64 : 2 ^ s * 2 ^ (64 - s) = 18446744073709551616 := by rw [← Nat.pow_add, show s + (64 - s) = 64 by omega]
    -- the divisor, its highest bit at the top
    have y1 : y * 2 ^ s < 18446744073709551616 := by
      have h1 := Nat.mul_lt_mul_of_pos_right (lt_two_bl y) p0
      rw [← Nat.pow_add, show bl y + s = 64 by omega] at h1
      exact h1
    have y2 : 9223372036854775808 ≤ y * 2 ^ s := by
      have h1 := Nat.mul_le_mul_right (2 ^ s) (two_bl_le hy0)
      rw [← Nat.pow_add, show bl y - 1 + s = 63 by omega] at h1
      exact h1
    have h1 : h * 2 ^ s + 2 ^ s ≤ y * 2 ^ s := by
      have := Nat.mul_le_mul_right (2 ^ s) (show h + 1 ≤ y from hh)
      rw [Nat.add_mul, Nat.one_mul] at this; exact this
    have hlo : l / 2 ^ (64 - s) < 2 ^ s := by
      rw [Nat.div_lt_iff_lt_mul (Nat.pow_pos (by decide)), e64]; exact hl
    have eY : shl .u64 (y : Int) (s : Int) = ((y * 2 ^ s : Nat) : Int) := by rw [shlN y s hs64, Nat.mod_eq_of_lt y1]
    have eH : shl .u64 (h : Int) (s : Int) = ((h * 2 ^ s : Nat) : Int) := by rw [shlN h s hs64, Nat.mod_eq_of_lt (by omega)]
    have eL : shl .u64 (l : Int) (s : Int) = ((l * 2 ^ s % 18446744073709551616 : Nat) : Int) := shlN l s hs64
    have eR : shr .u64 (l : Int) ((64 - s : Nat) : Int) = ((l / 2 ^ (64 - s) : Nat) : Int) := by
      by_cases h2 : s = 0
      · subst h2
        unfold shr
        rw [show min (((64 - 0 : Nat) : Int)).toNat IntKind.u64.bits = 64 by decide, show (2 : Int) ^ 64 = ((2 ^ 64 : Nat) : Int) by decide]
        omega
      · exact shrN' l (64 - s) (by omega)
    have eO := or_add (h * 2 ^ s) (l / 2 ^ (64 - s)) s (by omega) (Nat.dvd_mul_left _ _) hlo (by omega) (by omega)
    rw [eY, eH, eL, eR, eO]
    -- the number, shifted
    have eN : wn h l * 2 ^ s = (h * 2 ^ s + l / 2 ^ (64 - s)) * 18446744073709551616 + l * 2 ^ s % 18446744073709551616 := by
      have h2 := Nat.div_add_mod (l * 2 ^ s) 18446744073709551616
      have h3 : l * 2 ^ s / 18446744073709551616 = l / 2 ^ (64 - s) := by
        rw [← e64, Nat.mul_comm l, Nat.mul_div_mul_left _ _ p0]
      rw [h3] at h2
      unfold wn
      rw [Nat.add_mul, Nat.mul_right_comm]
      omega
    have u1 : h * 2 ^ s + l / 2 ^ (64 - s) < y * 2 ^ s := by omega
    have v1 := Nat.mod_lt (l * 2 ^ s) (show 0 < 18446744073709551616 by decide)
    have eq1 : wn h l / y = wn h l * 2 ^ s / (y * 2 ^ s) := (Nat.mul_div_mul_right _ _ p0).symm
    have eq2 : wn h l % y = wn h l * 2 ^ s % (y * 2 ^ s) / 2 ^ s := by rw [Nat.mul_mod_mul_right, Nat.mul_div_cancel _ p0]
    rw [eq1, eq2, eN]
    clear eq1 eq2 eN eY eH eL eR eO hlz
    generalize h * 2 ^ s + l / 2 ^ (64 - s) = u at *
    generalize l * 2 ^ s % 18446744073709551616 = v at *
    generalize y * 2 ^ s = Y at *
    rw [and_mask32 Y y1, and_mask32 v v1, show ((Y : Nat) : Int) / 4294967296 = ((Y / 4294967296 : Nat) : Int) by omega, show ((v : Nat) : Int) / 4294967296 = ((v / 4294967296 : Nat) : Int) by omega]
    have hv : (u * 18446744073709551616 + v) = (u * 4294967296 + v / 4294967296) * 4294967296 + v % 4294967296 := by omega
    have T := Knu.two u Y (v / 4294967296) (v % 4294967296) (by omega)
    rw [hv, T.1, T.2]
    have hA : Y = Y / 4294967296 * 4294967296 + Y % 4294967296 := by omega
    obtain ⟨a, ea⟩ : ∃ a, Y / 4294967296 = a := ⟨_, rfl⟩
    obtain ⟨b, eb⟩ : ∃ b, Y % 4294967296 = b := ⟨_, rfl⟩
    obtain ⟨c, ec⟩ : ∃ c, v / 4294967296 = c := ⟨_, rfl⟩
    obtain ⟨d, ed⟩ : ∃ d, v % 4294967296 = d := ⟨_, rfl⟩
    rw [ea, eb] at hA
    rw [ea, eb, ec, ed]
    have ha : 2147483648 ≤ a := by omega
    have ha2 : a < 4294967296 := by omega
    have hb : b < 4294967296 := by omega
    have hc : c < 4294967296 := by omega
    have hd : d < 4294967296 := by omega
    clear hv T ea eb ec ed
    refine Ev.pos (by omega) (Ev.pos (by omega) (Ev.neg (by omega) ?_))
    obtain ⟨s1, s2⟩ := start_q u a (by omega) (by omega)
    rw [s1, s2]
    have hr1 := Nat.mod_lt (u * 4294967296 + c) (show 0 < Y by omega)
    have K3 := Knu.k3 u a b c (by omega) hc
    rw [← hA] at K3
    have m1 := Nat.div_add_mod u a
    have m2 := Nat.mod_lt u (show 0 < a by omega)
    have m3 := Nat.div_le_self u a
    rw [Nat.mul_comm] at m1
    refine div_l0 Y a b u c d s hA ha ha2 hb hc hd _ u1 _ rfl ?_ _ (u / a) (u % a) rfl K3 (by omega) m1 (by omega)
    refine Ev.step (fun _ => bits_Div64.j2.eq_2 ..) ?_
    refine Ev.neg (by omega) ?_
    rw [rem_wrap u c _ Y rfl (by omega) y1]
    have q1b := Knu.k1 u Y c u1 hc
    obtain ⟨q1, hq1⟩ : ∃ q1, q1 = (u * 4294967296 + c) / Y := ⟨_, rfl⟩
    obtain ⟨u', hu'⟩ : ∃ u', u' = (u * 4294967296 + c) % Y := ⟨_, rfl⟩
    rw [← hq1] at q1b ⊢
    rw [← hu'] at hr1 ⊢
    clear hq1 hu'
    obtain ⟨t1, t2⟩ := start_q u' a (by omega) (by omega)
    rw [t1, t2]
    have K3' := Knu.k3 u' a b d (by omega) hd
    rw [← hA] at K3'
    have n1 := Nat.div_add_mod u' a
    have n2 := Nat.mod_lt u' (show 0 < a by omega)
    have n3 := Nat.div_le_self u' a
    rw [Nat.mul_comm] at n1
    exact div_l1 Y a b u' c d s hA ha ha2 hb hc hd q1 q1b hr1 hs64 _ _ rfl rfl _ (u' / a) (u' % a) rfl K3' (by omega) n1 (by omega)
theorem wlt (B m b l : Nat) (hm : m < b) (hl : l < B) : m * B + l < B * b := by
  have := Nat.mul_le_mul_right B (show m + 1 ≤ b from hm)
  rw [Nat.add_mul, Nat.one_mul, Nat.mul_comm b] at this
  omega
theorem whi (B h b l : Nat) : h * B + l = b * (h / b * B) + (h % b * B + l) := by
  have := Nat.div_add_mod h b
  have e2 : h * B = (b * (h / b) + h % b) * B := by rw [this]
  rw [e2, Nat.add_mul, Nat.add_assoc, Nat.mul_assoc]
theorem divW (h l b : Nat) (hh : h < 18446744073709551616) (hl : l < 18446744073709551616) (hb : 0 < b) (hb2 : b < 18446744073709551616) :
    Ev (fun k => wide_Div.f k h l b) (((wn h l / b / 18446744073709551616 : Nat) : Int), ((wn h l / b % 18446744073709551616 : Nat) : Int), ((wn h l % b : Nat) : Int), 0) := by
  unfold wide_Div.f
  have hm := Nat.mod_lt h hb
  have h1 := Nat.div_le_self h b
  have e : Int.tmod (h : Int) (b : Int) = ((h % b : Nat) : Int) := by rw [Int.tmod_eq_emod_of_nonneg (by omega), Int.natCast_emod]
  rw [e]
  refine Ev.neg (by omega) (Ev.bind (div64 (h % b) l b hm hl hb2) (Ev.out ?_))
  rw [Int.tdiv_eq_ediv_of_nonneg (by omega), ← Int.natCast_ediv]
  have eh : IntKind.u64.wrap ((h / b : Nat) : Int) = ((h / b : Nat) : Int) := by generalize h / b = q at *; exact u64_id (by omega) (by omega)
  rw [eh]
  have hN : wn h l = b * (h / b * 18446744073709551616) + wn (h % b) l := whi _ h b l
  have hq : wn (h % b) l / b < 18446744073709551616 := by
    rw [Nat.div_lt_iff_lt_mul hb]
    exact wlt _ _ _ _ hm hl
  obtain ⟨X, hX⟩ : ∃ X, X = h / b * 18446744073709551616 := ⟨_, rfl⟩
  rw [← hX] at hN
  rw [hN, Nat.mul_add_div hb X, Nat.mul_add_mod b X, hX]
  clear hN hX
  obtain ⟨q, hqe⟩ : ∃ q, q = wn (h % b) l / b := ⟨_, rfl⟩
  obtain ⟨p, hpe⟩ : ∃ p, p = h / b := ⟨_, rfl⟩
  rw [← hqe] at hq ⊢
  rw [← hpe]
  have e1 : (p * 18446744073709551616 + q) / 18446744073709551616 = p := by omega
  have e2 : (p * 18446744073709551616 + q) % 18446744073709551616 = q := by omega
  rw [e1, e2]
end Go.Proofs.Ytbpmnmceajmmcaa.Th
