/- What the Go functions that the statement SumClose reaches compute, and the mathematics on it, in the order in which one leans on the other; for every input. -/
import Derived.Test.YtbpmnmceajmmcaaVSumClose0
import Derived.Test.YtbpmnmceajmmcaaMSumClose0
import Derived.Test.YtbpmnmceajmmcaaMSumClose9
import Derived.Test.YtbpmnmceajmmcaaMSumClose11
import Derived.Test.YtbpmnmceajmmcaaMSumClose8
import Derived.Test.YtbpmnmceajmmcaaMSumClose3
import Derived.Test.YtbpmnmceajmmcaaMSumClose5
import Derived.Test.YtbpmnmceajmmcaaMSumClose2
import Derived.Test.YtbpmnmceajmmcaaMSumClose1
namespace Go.Proofs.Ytbpmnmceajmmcaa.PA
open Go.RowKit Go.Proofs.YtbpmnmceajmmcaaW.PrintWords Go.Proofs.YtbpmnmceajmmcaaW.PrintLast Go.Proofs.YtbpmnmceajmmcaaW.PrintMore
attribute [local go_sem] max2_int min2_int max_two min_two max_three min_three max_four min_four   -- for this text's walks alone
set_option linter.unusedVariables false
set_option linter.unusedSimpArgs false
set_option maxHeartbeats 8000000
set_option maxRecDepth 100000
def r4_Sub.f (k : Nat) (a0 : Int) (a1 : Int) (a2 : Int) : Option (Int) := (r2_Open.f k a0 a2).bind fun bt819 => ((r2_Open.f k a0 a1).bind fun bt824 => ((r4_parts.f k a0 bt824.1 bt824.2.1 bt824.2.2.1 bt824.2.2.2 (!bt819.1) bt819.2.1 bt819.2.2.1 bt819.2.2.2).bind fun t828 => (some t828)))
theorem r4_Sub.mono : ∀ a0 a1 a2 k, LeO (r4_Sub.f k a0 a1 a2) (r4_Sub.f (k + 1) a0 a1 a2) := by
 intro a0 a1 a2 k
 unfold r4_Sub.f
 repeat' first
   | (with_reducible exact r2_Open.mono _ _ _)
   | (with_reducible exact r4_parts.mono _ _ _ _ _ _ _ _ _ _)
   | (with_reducible exact LeO.refl _)
   | (with_reducible exact LeO.none _)
   | (with_reducible refine LeO.ite ?_ ?_)
   | (with_reducible refine LeO.bind ?_ (fun _ => ?_))
   | exact r2_Open.mono _ _ _
   | exact r4_parts.mono _ _ _ _ _ _ _ _ _ _
   | exact LeO.none _
   | refine LeO.ite ?_ ?_
   | refine LeO.bind ?_ (fun _ => ?_)
theorem r4_Sub.calls (k : Nat) (a0 : Int) (a1 : Int) (a2 : Int) (r : Int) (w : World) (h : r4_Sub.f k a0 a1 a2 = some r) :
  Calls Try.prog 46 #[.int .i64 a0, .int .u64 a1, .int .u64 a2] w fun e w' => e = .returned (.int .u64 r) ∧ Below w.heap.size w w' := by
 have hu57 := Try.underlying57
 have HB := A_ (Below.refl w.heap.size w)
 have H : ((r2_Open.f k a0 a2).bind fun bt819 => ((r2_Open.f k a0 a1).bind fun bt824 => ((r4_parts.f k a0 bt824.1 bt824.2.1 bt824.2.2.1 bt824.2.2.2 (!bt819.1) bt819.2.1 bt819.2.2.1 bt819.2.2.2).bind fun t828 => (some t828)))) = some r := h
 clear h
 replace H := ob_ H
 obtain ⟨⟨t819, t820, t821, t822⟩, A40, H⟩ := H
 replace H : ((r2_Open.f k a0 a1).bind fun bt824 => ((r4_parts.f k a0 bt824.1 bt824.2.1 bt824.2.2.1 bt824.2.2.2 (!t819) t820 t821 t822).bind fun t828 => (some t828))) = some r := H
 have A4 := A_ A40;clear A40
 replace H := ob_ H
 obtain ⟨⟨t824, t825, t826, t827⟩, A50, H⟩ := H
 replace H : ((r4_parts.f k a0 t824 t825 t826 t827 (!t819) t820 t821 t822).bind fun t828 => (some t828)) = some r := H
 have A5 := A_ A50;clear A50
 replace H := ob_ H
 obtain ⟨t828, A60, H⟩ := H
 replace H : (some t828) = some r := H
 have A6 := A_ A60;clear A60
 obtain rfl := Option.some.inj H
 go_enter Try.func46, Try.ntmps46
 try go_wp2_with (first | ((with_reducible refine gate_callee (f := 48) rfl ?_); refine gl_ (some 10) Try.func48 #[.int .i64 a0, .int .u64 a2] ?_; (with_reducible refine (r2_Open.calls k a0 a2 t819 t820 t821 t822 _ A4.out).mono ?_); rintro e w7 ⟨rfl, hb⟩; refine ⟨_, rfl, ?_⟩; replace HB := A_ (below_step (hb_ HB.out) hb); (try clear hb); (try clear hb2); (try clear hk); (try clear hi)) | ((with_reducible refine gate_dst (N := 7) rfl ?_); refine be_ 7 #[.bool false, .int .i64 0, .int .i64 0, .int .u64 0] 57 ?_; intro gb823 hg w8 hbox hb; have BK823 := A_ (hbox); have GW823 := A_ (sz_ hg (hb_ HB.out)); have GE823 := A_ (sz_ hg (hb_ HB.out)); replace HB := A_ (below_step (hb_ HB.out) hb); clear hb hbox hg; have hcz9_0 := bv_ BK823.out 0; have hcz9_1 := bv_ BK823.out 1; have hcz9_2 := bv_ BK823.out 2; have hcz9_3 := bv_ BK823.out 3; have hfz9_0 := blk_frozen BK823.out 0; have hfz9_1 := blk_frozen BK823.out 1; have hfz9_2 := blk_frozen BK823.out 2; have hfz9_3 := blk_frozen BK823.out 3))
 have n0_ : Aside0 ((((((w8.setCell ⟨gb823, 0, none⟩ (.bool t819)).setCell ⟨gb823, 1, none⟩ (.int .i64 t820)).setCell ⟨gb823, 2, none⟩ (.int .i64 t821)).setCell ⟨gb823, 3, none⟩ (.int .u64 t822)).setCell ⟨gb823, 0, none⟩ (.bool (!t819))).heap[gb823]? = some (.cells #[.bool (!t819), .int .i64 t820, .int .i64 t821, .int .u64 t822] 57 (0, 0))) := ⟨by (with_reducible repeat (first | refine blk_drewN ?_ _ | refine blk_drew ?_ | refine blk_alloc ?_ _)); refine blk_put (cs := #[.bool t819, .int .i64 t820, .int .i64 t821, .int .u64 t822]) ?_ 0 _ rfl; (with_reducible repeat (first | refine blk_drewN ?_ _ | refine blk_drew ?_ | refine blk_alloc ?_ _)); refine blk_put (cs := #[.bool t819, .int .i64 t820, .int .i64 t821, .int .u64 0]) ?_ 3 _ rfl; (with_reducible repeat (first | refine blk_drewN ?_ _ | refine blk_drew ?_ | refine blk_alloc ?_ _)); refine blk_put (cs := #[.bool t819, .int .i64 t820, .int .i64 0, .int .u64 0]) ?_ 2 _ rfl; (with_reducible repeat (first | refine blk_drewN ?_ _ | refine blk_drew ?_ | refine blk_alloc ?_ _)); refine blk_put (cs := #[.bool t819, .int .i64 0, .int .i64 0, .int .u64 0]) ?_ 1 _ rfl; (with_reducible repeat (first | refine blk_drewN ?_ _ | refine blk_drew ?_ | refine blk_alloc ?_ _)); refine blk_put (cs := #[.bool false, .int .i64 0, .int .i64 0, .int .u64 0]) ?_ 0 _ rfl; (with_reducible repeat (first | refine blk_drewN ?_ _ | refine blk_drew ?_ | refine blk_alloc ?_ _)); exact BK823.out⟩
 have n1_ : Aside0 (Below w.heap.size w (((((w8.setCell ⟨gb823, 0, none⟩ (.bool t819)).setCell ⟨gb823, 1, none⟩ (.int .i64 t820)).setCell ⟨gb823, 2, none⟩ (.int .i64 t821)).setCell ⟨gb823, 3, none⟩ (.int .u64 t822)).setCell ⟨gb823, 0, none⟩ (.bool (!t819)))) := ⟨hb1_ HB.out GE823.out⟩
 (try clear BK823);(try clear HB)
 generalize (((((w8.setCell ⟨gb823, 0, none⟩ (.bool t819)).setCell ⟨gb823, 1, none⟩ (.int .i64 t820)).setCell ⟨gb823, 2, none⟩ (.int .i64 t821)).setCell ⟨gb823, 3, none⟩ (.int .u64 t822)).setCell ⟨gb823, 0, none⟩ (.bool (!t819))) = w10 at n0_ n1_ ⊢
 have BK823 := n0_;have HB := n1_;clear n0_ n1_
 replace BK823 := A_ (blk_drew BK823.out)
 replace HB := A_ (below_drew1 HB.out)
 refine start_ (n := 7) (S := fun w' => w'.cell? ⟨gb823, 0, none⟩ = some (.bool (!t819)) ∧ w'.cell? ⟨gb823, 1, none⟩ = some (.int .i64 t820) ∧ w'.cell? ⟨gb823, 2, none⟩ = some (.int .i64 t821) ∧ w'.cell? ⟨gb823, 3, none⟩ = some (.int .u64 t822)) (ds := []) #[false, false, false, false, false, false, false] (by kernel_rfl) rfl rfl ⟨bc_ BK823.out 0, bc_ BK823.out 1, bc_ BK823.out 2, bc_ BK823.out 3⟩ (fun hHeld => ?_)
 generalize w10.drew = w11 at BK823 HB hHeld ⊢
 refine pu_ 0 (some 15) #[true, false, false, false, false, false, false] rfl rfl (by kernel_rfl) ?_
 refine pu_ 1 (some 16) #[true, true, false, false, false, false, false] rfl rfl (by kernel_rfl) ?_
 refine pu_ 2 (some 17) #[true, true, true, false, false, false, false] rfl rfl (by kernel_rfl) ?_
 refine tk4_ 4 (some 19) #[true, true, true, false, true, false, false] rfl rfl (by kernel_rfl) hHeld ?_
 refine one_ (i := 3) (N := some 18) #[true, true, true, true, true, false, false] rfl rfl (by kernel_rfl) (by decide) (fun K hK => ?_)
 refine goes_ Try.func48 (by kernel_rfl) rfl #[.int .i64 a0, .int .u64 a1] (by rfl) rfl rfl mp_ ?_
 with_reducible refine (r2_Open.calls k a0 a1 t824 t825 t826 t827 _ A5.out).mono ?_
 rintro e w12 ⟨rfl, hb⟩
 refine ⟨_, rfl, ?_⟩
 replace BK823 := A_ (bb_ BK823.out hb)
 replace HB := A_ (below_step (hb1_ HB.out GE823.out) hb);(try clear hb);(try clear hb2);(try clear hk);(try clear hi)
 refine hK.out _ _ ⟨bc_ BK823.out 0, bc_ BK823.out 1, bc_ BK823.out 2, bc_ BK823.out 3⟩ (fun hHeld => ?_)
 clear hK K
 refine norm_ (a' := ?_) ?_ ?_
 rotate_left
 ·show Act.put _ (some 18) _ = _
  simp only [Act.put, lI_, l0_, lS_, i64_w, i32_w]
  rfl
 refine one_ (i := 5) (N := some 20) #[true, true, true, true, true, true, false] rfl rfl (by kernel_rfl) (by decide) (fun K hK => ?_)
 refine goes_ Try.func84 (by kernel_rfl) rfl #[.int .i64 a0, .agg #[.bool t824, .int .i64 t825, .int .i64 t826, .int .u64 t827], .agg #[.bool (!t819), .int .i64 t820, .int .i64 t821, .int .u64 t822]] (by rfl) rfl rfl mp_ ?_
 with_reducible refine (r4_parts.calls k a0 t824 t825 t826 t827 (!t819) t820 t821 t822 t828 _ A6.out).mono ?_
 rintro e w13 ⟨rfl, hb⟩
 refine ⟨_, rfl, ?_⟩
 replace BK823 := A_ (bb_ BK823.out hb)
 replace HB := A_ (below_step (hb1_ HB.out GE823.out) hb);(try clear hb);(try clear hb2);(try clear hk);(try clear hi)
 refine hK.out _ _ ⟨bc_ BK823.out 0, bc_ BK823.out 1, bc_ BK823.out 2, bc_ BK823.out 3⟩ (fun hHeld => ?_)
 clear hK K
 refine norm_ (a' := ?_) ?_ ?_
 rotate_left
 ·show Act.put _ (some 20) _ = _
  simp only [Act.put, lI_, l0_, lS_, i64_w, i32_w]
  rfl
 refine pu_ 6 (some 6) #[true, true, true, true, true, true, true] rfl rfl (by kernel_rfl) ?_
 refine done_ (by kernel_rfl) ?_
 try go_wp2
 go_ret
 exact ⟨er_, hb1_ HB.out GE823.out⟩
mutual
def r4_Cmp.j0 : Nat → Int → Int → Int → Bool → Bool → Int → Int → Int → Bool → Int → Int → Int → Option (Int)
 | 0, _, _, _, _, _, _, _, _, _, _, _, _ => none
 | k + 1, x0, x1, x2, x23, x840000, x840001, x840002, x840003, x845000, x845001, x845002, x845003 => if x23 = true then (some 2) else (if x840001 = 2 then (if x845001 = 2 then (r4_Cmp.j1 k x0 x1 x2 (x840000 == x845000)) else (r4_Cmp.j1 k x0 x1 x2 false)) else (r4_Cmp.j1 k x0 x1 x2 false))
def r4_Cmp.j1 : Nat → Int → Int → Int → Bool → Option (Int)
 | 0, _, _, _, _ => none
 | k + 1, x0, x1, x2, x38 => if x38 = true then (some 0) else ((r4_Sub.f k x0 x1 x2).bind fun t845 => ((r2_Open.f k x0 t845).bind fun bt846 => (if bt846.2.1 = 0 then (some 0) else (if bt846.1 = true then (some (-1)) else (some 1)))))
end
def r4_Cmp.f (k : Nat) (a0 : Int) (a1 : Int) (a2 : Int) : Option (Int) := (r2_Open.f k a0 a1).bind fun bt835 => ((r2_Open.f k a0 a2).bind fun bt840 => (if bt835.2.1 = 3 then (r4_Cmp.j0 k a0 a1 a2 true bt835.1 bt835.2.1 bt835.2.2.1 bt835.2.2.2 bt840.1 bt840.2.1 bt840.2.2.1 bt840.2.2.2) else (r4_Cmp.j0 k a0 a1 a2 (bt840.2.1 == 3) bt835.1 bt835.2.1 bt835.2.2.1 bt835.2.2.2 bt840.1 bt840.2.1 bt840.2.2.1 bt840.2.2.2)))
theorem r4_Cmp.mono_l : ∀ k, (∀ y0 y1 y2 y3 y4 y5 y6 y7 y8 y9 y10 y11, LeO (r4_Cmp.j0 k y0 y1 y2 y3 y4 y5 y6 y7 y8 y9 y10 y11) (r4_Cmp.j0 (k + 1) y0 y1 y2 y3 y4 y5 y6 y7 y8 y9 y10 y11)) ∧ (∀ y0 y1 y2 y3, LeO (r4_Cmp.j1 k y0 y1 y2 y3) (r4_Cmp.j1 (k + 1) y0 y1 y2 y3))
 | 0 => ⟨fun _ _ _ _ _ _ _ _ _ _ _ _ r h => by simp [r4_Cmp.j0] at h, fun _ _ _ _ r h => by simp [r4_Cmp.j1] at h⟩
 | k + 1 => by
  obtain ⟨ih0, ih1⟩ := r4_Cmp.mono_l k
  refine ⟨?_, ?_⟩
  ·intro y0 y1 y2 y3 y4 y5 y6 y7 y8 y9 y10 y11
   unfold r4_Cmp.j0
   repeat' first
   | (with_reducible exact ih0 _ _ _ _ _ _ _ _ _ _ _ _)
   | (with_reducible exact ih1 _ _ _ _)
   | (with_reducible exact r2_Open.mono _ _ _)
   | (with_reducible exact r4_Sub.mono _ _ _ _)
   | (with_reducible exact LeO.refl _)
   | (with_reducible exact LeO.none _)
   | (with_reducible refine LeO.ite ?_ ?_)
   | (with_reducible refine LeO.bind ?_ (fun _ => ?_))
   | exact ih0 _ _ _ _ _ _ _ _ _ _ _ _
   | exact ih1 _ _ _ _
   | exact r2_Open.mono _ _ _
   | exact r4_Sub.mono _ _ _ _
   | exact LeO.none _
   | refine LeO.ite ?_ ?_
   | refine LeO.bind ?_ (fun _ => ?_)
  ·intro y0 y1 y2 y3
   unfold r4_Cmp.j1
   repeat' first
   | (with_reducible exact ih0 _ _ _ _ _ _ _ _ _ _ _ _)
   | (with_reducible exact ih1 _ _ _ _)
   | (with_reducible exact r2_Open.mono _ _ _)
   | (with_reducible exact r4_Sub.mono _ _ _ _)
   | (with_reducible exact LeO.refl _)
   | (with_reducible exact LeO.none _)
   | (with_reducible refine LeO.ite ?_ ?_)
   | (with_reducible refine LeO.bind ?_ (fun _ => ?_))
   | exact ih0 _ _ _ _ _ _ _ _ _ _ _ _
   | exact ih1 _ _ _ _
   | exact r2_Open.mono _ _ _
   | exact r4_Sub.mono _ _ _ _
   | exact LeO.none _
   | refine LeO.ite ?_ ?_
   | refine LeO.bind ?_ (fun _ => ?_)
theorem r4_Cmp.mono : ∀ a0 a1 a2 k, LeO (r4_Cmp.f k a0 a1 a2) (r4_Cmp.f (k + 1) a0 a1 a2) := by
 intro a0 a1 a2 k
 obtain ⟨ih0, ih1⟩ := r4_Cmp.mono_l k
 unfold r4_Cmp.f
 repeat' first
   | (with_reducible exact ih0 _ _ _ _ _ _ _ _ _ _ _ _)
   | (with_reducible exact ih1 _ _ _ _)
   | (with_reducible exact r2_Open.mono _ _ _)
   | (with_reducible exact r4_Sub.mono _ _ _ _)
   | (with_reducible exact LeO.refl _)
   | (with_reducible exact LeO.none _)
   | (with_reducible refine LeO.ite ?_ ?_)
   | (with_reducible refine LeO.bind ?_ (fun _ => ?_))
   | exact ih0 _ _ _ _ _ _ _ _ _ _ _ _
   | exact ih1 _ _ _ _
   | exact r2_Open.mono _ _ _
   | exact r4_Sub.mono _ _ _ _
   | exact LeO.none _
   | refine LeO.ite ?_ ?_
   | refine LeO.bind ?_ (fun _ => ?_)
theorem r4_Cmp.calls (k : Nat) (a0 : Int) (a1 : Int) (a2 : Int) (r : Int) (w : World) (h : r4_Cmp.f k a0 a1 a2 = some r) :
  Calls Try.prog 47 #[.int .i64 a0, .int .u64 a1, .int .u64 a2] w fun e w' => e = .returned (.int .i64 r) ∧ Below w.heap.size w w' := by
 have hu57 := Try.underlying57
 have HB := A_ (Below.refl w.heap.size w)
 have H : ((r2_Open.f k a0 a1).bind fun bt835 => ((r2_Open.f k a0 a2).bind fun bt840 => (if bt835.2.1 = 3 then (r4_Cmp.j0 k a0 a1 a2 true bt835.1 bt835.2.1 bt835.2.2.1 bt835.2.2.2 bt840.1 bt840.2.1 bt840.2.2.1 bt840.2.2.2) else (r4_Cmp.j0 k a0 a1 a2 (bt840.2.1 == 3) bt835.1 bt835.2.1 bt835.2.2.1 bt835.2.2.2 bt840.1 bt840.2.1 bt840.2.2.1 bt840.2.2.2)))) = some r := h
 clear h
 replace H := ob_ H
 obtain ⟨⟨t835, t836, t837, t838⟩, A40, H⟩ := H
 replace H : ((r2_Open.f k a0 a2).bind fun bt840 => (if t836 = 3 then (r4_Cmp.j0 k a0 a1 a2 true t835 t836 t837 t838 bt840.1 bt840.2.1 bt840.2.2.1 bt840.2.2.2) else (r4_Cmp.j0 k a0 a1 a2 (bt840.2.1 == 3) t835 t836 t837 t838 bt840.1 bt840.2.1 bt840.2.2.1 bt840.2.2.2))) = some r := H
 have A4 := A_ A40;clear A40
 replace H := ob_ H
 obtain ⟨⟨t840, t841, t842, t843⟩, A50, H⟩ := H
 replace H : (if t836 = 3 then (r4_Cmp.j0 k a0 a1 a2 true t835 t836 t837 t838 t840 t841 t842 t843) else (r4_Cmp.j0 k a0 a1 a2 (t841 == 3) t835 t836 t837 t838 t840 t841 t842 t843)) = some r := H
 have A5 := A_ A50;clear A50;have HC6 := A_ H;clear H
 go_enter Try.func47, Try.ntmps47
 go_upto_region 3 with (first | ((with_reducible refine gate_callee (f := 48) rfl ?_); refine gl_ (some 12) Try.func48 #[.int .i64 a0, .int .u64 a1] ?_; (with_reducible refine (r2_Open.calls k a0 a1 t835 t836 t837 t838 _ A4.out).mono ?_); rintro e w7 ⟨rfl, hb⟩; refine ⟨_, rfl, ?_⟩; replace HB := A_ (below_step (hb_ HB.out) hb); (try clear hb); (try clear hb2); (try clear hk); (try clear hi)) | ((with_reducible refine gate_dst (N := 7) rfl ?_); refine be_ 7 #[.bool false, .int .i64 0, .int .i64 0, .int .u64 0] 57 ?_; intro gb839 hg w8 hbox hb; have BK839 := A_ (hbox); have GW839 := A_ (sz_ hg (hb_ HB.out)); have GE839 := A_ (sz_ hg (hb_ HB.out)); replace HB := A_ (below_step (hb_ HB.out) hb); clear hb hbox hg; have hcz9_0 := bv_ BK839.out 0; have hcz9_1 := bv_ BK839.out 1; have hcz9_2 := bv_ BK839.out 2; have hcz9_3 := bv_ BK839.out 3; have hfz9_0 := blk_frozen BK839.out 0; have hfz9_1 := blk_frozen BK839.out 1; have hfz9_2 := blk_frozen BK839.out 2; have hfz9_3 := blk_frozen BK839.out 3) | ((with_reducible refine gate_callee (f := 48) rfl ?_); refine gl_ (some 15) Try.func48 #[.int .i64 a0, .int .u64 a2] ?_; (with_reducible refine (r2_Open.calls k a0 a2 t840 t841 t842 t843 _ A5.out).mono ?_); rintro e w10 ⟨rfl, hb⟩; refine ⟨_, rfl, ?_⟩; replace BK839 := A_ (blk_below (g := gb839) (o := .cells #[.bool t835, .int .i64 t836, .int .i64 t837, .int .u64 t838] 57 (0, 0)) (by (with_reducible repeat (first | refine blk_drewN ?_ _ | refine blk_drew ?_ | refine blk_alloc ?_ _)); refine blk_put (cs := #[.bool t835, .int .i64 t836, .int .i64 t837, .int .u64 0]) ?_ 3 _ rfl; (with_reducible repeat (first | refine blk_drewN ?_ _ | refine blk_drew ?_ | refine blk_alloc ?_ _)); refine blk_put (cs := #[.bool t835, .int .i64 t836, .int .i64 0, .int .u64 0]) ?_ 2 _ rfl; (with_reducible repeat (first | refine blk_drewN ?_ _ | refine blk_drew ?_ | refine blk_alloc ?_ _)); refine blk_put (cs := #[.bool t835, .int .i64 0, .int .i64 0, .int .u64 0]) ?_ 1 _ rfl; (with_reducible repeat (first | refine blk_drewN ?_ _ | refine blk_drew ?_ | refine blk_alloc ?_ _)); refine blk_put (cs := #[.bool false, .int .i64 0, .int .i64 0, .int .u64 0]) ?_ 0 _ rfl; (with_reducible repeat (first | refine blk_drewN ?_ _ | refine blk_drew ?_ | refine blk_alloc ?_ _)); exact BK839.out) hb); replace HB := A_ (below_step (hb1_ HB.out GE839.out) hb); (try clear hb); (try clear hb2); (try clear hk); (try clear hi)) | ((with_reducible refine gate_dst (N := 8) rfl ?_); refine be_ 8 #[.bool false, .int .i64 0, .int .i64 0, .int .u64 0] 57 ?_; intro gb844 hg w11 hbox hb; have BK844 := A_ (hbox); have GW844 := A_ (sz_ hg (hb1_ HB.out GE839.out)); have GE844 := A_ (sz_ hg (hb1_ HB.out GE839.out)); have NB839_844 := A_ (nl_ hg BK839.out); have NB844_839 := A_ (ng_ hg BK839.out); replace BK839 := A_ (bb_ BK839.out hb); replace HB := A_ (below_step (hb1_ HB.out GE839.out) hb); clear hb hbox hg; have hnb12 := NB844_839.out; have hnc12 := NB839_844.out; have hcz13_0 := bv_ BK844.out 0; have hcz13_1 := bv_ BK844.out 1; have hcz13_2 := bv_ BK844.out 2; have hcz13_3 := bv_ BK844.out 3; have hfz13_0 := blk_frozen BK844.out 0; have hfz13_1 := blk_frozen BK844.out 1; have hfz13_2 := blk_frozen BK844.out 2; have hfz13_3 := blk_frozen BK844.out 3))
 (try simp only [Act.put, lI_, l0_, lS_])
 go_cut [23] (fun v23 wc => ∃ (kq : Nat) (x23_5 : Bool), v23 = .bool x23_5 ∧ Aside0 (r4_Cmp.j0 kq a0 a1 a2 x23_5 t835 t836 t837 t838 t840 t841 t842 t843 = some r) ∧ Aside0 (kq ≤ k) ∧ Aside0 (wc.heap[gb839]? = some (.cells #[.bool t835, .int .i64 t836, .int .i64 t837, .int .u64 t838] 57 (0, 0))) ∧ Aside0 (wc.heap[gb844]? = some (.cells #[.bool t840, .int .i64 t841, .int .i64 t842, .int .u64 t843] 57 (0, 0))) ∧ Aside0 (Below w.heap.size w wc))
 case first =>
  have H := HC6.out
  clear HC6
  by_cases c14 : t836 = 3
  ·rw [if_pos c14] at H
   have c14b0 : (t836 == 3) = true := beq_iff_eq.mpr c14
   have c14b1 : (t836 != 3) = false := bne_eq_false_iff_eq.mpr c14
   clear c14
   (first | rw [c14b0] | (simp only [i64_w, i32_w]; rw [c14b0]) | skip)
   have H' := A_ H
   clear H
   have hnb15 := NB839_844.out
   have hnc15 := NB844_839.out
   have hcz16_0 := bv_ BK839.out 0
   have hcz16_1 := bv_ BK839.out 1
   have hcz16_2 := bv_ BK839.out 2
   have hcz16_3 := bv_ BK839.out 3
   have hfz16_0 := blk_frozen BK839.out 0
   have hfz16_1 := blk_frozen BK839.out 1
   have hfz16_2 := blk_frozen BK839.out 2
   have hfz16_3 := blk_frozen BK839.out 3
   go_wp2
   go_meet
   case rel => exact ⟨_, (true), sm_, H', ⟨by first | omega | exact Nat.le_refl _⟩, ⟨bf4_ BK839.out NB839_844.out NB839_844.out NB839_844.out NB839_844.out⟩, ⟨by (with_reducible repeat (first | refine blk_drewN ?_ _ | refine blk_drew ?_ | refine blk_alloc ?_ _)); refine blk_put (cs := #[.bool t840, .int .i64 t841, .int .i64 t842, .int .u64 0]) ?_ 3 _ rfl; (with_reducible repeat (first | refine blk_drewN ?_ _ | refine blk_drew ?_ | refine blk_alloc ?_ _)); refine blk_put (cs := #[.bool t840, .int .i64 t841, .int .i64 0, .int .u64 0]) ?_ 2 _ rfl; (with_reducible repeat (first | refine blk_drewN ?_ _ | refine blk_drew ?_ | refine blk_alloc ?_ _)); refine blk_put (cs := #[.bool t840, .int .i64 0, .int .i64 0, .int .u64 0]) ?_ 1 _ rfl; (with_reducible repeat (first | refine blk_drewN ?_ _ | refine blk_drew ?_ | refine blk_alloc ?_ _)); refine blk_put (cs := #[.bool false, .int .i64 0, .int .i64 0, .int .u64 0]) ?_ 0 _ rfl; (with_reducible repeat (first | refine blk_drewN ?_ _ | refine blk_drew ?_ | refine blk_alloc ?_ _)); exact BK844.out⟩, ⟨hb2_ HB.out GE839.out GE844.out⟩⟩
  ·rw [if_neg c14] at H
   have c14b0 : (t836 == 3) = false := beq_eq_false_iff_ne.mpr c14
   have c14b1 : (t836 != 3) = true := bne_iff_ne.mpr c14
   (first | rw [c14b0] | (simp only [i64_w, i32_w]; rw [c14b0]) | skip)
   have H' := A_ H
   clear H
   have hnb17 := NB839_844.out
   have hnc17 := NB844_839.out
   have hcz18_0 := bv_ BK839.out 0
   have hcz18_1 := bv_ BK839.out 1
   have hcz18_2 := bv_ BK839.out 2
   have hcz18_3 := bv_ BK839.out 3
   have hfz18_0 := blk_frozen BK839.out 0
   have hfz18_1 := blk_frozen BK839.out 1
   have hfz18_2 := blk_frozen BK839.out 2
   have hfz18_3 := blk_frozen BK839.out 3
   have hcz19_0 := bv_ BK844.out 0
   have hcz19_1 := bv_ BK844.out 1
   have hcz19_2 := bv_ BK844.out 2
   have hcz19_3 := bv_ BK844.out 3
   have hfz19_0 := blk_frozen BK844.out 0
   have hfz19_1 := blk_frozen BK844.out 1
   have hfz19_2 := blk_frozen BK844.out 2
   have hfz19_3 := blk_frozen BK844.out 3
   go_wp2
   go_meet
   case rel => exact ⟨_, ((t841 == 3)), sm_, H', ⟨by first | omega | exact Nat.le_refl _⟩, ⟨bf4_ BK839.out NB839_844.out NB839_844.out NB839_844.out NB839_844.out⟩, ⟨by (with_reducible repeat (first | refine blk_drewN ?_ _ | refine blk_drew ?_ | refine blk_alloc ?_ _)); refine blk_put (cs := #[.bool t840, .int .i64 t841, .int .i64 t842, .int .u64 0]) ?_ 3 _ rfl; (with_reducible repeat (first | refine blk_drewN ?_ _ | refine blk_drew ?_ | refine blk_alloc ?_ _)); refine blk_put (cs := #[.bool t840, .int .i64 t841, .int .i64 0, .int .u64 0]) ?_ 2 _ rfl; (with_reducible repeat (first | refine blk_drewN ?_ _ | refine blk_drew ?_ | refine blk_alloc ?_ _)); refine blk_put (cs := #[.bool t840, .int .i64 0, .int .i64 0, .int .u64 0]) ?_ 1 _ rfl; (with_reducible repeat (first | refine blk_drewN ?_ _ | refine blk_drew ?_ | refine blk_alloc ?_ _)); refine blk_put (cs := #[.bool false, .int .i64 0, .int .i64 0, .int .u64 0]) ?_ 0 _ rfl; (with_reducible repeat (first | refine blk_drewN ?_ _ | refine blk_drew ?_ | refine blk_alloc ?_ _)); exact BK844.out⟩, ⟨hb2_ HB.out GE839.out GE844.out⟩⟩
 case rest =>
  clear HC6
  try clear c1
  try clear p2
  try clear c4
  try clear c12
  try clear c14
  try clear c14b0
  try clear c14b1
  try clear c15
  try clear c17
  try clear hcz13_0
  try clear hcz13_1
  try clear hcz13_2
  try clear hcz13_3
  try clear hcz16_0
  try clear hcz16_1
  try clear hcz16_2
  try clear hcz16_3
  try clear hcz18_0
  try clear hcz18_1
  try clear hcz18_2
  try clear hcz18_3
  try clear hcz19_0
  try clear hcz19_1
  try clear hcz19_2
  try clear hcz19_3
  try clear hcz9_0
  try clear hcz9_1
  try clear hcz9_2
  try clear hcz9_3
  try clear hfz13_0
  try clear hfz13_1
  try clear hfz13_2
  try clear hfz13_3
  try clear hfz16_0
  try clear hfz16_1
  try clear hfz16_2
  try clear hfz16_3
  try clear hfz18_0
  try clear hfz18_1
  try clear hfz18_2
  try clear hfz18_3
  try clear hfz19_0
  try clear hfz19_1
  try clear hfz19_2
  try clear hfz19_3
  try clear hfz9_0
  try clear hfz9_1
  try clear hfz9_2
  try clear hfz9_3
  obtain ⟨kq, x23_5, rfl, HA, HJ5, BK839, BK844, HB⟩ := hcut
  cases kq with
  | zero => exact absurd HA.out (by simp [r4_Cmp.j0])
  | succ kj5 =>
   have H := HA.out
   clear HA
   simp only [r4_Cmp.j0] at H
   by_cases c20 : x23_5 = true
   ·subst c20
    have H1 : (some 2) = some r := by rw [if_pos rfl] at H; exact H
    clear H;have H := H1;clear H1
    obtain rfl := Option.some.inj H
    go_wp2
    go_ret
    exact ⟨er_, hb2_ HB.out GE839.out GE844.out⟩
   ·replace c20 := Bool.eq_false_iff.mpr c20
    subst c20
    have H1 : (if t836 = 2 then (if t841 = 2 then (r4_Cmp.j1 kj5 a0 a1 a2 (t835 == t840)) else (r4_Cmp.j1 kj5 a0 a1 a2 false)) else (r4_Cmp.j1 kj5 a0 a1 a2 false)) = some r := by rw [if_neg (show ¬ (false = true) by decide)] at H; exact H
    clear H;have H := H1;clear H1;have HC21 := A_ H;clear H
    go_upto_region 5 with (fail)
    go_cut [38] (fun v38 wc => ∃ (kq : Nat) (x38_20 : Bool), v38 = .bool x38_20 ∧ Aside0 (r4_Cmp.j1 kq a0 a1 a2 x38_20 = some r) ∧ Aside0 (kq ≤ kj5) ∧ Aside0 (wc.heap[gb839]? = some (.cells #[.bool t835, .int .i64 t836, .int .i64 t837, .int .u64 t838] 57 (0, 0))) ∧ Aside0 (wc.heap[gb844]? = some (.cells #[.bool t840, .int .i64 t841, .int .i64 t842, .int .u64 t843] 57 (0, 0))) ∧ Aside0 (Below w.heap.size w wc))
    case first =>
     have H := HC21.out
     clear HC21
     by_cases c22 : t836 = 2
     ·rw [if_pos c22] at H
      have c22b0 : (t836 == 2) = true := beq_iff_eq.mpr c22
      have c22b1 : (t836 != 2) = false := bne_eq_false_iff_eq.mpr c22
      clear c22
      (first | rw [c22b0] | (simp only [i64_w, i32_w]; rw [c22b0]) | skip)
      by_cases c23 : t841 = 2
      ·rw [if_pos c23] at H
       have c23b0 : (t841 == 2) = true := beq_iff_eq.mpr c23
       have c23b1 : (t841 != 2) = false := bne_eq_false_iff_eq.mpr c23
       clear c23
       have H' := A_ H
       clear H
       have hnb24 := NB839_844.out
       have hnc24 := NB844_839.out
       have hcz25_0 := bv_ BK839.out 0
       have hcz25_1 := bv_ BK839.out 1
       have hcz25_2 := bv_ BK839.out 2
       have hcz25_3 := bv_ BK839.out 3
       have hfz25_0 := blk_frozen BK839.out 0
       have hfz25_1 := blk_frozen BK839.out 1
       have hfz25_2 := blk_frozen BK839.out 2
       have hfz25_3 := blk_frozen BK839.out 3
       have hcz26_0 := bv_ BK844.out 0
       have hcz26_1 := bv_ BK844.out 1
       have hcz26_2 := bv_ BK844.out 2
       have hcz26_3 := bv_ BK844.out 3
       have hfz26_0 := blk_frozen BK844.out 0
       have hfz26_1 := blk_frozen BK844.out 1
       have hfz26_2 := blk_frozen BK844.out 2
       have hfz26_3 := blk_frozen BK844.out 3
       go_wp2
       go_meet
       case rel => exact ⟨_, ((t835 == t840)), sm_, H', ⟨by have := HJ5.out; first | omega | exact Nat.le_refl _⟩, ⟨bk_ BK839.out⟩, ⟨bk_ BK844.out⟩, ⟨hb2_ HB.out GE839.out GE844.out⟩⟩
      ·rw [if_neg c23] at H
       have c23b0 : (t841 == 2) = false := beq_eq_false_iff_ne.mpr c23
       have c23b1 : (t841 != 2) = true := bne_iff_ne.mpr c23
       have H' := A_ H
       clear H
       have hnb27 := NB839_844.out
       have hnc27 := NB844_839.out
       have hcz28_0 := bv_ BK839.out 0
       have hcz28_1 := bv_ BK839.out 1
       have hcz28_2 := bv_ BK839.out 2
       have hcz28_3 := bv_ BK839.out 3
       have hfz28_0 := blk_frozen BK839.out 0
       have hfz28_1 := blk_frozen BK839.out 1
       have hfz28_2 := blk_frozen BK839.out 2
       have hfz28_3 := blk_frozen BK839.out 3
       have hcz29_0 := bv_ BK844.out 0
       have hcz29_1 := bv_ BK844.out 1
       have hcz29_2 := bv_ BK844.out 2
       have hcz29_3 := bv_ BK844.out 3
       have hfz29_0 := blk_frozen BK844.out 0
       have hfz29_1 := blk_frozen BK844.out 1
       have hfz29_2 := blk_frozen BK844.out 2
       have hfz29_3 := blk_frozen BK844.out 3
       go_wp2
       go_meet
       case rel => exact ⟨_, (false), sm_, H', ⟨by have := HJ5.out; first | omega | exact Nat.le_refl _⟩, ⟨bk_ BK839.out⟩, ⟨bk_ BK844.out⟩, ⟨hb2_ HB.out GE839.out GE844.out⟩⟩
     ·rw [if_neg c22] at H
      have c22b0 : (t836 == 2) = false := beq_eq_false_iff_ne.mpr c22
      have c22b1 : (t836 != 2) = true := bne_iff_ne.mpr c22
      (first | rw [c22b0] | (simp only [i64_w, i32_w]; rw [c22b0]) | skip)
      have H' := A_ H
      clear H
      have hnb30 := NB839_844.out
      have hnc30 := NB844_839.out
      have hcz31_0 := bv_ BK839.out 0
      have hcz31_1 := bv_ BK839.out 1
      have hcz31_2 := bv_ BK839.out 2
      have hcz31_3 := bv_ BK839.out 3
      have hfz31_0 := blk_frozen BK839.out 0
      have hfz31_1 := blk_frozen BK839.out 1
      have hfz31_2 := blk_frozen BK839.out 2
      have hfz31_3 := blk_frozen BK839.out 3
      go_wp2
      go_meet
      case rel => exact ⟨_, (false), sm_, H', ⟨by have := HJ5.out; first | omega | exact Nat.le_refl _⟩, ⟨bk_ BK839.out⟩, ⟨bk_ BK844.out⟩, ⟨hb2_ HB.out GE839.out GE844.out⟩⟩
    case rest =>
     clear HC21
     try clear c1
     try clear c2
     try clear p2
     try clear c3
     try clear c4
     try clear c12
     try clear c14
     try clear c14b0
     try clear c14b1
     try clear c15
     try clear c17
     try clear c20
     try clear c22
     try clear c22b0
     try clear c22b1
     try clear c23
     try clear c23b0
     try clear c23b1
     try clear c24
     try clear c27
     try clear c30
     try clear hcz13_0
     try clear hcz13_1
     try clear hcz13_2
     try clear hcz13_3
     try clear hcz16_0
     try clear hcz16_1
     try clear hcz16_2
     try clear hcz16_3
     try clear hcz18_0
     try clear hcz18_1
     try clear hcz18_2
     try clear hcz18_3
     try clear hcz19_0
     try clear hcz19_1
     try clear hcz19_2
     try clear hcz19_3
     try clear hcz25_0
     try clear hcz25_1
     try clear hcz25_2
     try clear hcz25_3
     try clear hcz26_0
     try clear hcz26_1
     try clear hcz26_2
     try clear hcz26_3
     try clear hcz28_0
     try clear hcz28_1
     try clear hcz28_2
     try clear hcz28_3
     try clear hcz29_0
     try clear hcz29_1
     try clear hcz29_2
     try clear hcz29_3
     try clear hcz31_0
     try clear hcz31_1
     try clear hcz31_2
     try clear hcz31_3
     try clear hcz9_0
     try clear hcz9_1
     try clear hcz9_2
     try clear hcz9_3
     try clear hfz13_0
     try clear hfz13_1
     try clear hfz13_2
     try clear hfz13_3
     try clear hfz16_0
     try clear hfz16_1
     try clear hfz16_2
     try clear hfz16_3
     try clear hfz18_0
     try clear hfz18_1
     try clear hfz18_2
     try clear hfz18_3
     try clear hfz19_0
     try clear hfz19_1
     try clear hfz19_2
     try clear hfz19_3
     try clear hfz25_0
     try clear hfz25_1
     try clear hfz25_2
     try clear hfz25_3
     try clear hfz26_0
     try clear hfz26_1
     try clear hfz26_2
     try clear hfz26_3
     try clear hfz28_0
     try clear hfz28_1
     try clear hfz28_2
     try clear hfz28_3
     try clear hfz29_0
     try clear hfz29_1
     try clear hfz29_2
     try clear hfz29_3
     try clear hfz31_0
     try clear hfz31_1
     try clear hfz31_2
     try clear hfz31_3
     try clear hfz9_0
     try clear hfz9_1
     try clear hfz9_2
     try clear hfz9_3
     try clear p2
     obtain ⟨kq, x38_20, rfl, HA, HJ20, BK839, BK844, HB⟩ := hcut
     cases kq with
     | zero => exact absurd HA.out (by simp [r4_Cmp.j1])
     | succ kj20 =>
      have H := HA.out
      clear HA
      simp only [r4_Cmp.j1] at H
      by_cases c32 : x38_20 = true
      ·subst c32
       have H1 : (some 0) = some r := by rw [if_pos rfl] at H; exact H
       clear H;have H := H1;clear H1
       obtain rfl := Option.some.inj H
       go_wp2
       go_ret
       exact ⟨er_, hb2_ HB.out GE839.out GE844.out⟩
      ·replace c32 := Bool.eq_false_iff.mpr c32
       subst c32
       have H1 : ((r4_Sub.f kj20 a0 a1 a2).bind fun t845 => ((r2_Open.f kj20 a0 t845).bind fun bt846 => (if bt846.2.1 = 0 then (some 0) else (if bt846.1 = true then (some (-1)) else (some 1))))) = some r := by rw [if_neg (show ¬ (false = true) by decide)] at H; exact H
       clear H;have H := H1;clear H1
       replace H := ob_ H
       obtain ⟨t845, A330, H⟩ := H
       replace H : ((r2_Open.f kj20 a0 t845).bind fun bt846 => (if bt846.2.1 = 0 then (some 0) else (if bt846.1 = true then (some (-1)) else (some 1)))) = some r := H
       have A33 := A_ A330;clear A330
       replace H := ob_ H
       obtain ⟨⟨t846, t847, t848, t849⟩, A340, H⟩ := H
       replace H : (if t847 = 0 then (some 0) else (if t846 = true then (some (-1)) else (some 1))) = some r := H
       have A34 := A_ A340;clear A340
       by_cases c35 : t847 = 0
       ·rw [if_pos c35] at H
        have c35b0 : (t847 == 0) = true := beq_iff_eq.mpr c35
        have c35b1 : (t847 != 0) = false := bne_eq_false_iff_eq.mpr c35
        clear c35
        obtain rfl := Option.some.inj H
        go_wp2_with (first | ((with_reducible refine gate_callee (f := 46) rfl ?_); refine gl_ (some 43) Try.func46 #[.int .i64 a0, .int .u64 a1, .int .u64 a2] ?_; (with_reducible refine (r4_Sub.calls kj20 a0 a1 a2 t845 _ A33.out).mono ?_); rintro e w36 ⟨rfl, hb⟩; refine ⟨_, rfl, ?_⟩; replace BK839 := A_ (bb_ BK839.out hb); replace BK844 := A_ (bb_ BK844.out hb); replace HB := A_ (below_step (hb2_ HB.out GE839.out GE844.out) hb); (try clear hb); (try clear hb2); (try clear hk); (try clear hi)) | ((with_reducible refine gate_callee (f := 48) rfl ?_); refine gl_ (some 44) Try.func48 #[.int .i64 a0, .int .u64 t845] ?_; (with_reducible refine (r2_Open.calls kj20 a0 t845 t846 t847 t848 t849 _ A34.out).mono ?_); rintro e w37 ⟨rfl, hb⟩; refine ⟨_, rfl, ?_⟩; replace BK839 := A_ (bb_ BK839.out hb); replace BK844 := A_ (bb_ BK844.out hb); replace HB := A_ (below_step (hb2_ HB.out GE839.out GE844.out) hb); (try clear hb); (try clear hb2); (try clear hk); (try clear hi)) | ((with_reducible refine gate_dst (N := 9) rfl ?_); refine be_ 9 #[.bool false, .int .i64 0, .int .i64 0, .int .u64 0] 57 ?_; intro gb850 hg w38 hbox hb; have BK850 := A_ (hbox); have GW850 := A_ (sz_ hg (hb2_ HB.out GE839.out GE844.out)); have GE850 := A_ (sz_ hg (hb2_ HB.out GE839.out GE844.out)); have NB839_850 := A_ (nl_ hg BK839.out); have NB850_839 := A_ (ng_ hg BK839.out); have NB844_850 := A_ (nl_ hg BK844.out); have NB850_844 := A_ (ng_ hg BK844.out); replace BK839 := A_ (bb_ BK839.out hb); replace BK844 := A_ (bb_ BK844.out hb); replace HB := A_ (below_step (hb2_ HB.out GE839.out GE844.out) hb); clear hb hbox hg; have hnb39 := NB850_839.out; have hnc39 := NB839_850.out; have hnb40 := NB850_844.out; have hnc40 := NB844_850.out; have hcz41_0 := bv_ BK850.out 0; have hcz41_1 := bv_ BK850.out 1; have hcz41_2 := bv_ BK850.out 2; have hcz41_3 := bv_ BK850.out 3; have hfz41_0 := blk_frozen BK850.out 0; have hfz41_1 := blk_frozen BK850.out 1; have hfz41_2 := blk_frozen BK850.out 2; have hfz41_3 := blk_frozen BK850.out 3))
        go_ret
        exact ⟨er_, hb3_ HB.out GE839.out GE844.out GE850.out⟩
       ·rw [if_neg c35] at H
        have c35b0 : (t847 == 0) = false := beq_eq_false_iff_ne.mpr c35
        have c35b1 : (t847 != 0) = true := bne_iff_ne.mpr c35
        by_cases c42 : t846 = true
        ·subst c42
         have H1 : (some (-1)) = some r := by rw [if_pos rfl] at H; exact H
         clear H;have H := H1;clear H1
         obtain rfl := Option.some.inj H
         go_wp2_with (first | ((with_reducible refine gate_callee (f := 46) rfl ?_); refine gl_ (some 43) Try.func46 #[.int .i64 a0, .int .u64 a1, .int .u64 a2] ?_; (with_reducible refine (r4_Sub.calls kj20 a0 a1 a2 t845 _ A33.out).mono ?_); rintro e w43 ⟨rfl, hb⟩; refine ⟨_, rfl, ?_⟩; replace BK839 := A_ (bb_ BK839.out hb); replace BK844 := A_ (bb_ BK844.out hb); replace HB := A_ (below_step (hb2_ HB.out GE839.out GE844.out) hb); (try clear hb); (try clear hb2); (try clear hk); (try clear hi)) | ((with_reducible refine gate_callee (f := 48) rfl ?_); refine gl_ (some 44) Try.func48 #[.int .i64 a0, .int .u64 t845] ?_; (with_reducible refine (r2_Open.calls kj20 a0 t845 true t847 t848 t849 _ A34.out).mono ?_); rintro e w44 ⟨rfl, hb⟩; refine ⟨_, rfl, ?_⟩; replace BK839 := A_ (bb_ BK839.out hb); replace BK844 := A_ (bb_ BK844.out hb); replace HB := A_ (below_step (hb2_ HB.out GE839.out GE844.out) hb); (try clear hb); (try clear hb2); (try clear hk); (try clear hi)) | ((with_reducible refine gate_dst (N := 9) rfl ?_); refine be_ 9 #[.bool false, .int .i64 0, .int .i64 0, .int .u64 0] 57 ?_; intro gb850 hg w45 hbox hb; have BK850 := A_ (hbox); have GW850 := A_ (sz_ hg (hb2_ HB.out GE839.out GE844.out)); have GE850 := A_ (sz_ hg (hb2_ HB.out GE839.out GE844.out)); have NB839_850 := A_ (nl_ hg BK839.out); have NB850_839 := A_ (ng_ hg BK839.out); have NB844_850 := A_ (nl_ hg BK844.out); have NB850_844 := A_ (ng_ hg BK844.out); replace BK839 := A_ (bb_ BK839.out hb); replace BK844 := A_ (bb_ BK844.out hb); replace HB := A_ (below_step (hb2_ HB.out GE839.out GE844.out) hb); clear hb hbox hg; have hnb46 := NB850_839.out; have hnc46 := NB839_850.out; have hnb47 := NB850_844.out; have hnc47 := NB844_850.out; have hcz48_0 := bv_ BK850.out 0; have hcz48_1 := bv_ BK850.out 1; have hcz48_2 := bv_ BK850.out 2; have hcz48_3 := bv_ BK850.out 3; have hfz48_0 := blk_frozen BK850.out 0; have hfz48_1 := blk_frozen BK850.out 1; have hfz48_2 := blk_frozen BK850.out 2; have hfz48_3 := blk_frozen BK850.out 3))
         go_ret
         exact ⟨er_, hb3_ HB.out GE839.out GE844.out GE850.out⟩
        ·replace c42 := Bool.eq_false_iff.mpr c42
         subst c42
         have H1 : (some 1) = some r := by rw [if_neg (show ¬ (false = true) by decide)] at H; exact H
         clear H;have H := H1;clear H1
         obtain rfl := Option.some.inj H
         go_wp2_with (first | ((with_reducible refine gate_callee (f := 46) rfl ?_); refine gl_ (some 43) Try.func46 #[.int .i64 a0, .int .u64 a1, .int .u64 a2] ?_; (with_reducible refine (r4_Sub.calls kj20 a0 a1 a2 t845 _ A33.out).mono ?_); rintro e w49 ⟨rfl, hb⟩; refine ⟨_, rfl, ?_⟩; replace BK839 := A_ (bb_ BK839.out hb); replace BK844 := A_ (bb_ BK844.out hb); replace HB := A_ (below_step (hb2_ HB.out GE839.out GE844.out) hb); (try clear hb); (try clear hb2); (try clear hk); (try clear hi)) | ((with_reducible refine gate_callee (f := 48) rfl ?_); refine gl_ (some 44) Try.func48 #[.int .i64 a0, .int .u64 t845] ?_; (with_reducible refine (r2_Open.calls kj20 a0 t845 false t847 t848 t849 _ A34.out).mono ?_); rintro e w50 ⟨rfl, hb⟩; refine ⟨_, rfl, ?_⟩; replace BK839 := A_ (bb_ BK839.out hb); replace BK844 := A_ (bb_ BK844.out hb); replace HB := A_ (below_step (hb2_ HB.out GE839.out GE844.out) hb); (try clear hb); (try clear hb2); (try clear hk); (try clear hi)) | ((with_reducible refine gate_dst (N := 9) rfl ?_); refine be_ 9 #[.bool false, .int .i64 0, .int .i64 0, .int .u64 0] 57 ?_; intro gb850 hg w51 hbox hb; have BK850 := A_ (hbox); have GW850 := A_ (sz_ hg (hb2_ HB.out GE839.out GE844.out)); have GE850 := A_ (sz_ hg (hb2_ HB.out GE839.out GE844.out)); have NB839_850 := A_ (nl_ hg BK839.out); have NB850_839 := A_ (ng_ hg BK839.out); have NB844_850 := A_ (nl_ hg BK844.out); have NB850_844 := A_ (ng_ hg BK844.out); replace BK839 := A_ (bb_ BK839.out hb); replace BK844 := A_ (bb_ BK844.out hb); replace HB := A_ (below_step (hb2_ HB.out GE839.out GE844.out) hb); clear hb hbox hg; have hnb52 := NB850_839.out; have hnc52 := NB839_850.out; have hnb53 := NB850_844.out; have hnc53 := NB844_850.out; have hcz54_0 := bv_ BK850.out 0; have hcz54_1 := bv_ BK850.out 1; have hcz54_2 := bv_ BK850.out 2; have hcz54_3 := bv_ BK850.out 3; have hfz54_0 := blk_frozen BK850.out 0; have hfz54_1 := blk_frozen BK850.out 1; have hfz54_2 := blk_frozen BK850.out 2; have hfz54_3 := blk_frozen BK850.out 3))
         go_ret
         exact ⟨er_, hb3_ HB.out GE839.out GE844.out GE850.out⟩
def L04_SumClose.j0 : Nat → Int → Int → Int → Bool → Option (Bool)
 | 0, _, _, _, _ => none
 | k + 1, x0, x1, x2, x55 => if x55 = true then (some true) else ((sum_Sub.f k x0 x1 x2).bind fun t874 => ((sum_Add.f k x0 t874 x2).bind fun t875 => ((r2_Cut.f x0 x1).bind fun t876 => (some (t875 == t876)))))
def L04_SumClose.f (k : Nat) (a0 : Int) (a1 : Int) (a2 : Int) : Option (Bool) := (L04_awake.f k).bind fun t858 => (if t858 = true then ((r2_Known.f a0).bind fun t859 => (if t859 = true then ((r2_Open.f k a0 a1).bind fun bt860 => ((r2_Open.f k a0 a2).bind fun bt864 => (if bt860.2.1 = 1 then (if bt864.2.1 = 1 then (if bt860.1 = true then (L04_SumClose.j0 k a0 a1 a2 true) else (if bt864.1 = true then (L04_SumClose.j0 k a0 a1 a2 true) else ((sum_Add.f k a0 a1 a1).bind fun t870 => ((r4_Cmp.f k a0 t870 a2).bind fun t871 => (if t871 < 0 then (L04_SumClose.j0 k a0 a1 a2 true) else ((sum_Add.f k a0 a2 a2).bind fun t872 => ((r4_Cmp.f k a0 t872 a1).bind fun t873 => (L04_SumClose.j0 k a0 a1 a2 (decide (t873 < 0)))))))))) else (L04_SumClose.j0 k a0 a1 a2 true)) else (L04_SumClose.j0 k a0 a1 a2 true)))) else (some true))) else (some false))
theorem L04_SumClose.mono_l : ∀ k, (∀ y0 y1 y2 y3, LeO (L04_SumClose.j0 k y0 y1 y2 y3) (L04_SumClose.j0 (k + 1) y0 y1 y2 y3))
 | 0 => fun _ _ _ _ r h => by simp [L04_SumClose.j0] at h
 | k + 1 => by
  have ih0 := L04_SumClose.mono_l k
  ·intro y0 y1 y2 y3
   unfold L04_SumClose.j0
   repeat' first
   | (with_reducible exact ih0 _ _ _ _)
   | (with_reducible exact sum_Add.mono _ _ _ _)
   | (with_reducible exact sum_Sub.mono _ _ _ _)
   | (with_reducible exact L04_awake.mono _)
   | (with_reducible exact r2_Open.mono _ _ _)
   | (with_reducible exact r4_Cmp.mono _ _ _ _)
   | (with_reducible exact LeO.refl _)
   | (with_reducible exact LeO.none _)
   | (with_reducible refine LeO.ite ?_ ?_)
   | (with_reducible refine LeO.bind ?_ (fun _ => ?_))
   | exact ih0 _ _ _ _
   | exact sum_Add.mono _ _ _ _
   | exact sum_Sub.mono _ _ _ _
   | exact L04_awake.mono _
   | exact r2_Open.mono _ _ _
   | exact r4_Cmp.mono _ _ _ _
   | exact LeO.none _
   | refine LeO.ite ?_ ?_
   | refine LeO.bind ?_ (fun _ => ?_)
theorem L04_SumClose.mono : ∀ a0 a1 a2 k, LeO (L04_SumClose.f k a0 a1 a2) (L04_SumClose.f (k + 1) a0 a1 a2) := by
 intro a0 a1 a2 k
 have ih0 := L04_SumClose.mono_l k
 unfold L04_SumClose.f
 repeat' first
   | (with_reducible exact ih0 _ _ _ _)
   | (with_reducible exact sum_Add.mono _ _ _ _)
   | (with_reducible exact sum_Sub.mono _ _ _ _)
   | (with_reducible exact L04_awake.mono _)
   | (with_reducible exact r2_Open.mono _ _ _)
   | (with_reducible exact r4_Cmp.mono _ _ _ _)
   | (with_reducible exact LeO.refl _)
   | (with_reducible exact LeO.none _)
   | (with_reducible refine LeO.ite ?_ ?_)
   | (with_reducible refine LeO.bind ?_ (fun _ => ?_))
   | exact ih0 _ _ _ _
   | exact sum_Add.mono _ _ _ _
   | exact sum_Sub.mono _ _ _ _
   | exact L04_awake.mono _
   | exact r2_Open.mono _ _ _
   | exact r4_Cmp.mono _ _ _ _
   | exact LeO.none _
   | refine LeO.ite ?_ ?_
   | refine LeO.bind ?_ (fun _ => ?_)
theorem L04_SumClose.calls (k : Nat) (a0 : Int) (a1 : Int) (a2 : Int) (r : Bool) (w : World) (h : L04_SumClose.f k a0 a1 a2 = some r) (hr_ : Aside0 (r = true)) :
  Calls Try.prog 13 #[.int .i64 a0, .int .u64 a1, .int .u64 a2] w fun e w' => e = .returned (.bool r) ∧ Below w.heap.size w w' := by
 have hu57 := Try.underlying57
 have HB := A_ (Below.refl w.heap.size w)
 have H : ((L04_awake.f k).bind fun t858 => (if t858 = true then ((r2_Known.f a0).bind fun t859 => (if t859 = true then ((r2_Open.f k a0 a1).bind fun bt860 => ((r2_Open.f k a0 a2).bind fun bt864 => (if bt860.2.1 = 1 then (if bt864.2.1 = 1 then (if bt860.1 = true then (L04_SumClose.j0 k a0 a1 a2 true) else (if bt864.1 = true then (L04_SumClose.j0 k a0 a1 a2 true) else ((sum_Add.f k a0 a1 a1).bind fun t870 => ((r4_Cmp.f k a0 t870 a2).bind fun t871 => (if t871 < 0 then (L04_SumClose.j0 k a0 a1 a2 true) else ((sum_Add.f k a0 a2 a2).bind fun t872 => ((r4_Cmp.f k a0 t872 a1).bind fun t873 => (L04_SumClose.j0 k a0 a1 a2 (decide (t873 < 0)))))))))) else (L04_SumClose.j0 k a0 a1 a2 true)) else (L04_SumClose.j0 k a0 a1 a2 true)))) else (some true))) else (some false))) = some r := h
 clear h
 replace H := ob_ H
 obtain ⟨t858, A40, H⟩ := H
 replace H : (if t858 = true then ((r2_Known.f a0).bind fun t859 => (if t859 = true then ((r2_Open.f k a0 a1).bind fun bt860 => ((r2_Open.f k a0 a2).bind fun bt864 => (if bt860.2.1 = 1 then (if bt864.2.1 = 1 then (if bt860.1 = true then (L04_SumClose.j0 k a0 a1 a2 true) else (if bt864.1 = true then (L04_SumClose.j0 k a0 a1 a2 true) else ((sum_Add.f k a0 a1 a1).bind fun t870 => ((r4_Cmp.f k a0 t870 a2).bind fun t871 => (if t871 < 0 then (L04_SumClose.j0 k a0 a1 a2 true) else ((sum_Add.f k a0 a2 a2).bind fun t872 => ((r4_Cmp.f k a0 t872 a1).bind fun t873 => (L04_SumClose.j0 k a0 a1 a2 (decide (t873 < 0)))))))))) else (L04_SumClose.j0 k a0 a1 a2 true)) else (L04_SumClose.j0 k a0 a1 a2 true)))) else (some true))) else (some false)) = some r := H
 have A4 := A_ A40;clear A40
 by_cases c5 : t858 = true
 ·subst c5
  have H1 : ((r2_Known.f a0).bind fun t859 => (if t859 = true then ((r2_Open.f k a0 a1).bind fun bt860 => ((r2_Open.f k a0 a2).bind fun bt864 => (if bt860.2.1 = 1 then (if bt864.2.1 = 1 then (if bt860.1 = true then (L04_SumClose.j0 k a0 a1 a2 true) else (if bt864.1 = true then (L04_SumClose.j0 k a0 a1 a2 true) else ((sum_Add.f k a0 a1 a1).bind fun t870 => ((r4_Cmp.f k a0 t870 a2).bind fun t871 => (if t871 < 0 then (L04_SumClose.j0 k a0 a1 a2 true) else ((sum_Add.f k a0 a2 a2).bind fun t872 => ((r4_Cmp.f k a0 t872 a1).bind fun t873 => (L04_SumClose.j0 k a0 a1 a2 (decide (t873 < 0)))))))))) else (L04_SumClose.j0 k a0 a1 a2 true)) else (L04_SumClose.j0 k a0 a1 a2 true)))) else (some true))) = some r := by rw [if_pos rfl] at H; exact H
  clear H;have H := H1;clear H1
  replace H := ob_ H
  obtain ⟨t859, A60, H⟩ := H
  replace H : (if t859 = true then ((r2_Open.f k a0 a1).bind fun bt860 => ((r2_Open.f k a0 a2).bind fun bt864 => (if bt860.2.1 = 1 then (if bt864.2.1 = 1 then (if bt860.1 = true then (L04_SumClose.j0 k a0 a1 a2 true) else (if bt864.1 = true then (L04_SumClose.j0 k a0 a1 a2 true) else ((sum_Add.f k a0 a1 a1).bind fun t870 => ((r4_Cmp.f k a0 t870 a2).bind fun t871 => (if t871 < 0 then (L04_SumClose.j0 k a0 a1 a2 true) else ((sum_Add.f k a0 a2 a2).bind fun t872 => ((r4_Cmp.f k a0 t872 a1).bind fun t873 => (L04_SumClose.j0 k a0 a1 a2 (decide (t873 < 0)))))))))) else (L04_SumClose.j0 k a0 a1 a2 true)) else (L04_SumClose.j0 k a0 a1 a2 true)))) else (some true)) = some r := H
  have A6 := A_ A60;clear A60
  by_cases c7 : t859 = true
  ·subst c7
   have H1 : ((r2_Open.f k a0 a1).bind fun bt860 => ((r2_Open.f k a0 a2).bind fun bt864 => (if bt860.2.1 = 1 then (if bt864.2.1 = 1 then (if bt860.1 = true then (L04_SumClose.j0 k a0 a1 a2 true) else (if bt864.1 = true then (L04_SumClose.j0 k a0 a1 a2 true) else ((sum_Add.f k a0 a1 a1).bind fun t870 => ((r4_Cmp.f k a0 t870 a2).bind fun t871 => (if t871 < 0 then (L04_SumClose.j0 k a0 a1 a2 true) else ((sum_Add.f k a0 a2 a2).bind fun t872 => ((r4_Cmp.f k a0 t872 a1).bind fun t873 => (L04_SumClose.j0 k a0 a1 a2 (decide (t873 < 0)))))))))) else (L04_SumClose.j0 k a0 a1 a2 true)) else (L04_SumClose.j0 k a0 a1 a2 true)))) = some r := by rw [if_pos rfl] at H; exact H
   clear H;have H := H1;clear H1
   replace H := ob_ H
   obtain ⟨⟨t860, t861, t862, t863⟩, A80, H⟩ := H
   replace H : ((r2_Open.f k a0 a2).bind fun bt864 => (if t861 = 1 then (if bt864.2.1 = 1 then (if t860 = true then (L04_SumClose.j0 k a0 a1 a2 true) else (if bt864.1 = true then (L04_SumClose.j0 k a0 a1 a2 true) else ((sum_Add.f k a0 a1 a1).bind fun t870 => ((r4_Cmp.f k a0 t870 a2).bind fun t871 => (if t871 < 0 then (L04_SumClose.j0 k a0 a1 a2 true) else ((sum_Add.f k a0 a2 a2).bind fun t872 => ((r4_Cmp.f k a0 t872 a1).bind fun t873 => (L04_SumClose.j0 k a0 a1 a2 (decide (t873 < 0)))))))))) else (L04_SumClose.j0 k a0 a1 a2 true)) else (L04_SumClose.j0 k a0 a1 a2 true))) = some r := H
   have A8 := A_ A80;clear A80
   replace H := ob_ H
   obtain ⟨⟨t864, t865, t866, t867⟩, A90, H⟩ := H
   replace H : (if t861 = 1 then (if t865 = 1 then (if t860 = true then (L04_SumClose.j0 k a0 a1 a2 true) else (if t864 = true then (L04_SumClose.j0 k a0 a1 a2 true) else ((sum_Add.f k a0 a1 a1).bind fun t870 => ((r4_Cmp.f k a0 t870 a2).bind fun t871 => (if t871 < 0 then (L04_SumClose.j0 k a0 a1 a2 true) else ((sum_Add.f k a0 a2 a2).bind fun t872 => ((r4_Cmp.f k a0 t872 a1).bind fun t873 => (L04_SumClose.j0 k a0 a1 a2 (decide (t873 < 0)))))))))) else (L04_SumClose.j0 k a0 a1 a2 true)) else (L04_SumClose.j0 k a0 a1 a2 true)) = some r := H
   have A9 := A_ A90;clear A90;have HC10 := A_ H;clear H
   go_enter Try.func13, Try.ntmps13
   go_upto_region 6 with (first | ((with_reducible refine gate_callee (f := 43) rfl ?_); refine gl_ (some 9) Try.func43 #[] ?_; (with_reducible refine (L04_awake.calls k  true _ A4.out).mono ?_); rintro e w11 ⟨rfl, hb⟩; refine ⟨_, rfl, ?_⟩; replace HB := A_ (below_step (hb_ HB.out) hb); (try clear hb); (try clear hb2); (try clear hk); (try clear hi)) | ((with_reducible refine gate_callee (f := 16) rfl ?_); refine gl_ (some 12) Try.func16 #[.int .i64 a0] ?_; (with_reducible refine (r2_Known.calls a0 true _ A6.out).mono ?_); rintro e w' ⟨rfl, ⟨nd, rfl⟩⟩; refine ⟨_, rfl, ?_⟩; (try (rw [drewN_self w11]; generalize hq_ : World.drewN w11 _ = w11; have n0_ : Aside0 (Below w.heap.size w w11) := ⟨by rw [← hq_]; exact (hb_ HB.out)⟩; clear HB hq_; have HB := n0_; clear n0_))) | ((with_reducible refine gate_callee (f := 48) rfl ?_); refine gl_ (some 16) Try.func48 #[.int .i64 a0, .int .u64 a1] ?_; (with_reducible refine (r2_Open.calls k a0 a1 t860 t861 t862 t863 _ A8.out).mono ?_); rintro e w12 ⟨rfl, hb⟩; refine ⟨_, rfl, ?_⟩; replace HB := A_ (below_step (hb_ HB.out) hb); (try clear hb); (try clear hb2); (try clear hk); (try clear hi)) | ((with_reducible refine gate_callee (f := 48) rfl ?_); refine gl_ (some 19) Try.func48 #[.int .i64 a0, .int .u64 a2] ?_; (with_reducible refine (r2_Open.calls k a0 a2 t864 t865 t866 t867 _ A9.out).mono ?_); rintro e w13 ⟨rfl, hb⟩; refine ⟨_, rfl, ?_⟩; replace HB := A_ (below_step (hb_ HB.out) hb); (try clear hb); (try clear hb2); (try clear hk); (try clear hi)) | ((with_reducible refine gate_dst (N := 7) rfl ?_); refine be_ 7 #[.bool false, .int .i64 0, .int .i64 0, .int .u64 0] 57 ?_; intro gb868 hg w14 hbox hb; have BK868 := A_ (hbox); have GW868 := A_ (sz_ hg (hb_ HB.out)); have GE868 := A_ (sz_ hg (hb_ HB.out)); replace HB := A_ (below_step (hb_ HB.out) hb); clear hb hbox hg) | ((with_reducible refine gate_dst (N := 8) rfl ?_); refine be_ 8 #[.bool false, .int .i64 0, .int .i64 0, .int .u64 0] 57 ?_; intro gb869 hg w15 hbox hb; have BK869 := A_ (hbox); have GW869 := A_ (sz_ hg (hb1_ HB.out GE868.out)); have GE869 := A_ (sz_ hg (hb1_ HB.out GE868.out)); have NB868_869 := A_ (nl_ hg BK868.out); have NB869_868 := A_ (ng_ hg BK868.out); replace BK868 := A_ (bb_ BK868.out hb); replace HB := A_ (below_step (hb1_ HB.out GE868.out) hb); clear hb hbox hg; have hnb16 := NB868_869.out; have hnc16 := NB869_868.out; have hcz17_0 := bv_ BK868.out 0; have hcz17_1 := bv_ BK868.out 1; have hcz17_2 := bv_ BK868.out 2; have hcz17_3 := bv_ BK868.out 3; have hfz17_0 := blk_frozen BK868.out 0; have hfz17_1 := blk_frozen BK868.out 1; have hfz17_2 := blk_frozen BK868.out 2; have hfz17_3 := blk_frozen BK868.out 3; have hcz18_0 := bv_ BK869.out 0; have hcz18_1 := bv_ BK869.out 1; have hcz18_2 := bv_ BK869.out 2; have hcz18_3 := bv_ BK869.out 3; have hfz18_0 := blk_frozen BK869.out 0; have hfz18_1 := blk_frozen BK869.out 1; have hfz18_2 := blk_frozen BK869.out 2; have hfz18_3 := blk_frozen BK869.out 3))
   (try simp only [Act.put, lI_, l0_, lS_])
   go_cut [55] (fun v55 wc => ∃ (kq : Nat) (x55_9 : Bool), v55 = .bool x55_9 ∧ Aside0 (L04_SumClose.j0 kq a0 a1 a2 x55_9 = some r) ∧ Aside0 (kq ≤ k) ∧ Aside0 (wc.heap[gb868]? = some (.cells #[.bool t860, .int .i64 t861, .int .i64 t862, .int .u64 t863] 57 (0, 0))) ∧ Aside0 (wc.heap[gb869]? = some (.cells #[.bool t864, .int .i64 t865, .int .i64 t866, .int .u64 t867] 57 (0, 0))) ∧ Aside0 (Below w.heap.size w wc))
   case first =>
    have H := HC10.out
    clear HC10
    by_cases c19 : t861 = 1
    ·rw [if_pos c19] at H
     have c19b0 : (t861 == 1) = true := beq_iff_eq.mpr c19
     have c19b1 : (t861 != 1) = false := bne_eq_false_iff_eq.mpr c19
     clear c19
     (first | rw [c19b0] | (simp only [i64_w, i32_w]; rw [c19b0]) | skip)
     by_cases c20 : t865 = 1
     ·rw [if_pos c20] at H
      have c20b0 : (t865 == 1) = true := beq_iff_eq.mpr c20
      have c20b1 : (t865 != 1) = false := bne_eq_false_iff_eq.mpr c20
      clear c20
      by_cases c21 : t860 = true
      ·subst c21
       have H1 : (L04_SumClose.j0 k a0 a1 a2 true) = some r := by rw [if_pos rfl] at H; exact H
       clear H;have H := H1;clear H1
       have H' := A_ H
       clear H
       have hnb22 := NB868_869.out
       have hnc22 := NB869_868.out
       have hcz23_0 := bv_ BK868.out 0
       have hcz23_1 := bv_ BK868.out 1
       have hcz23_2 := bv_ BK868.out 2
       have hcz23_3 := bv_ BK868.out 3
       have hfz23_0 := blk_frozen BK868.out 0
       have hfz23_1 := blk_frozen BK868.out 1
       have hfz23_2 := blk_frozen BK868.out 2
       have hfz23_3 := blk_frozen BK868.out 3
       have hcz24_0 := bv_ BK869.out 0
       have hcz24_1 := bv_ BK869.out 1
       have hcz24_2 := bv_ BK869.out 2
       have hcz24_3 := bv_ BK869.out 3
       have hfz24_0 := blk_frozen BK869.out 0
       have hfz24_1 := blk_frozen BK869.out 1
       have hfz24_2 := blk_frozen BK869.out 2
       have hfz24_3 := blk_frozen BK869.out 3
       go_wp2
       go_meet
       case rel => exact ⟨_, (true), sm_, H', ⟨by first | omega | exact Nat.le_refl _⟩, ⟨by (with_reducible repeat (first | refine blk_drewN ?_ _ | refine blk_drew ?_ | refine blk_alloc ?_ _)); refine blk_far ?_ NB868_869.out _; (with_reducible repeat (first | refine blk_drewN ?_ _ | refine blk_drew ?_ | refine blk_alloc ?_ _)); refine blk_far ?_ NB868_869.out _; (with_reducible repeat (first | refine blk_drewN ?_ _ | refine blk_drew ?_ | refine blk_alloc ?_ _)); refine blk_far ?_ NB868_869.out _; (with_reducible repeat (first | refine blk_drewN ?_ _ | refine blk_drew ?_ | refine blk_alloc ?_ _)); refine blk_far ?_ NB868_869.out _; (with_reducible repeat (first | refine blk_drewN ?_ _ | refine blk_drew ?_ | refine blk_alloc ?_ _)); refine blk_put (cs := #[.bool true, .int .i64 t861, .int .i64 t862, .int .u64 0]) ?_ 3 _ rfl; (with_reducible repeat (first | refine blk_drewN ?_ _ | refine blk_drew ?_ | refine blk_alloc ?_ _)); refine blk_put (cs := #[.bool true, .int .i64 t861, .int .i64 0, .int .u64 0]) ?_ 2 _ rfl; (with_reducible repeat (first | refine blk_drewN ?_ _ | refine blk_drew ?_ | refine blk_alloc ?_ _)); refine blk_put (cs := #[.bool true, .int .i64 0, .int .i64 0, .int .u64 0]) ?_ 1 _ rfl; (with_reducible repeat (first | refine blk_drewN ?_ _ | refine blk_drew ?_ | refine blk_alloc ?_ _)); refine blk_put (cs := #[.bool false, .int .i64 0, .int .i64 0, .int .u64 0]) ?_ 0 _ rfl; (with_reducible repeat (first | refine blk_drewN ?_ _ | refine blk_drew ?_ | refine blk_alloc ?_ _)); exact BK868.out⟩, ⟨by (with_reducible repeat (first | refine blk_drewN ?_ _ | refine blk_drew ?_ | refine blk_alloc ?_ _)); refine blk_put (cs := #[.bool t864, .int .i64 t865, .int .i64 t866, .int .u64 0]) ?_ 3 _ rfl; (with_reducible repeat (first | refine blk_drewN ?_ _ | refine blk_drew ?_ | refine blk_alloc ?_ _)); refine blk_put (cs := #[.bool t864, .int .i64 t865, .int .i64 0, .int .u64 0]) ?_ 2 _ rfl; (with_reducible repeat (first | refine blk_drewN ?_ _ | refine blk_drew ?_ | refine blk_alloc ?_ _)); refine blk_put (cs := #[.bool t864, .int .i64 0, .int .i64 0, .int .u64 0]) ?_ 1 _ rfl; (with_reducible repeat (first | refine blk_drewN ?_ _ | refine blk_drew ?_ | refine blk_alloc ?_ _)); refine blk_put (cs := #[.bool false, .int .i64 0, .int .i64 0, .int .u64 0]) ?_ 0 _ rfl; (with_reducible repeat (first | refine blk_drewN ?_ _ | refine blk_drew ?_ | refine blk_alloc ?_ _)); refine blk_far ?_ NB869_868.out _; (with_reducible repeat (first | refine blk_drewN ?_ _ | refine blk_drew ?_ | refine blk_alloc ?_ _)); refine blk_far ?_ NB869_868.out _; (with_reducible repeat (first | refine blk_drewN ?_ _ | refine blk_drew ?_ | refine blk_alloc ?_ _)); refine blk_far ?_ NB869_868.out _; (with_reducible repeat (first | refine blk_drewN ?_ _ | refine blk_drew ?_ | refine blk_alloc ?_ _)); refine blk_far ?_ NB869_868.out _; (with_reducible repeat (first | refine blk_drewN ?_ _ | refine blk_drew ?_ | refine blk_alloc ?_ _)); exact BK869.out⟩, ⟨hb2_ HB.out GE868.out GE869.out⟩⟩
      ·replace c21 := Bool.eq_false_iff.mpr c21
       subst c21
       have H1 : (if t864 = true then (L04_SumClose.j0 k a0 a1 a2 true) else ((sum_Add.f k a0 a1 a1).bind fun t870 => ((r4_Cmp.f k a0 t870 a2).bind fun t871 => (if t871 < 0 then (L04_SumClose.j0 k a0 a1 a2 true) else ((sum_Add.f k a0 a2 a2).bind fun t872 => ((r4_Cmp.f k a0 t872 a1).bind fun t873 => (L04_SumClose.j0 k a0 a1 a2 (decide (t873 < 0))))))))) = some r := by rw [if_neg (show ¬ (false = true) by decide)] at H; exact H
       clear H;have H := H1;clear H1
       by_cases c25 : t864 = true
       ·subst c25
        have H1 : (L04_SumClose.j0 k a0 a1 a2 true) = some r := by rw [if_pos rfl] at H; exact H
        clear H;have H := H1;clear H1
        have H' := A_ H
        clear H
        have hnb26 := NB868_869.out
        have hnc26 := NB869_868.out
        have hcz27_0 := bv_ BK868.out 0
        have hcz27_1 := bv_ BK868.out 1
        have hcz27_2 := bv_ BK868.out 2
        have hcz27_3 := bv_ BK868.out 3
        have hfz27_0 := blk_frozen BK868.out 0
        have hfz27_1 := blk_frozen BK868.out 1
        have hfz27_2 := blk_frozen BK868.out 2
        have hfz27_3 := blk_frozen BK868.out 3
        have hcz28_0 := bv_ BK869.out 0
        have hcz28_1 := bv_ BK869.out 1
        have hcz28_2 := bv_ BK869.out 2
        have hcz28_3 := bv_ BK869.out 3
        have hfz28_0 := blk_frozen BK869.out 0
        have hfz28_1 := blk_frozen BK869.out 1
        have hfz28_2 := blk_frozen BK869.out 2
        have hfz28_3 := blk_frozen BK869.out 3
        go_wp2
        go_meet
        case rel => exact ⟨_, (true), sm_, H', ⟨by first | omega | exact Nat.le_refl _⟩, ⟨by (with_reducible repeat (first | refine blk_drewN ?_ _ | refine blk_drew ?_ | refine blk_alloc ?_ _)); refine blk_far ?_ NB868_869.out _; (with_reducible repeat (first | refine blk_drewN ?_ _ | refine blk_drew ?_ | refine blk_alloc ?_ _)); refine blk_far ?_ NB868_869.out _; (with_reducible repeat (first | refine blk_drewN ?_ _ | refine blk_drew ?_ | refine blk_alloc ?_ _)); refine blk_far ?_ NB868_869.out _; (with_reducible repeat (first | refine blk_drewN ?_ _ | refine blk_drew ?_ | refine blk_alloc ?_ _)); refine blk_far ?_ NB868_869.out _; (with_reducible repeat (first | refine blk_drewN ?_ _ | refine blk_drew ?_ | refine blk_alloc ?_ _)); refine blk_put (cs := #[.bool false, .int .i64 t861, .int .i64 t862, .int .u64 0]) ?_ 3 _ rfl; (with_reducible repeat (first | refine blk_drewN ?_ _ | refine blk_drew ?_ | refine blk_alloc ?_ _)); refine blk_put (cs := #[.bool false, .int .i64 t861, .int .i64 0, .int .u64 0]) ?_ 2 _ rfl; (with_reducible repeat (first | refine blk_drewN ?_ _ | refine blk_drew ?_ | refine blk_alloc ?_ _)); refine blk_put (cs := #[.bool false, .int .i64 0, .int .i64 0, .int .u64 0]) ?_ 1 _ rfl; (with_reducible repeat (first | refine blk_drewN ?_ _ | refine blk_drew ?_ | refine blk_alloc ?_ _)); refine blk_put (cs := #[.bool false, .int .i64 0, .int .i64 0, .int .u64 0]) ?_ 0 _ rfl; (with_reducible repeat (first | refine blk_drewN ?_ _ | refine blk_drew ?_ | refine blk_alloc ?_ _)); exact BK868.out⟩, ⟨by (with_reducible repeat (first | refine blk_drewN ?_ _ | refine blk_drew ?_ | refine blk_alloc ?_ _)); refine blk_put (cs := #[.bool true, .int .i64 t865, .int .i64 t866, .int .u64 0]) ?_ 3 _ rfl; (with_reducible repeat (first | refine blk_drewN ?_ _ | refine blk_drew ?_ | refine blk_alloc ?_ _)); refine blk_put (cs := #[.bool true, .int .i64 t865, .int .i64 0, .int .u64 0]) ?_ 2 _ rfl; (with_reducible repeat (first | refine blk_drewN ?_ _ | refine blk_drew ?_ | refine blk_alloc ?_ _)); refine blk_put (cs := #[.bool true, .int .i64 0, .int .i64 0, .int .u64 0]) ?_ 1 _ rfl; (with_reducible repeat (first | refine blk_drewN ?_ _ | refine blk_drew ?_ | refine blk_alloc ?_ _)); refine blk_put (cs := #[.bool false, .int .i64 0, .int .i64 0, .int .u64 0]) ?_ 0 _ rfl; (with_reducible repeat (first | refine blk_drewN ?_ _ | refine blk_drew ?_ | refine blk_alloc ?_ _)); refine blk_far ?_ NB869_868.out _; (with_reducible repeat (first | refine blk_drewN ?_ _ | refine blk_drew ?_ | refine blk_alloc ?_ _)); refine blk_far ?_ NB869_868.out _; (with_reducible repeat (first | refine blk_drewN ?_ _ | refine blk_drew ?_ | refine blk_alloc ?_ _)); refine blk_far ?_ NB869_868.out _; (with_reducible repeat (first | refine blk_drewN ?_ _ | refine blk_drew ?_ | refine blk_alloc ?_ _)); refine blk_far ?_ NB869_868.out _; (with_reducible repeat (first | refine blk_drewN ?_ _ | refine blk_drew ?_ | refine blk_alloc ?_ _)); exact BK869.out⟩, ⟨hb2_ HB.out GE868.out GE869.out⟩⟩
       ·replace c25 := Bool.eq_false_iff.mpr c25
        subst c25
        have H1 : ((sum_Add.f k a0 a1 a1).bind fun t870 => ((r4_Cmp.f k a0 t870 a2).bind fun t871 => (if t871 < 0 then (L04_SumClose.j0 k a0 a1 a2 true) else ((sum_Add.f k a0 a2 a2).bind fun t872 => ((r4_Cmp.f k a0 t872 a1).bind fun t873 => (L04_SumClose.j0 k a0 a1 a2 (decide (t873 < 0)))))))) = some r := by rw [if_neg (show ¬ (false = true) by decide)] at H; exact H
        clear H;have H := H1;clear H1
        replace H := ob_ H
        obtain ⟨t870, A290, H⟩ := H
        replace H : ((r4_Cmp.f k a0 t870 a2).bind fun t871 => (if t871 < 0 then (L04_SumClose.j0 k a0 a1 a2 true) else ((sum_Add.f k a0 a2 a2).bind fun t872 => ((r4_Cmp.f k a0 t872 a1).bind fun t873 => (L04_SumClose.j0 k a0 a1 a2 (decide (t873 < 0))))))) = some r := H
        have A29 := A_ A290;clear A290
        replace H := ob_ H
        obtain ⟨t871, A300, H⟩ := H
        replace H : (if t871 < 0 then (L04_SumClose.j0 k a0 a1 a2 true) else ((sum_Add.f k a0 a2 a2).bind fun t872 => ((r4_Cmp.f k a0 t872 a1).bind fun t873 => (L04_SumClose.j0 k a0 a1 a2 (decide (t873 < 0)))))) = some r := H
        have A30 := A_ A300;clear A300
        by_cases c31 : t871 < 0
        ·rw [if_pos c31] at H
         have c31b0 : decide (t871 < 0) = true := decide_eq_true c31
         clear c31
         have H' := A_ H
         clear H
         have hnb32 := NB868_869.out
         have hnc32 := NB869_868.out
         have hcz33_0 := bv_ BK868.out 0
         have hcz33_1 := bv_ BK868.out 1
         have hcz33_2 := bv_ BK868.out 2
         have hcz33_3 := bv_ BK868.out 3
         have hfz33_0 := blk_frozen BK868.out 0
         have hfz33_1 := blk_frozen BK868.out 1
         have hfz33_2 := blk_frozen BK868.out 2
         have hfz33_3 := blk_frozen BK868.out 3
         have hcz34_0 := bv_ BK869.out 0
         have hcz34_1 := bv_ BK869.out 1
         have hcz34_2 := bv_ BK869.out 2
         have hcz34_3 := bv_ BK869.out 3
         have hfz34_0 := blk_frozen BK869.out 0
         have hfz34_1 := blk_frozen BK869.out 1
         have hfz34_2 := blk_frozen BK869.out 2
         have hfz34_3 := blk_frozen BK869.out 3
         go_wp2_with (first | (go_at_call 20; (with_reducible refine (sum_Add.calls k a0 a1 a1 t870 _ A29.out).mono ?_); rintro e w35 ⟨rfl, hb⟩; replace BK868 := A_ (blk_below (g := gb868) (o := .cells #[.bool false, .int .i64 t861, .int .i64 t862, .int .u64 t863] 57 (0, 0)) (by (with_reducible repeat (first | refine blk_drewN ?_ _ | refine blk_drew ?_ | refine blk_alloc ?_ _)); refine blk_far ?_ NB868_869.out _; (with_reducible repeat (first | refine blk_drewN ?_ _ | refine blk_drew ?_ | refine blk_alloc ?_ _)); refine blk_far ?_ NB868_869.out _; (with_reducible repeat (first | refine blk_drewN ?_ _ | refine blk_drew ?_ | refine blk_alloc ?_ _)); refine blk_far ?_ NB868_869.out _; (with_reducible repeat (first | refine blk_drewN ?_ _ | refine blk_drew ?_ | refine blk_alloc ?_ _)); refine blk_far ?_ NB868_869.out _; (with_reducible repeat (first | refine blk_drewN ?_ _ | refine blk_drew ?_ | refine blk_alloc ?_ _)); refine blk_put (cs := #[.bool false, .int .i64 t861, .int .i64 t862, .int .u64 0]) ?_ 3 _ rfl; (with_reducible repeat (first | refine blk_drewN ?_ _ | refine blk_drew ?_ | refine blk_alloc ?_ _)); refine blk_put (cs := #[.bool false, .int .i64 t861, .int .i64 0, .int .u64 0]) ?_ 2 _ rfl; (with_reducible repeat (first | refine blk_drewN ?_ _ | refine blk_drew ?_ | refine blk_alloc ?_ _)); refine blk_put (cs := #[.bool false, .int .i64 0, .int .i64 0, .int .u64 0]) ?_ 1 _ rfl; (with_reducible repeat (first | refine blk_drewN ?_ _ | refine blk_drew ?_ | refine blk_alloc ?_ _)); refine blk_put (cs := #[.bool false, .int .i64 0, .int .i64 0, .int .u64 0]) ?_ 0 _ rfl; (with_reducible repeat (first | refine blk_drewN ?_ _ | refine blk_drew ?_ | refine blk_alloc ?_ _)); exact BK868.out) hb); replace BK869 := A_ (blk_below (g := gb869) (o := .cells #[.bool false, .int .i64 t865, .int .i64 t866, .int .u64 t867] 57 (0, 0)) (by (with_reducible repeat (first | refine blk_drewN ?_ _ | refine blk_drew ?_ | refine blk_alloc ?_ _)); refine blk_put (cs := #[.bool false, .int .i64 t865, .int .i64 t866, .int .u64 0]) ?_ 3 _ rfl; (with_reducible repeat (first | refine blk_drewN ?_ _ | refine blk_drew ?_ | refine blk_alloc ?_ _)); refine blk_put (cs := #[.bool false, .int .i64 t865, .int .i64 0, .int .u64 0]) ?_ 2 _ rfl; (with_reducible repeat (first | refine blk_drewN ?_ _ | refine blk_drew ?_ | refine blk_alloc ?_ _)); refine blk_put (cs := #[.bool false, .int .i64 0, .int .i64 0, .int .u64 0]) ?_ 1 _ rfl; (with_reducible repeat (first | refine blk_drewN ?_ _ | refine blk_drew ?_ | refine blk_alloc ?_ _)); refine blk_put (cs := #[.bool false, .int .i64 0, .int .i64 0, .int .u64 0]) ?_ 0 _ rfl; (with_reducible repeat (first | refine blk_drewN ?_ _ | refine blk_drew ?_ | refine blk_alloc ?_ _)); refine blk_far ?_ NB869_868.out _; (with_reducible repeat (first | refine blk_drewN ?_ _ | refine blk_drew ?_ | refine blk_alloc ?_ _)); refine blk_far ?_ NB869_868.out _; (with_reducible repeat (first | refine blk_drewN ?_ _ | refine blk_drew ?_ | refine blk_alloc ?_ _)); refine blk_far ?_ NB869_868.out _; (with_reducible repeat (first | refine blk_drewN ?_ _ | refine blk_drew ?_ | refine blk_alloc ?_ _)); refine blk_far ?_ NB869_868.out _; (with_reducible repeat (first | refine blk_drewN ?_ _ | refine blk_drew ?_ | refine blk_alloc ?_ _)); exact BK869.out) hb); replace HB := A_ (below_step (hb2_ HB.out GE868.out GE869.out) hb); (try clear hb); (try clear hb2); (try clear hk); (try clear hi)) | (go_at_call 47; (with_reducible refine (r4_Cmp.calls k a0 t870 a2 t871 _ A30.out).mono ?_); rintro e w36 ⟨rfl, hb⟩; replace BK868 := A_ (bb_ BK868.out hb); replace BK869 := A_ (bb_ BK869.out hb); replace HB := A_ (below_step (hb2_ HB.out GE868.out GE869.out) hb); (try clear hb); (try clear hb2); (try clear hk); (try clear hi)))
         go_meet
         case rel => exact ⟨_, (true), sm_, H', ⟨by first | omega | exact Nat.le_refl _⟩, ⟨bk_ BK868.out⟩, ⟨bk_ BK869.out⟩, ⟨hb2_ HB.out GE868.out GE869.out⟩⟩
        ·rw [if_neg c31] at H
         have c31b0 : decide (t871 < 0) = false := decide_eq_false c31
         clear c31
         replace H := ob_ H
         obtain ⟨t872, A370, H⟩ := H
         replace H : ((r4_Cmp.f k a0 t872 a1).bind fun t873 => (L04_SumClose.j0 k a0 a1 a2 (decide (t873 < 0)))) = some r := H
         have A37 := A_ A370;clear A370
         replace H := ob_ H
         obtain ⟨t873, A380, H⟩ := H
         replace H : (L04_SumClose.j0 k a0 a1 a2 (decide (t873 < 0))) = some r := H
         have A38 := A_ A380;clear A380
         have H' := A_ H
         clear H
         have hnb39 := NB868_869.out
         have hnc39 := NB869_868.out
         have hcz40_0 := bv_ BK868.out 0
         have hcz40_1 := bv_ BK868.out 1
         have hcz40_2 := bv_ BK868.out 2
         have hcz40_3 := bv_ BK868.out 3
         have hfz40_0 := blk_frozen BK868.out 0
         have hfz40_1 := blk_frozen BK868.out 1
         have hfz40_2 := blk_frozen BK868.out 2
         have hfz40_3 := blk_frozen BK868.out 3
         have hcz41_0 := bv_ BK869.out 0
         have hcz41_1 := bv_ BK869.out 1
         have hcz41_2 := bv_ BK869.out 2
         have hcz41_3 := bv_ BK869.out 3
         have hfz41_0 := blk_frozen BK869.out 0
         have hfz41_1 := blk_frozen BK869.out 1
         have hfz41_2 := blk_frozen BK869.out 2
         have hfz41_3 := blk_frozen BK869.out 3
         go_wp2_with (first | (go_at_call 20; (with_reducible refine (sum_Add.calls k a0 a1 a1 t870 _ A29.out).mono ?_); rintro e w42 ⟨rfl, hb⟩; replace BK868 := A_ (blk_below (g := gb868) (o := .cells #[.bool false, .int .i64 t861, .int .i64 t862, .int .u64 t863] 57 (0, 0)) (by (with_reducible repeat (first | refine blk_drewN ?_ _ | refine blk_drew ?_ | refine blk_alloc ?_ _)); refine blk_far ?_ NB868_869.out _; (with_reducible repeat (first | refine blk_drewN ?_ _ | refine blk_drew ?_ | refine blk_alloc ?_ _)); refine blk_far ?_ NB868_869.out _; (with_reducible repeat (first | refine blk_drewN ?_ _ | refine blk_drew ?_ | refine blk_alloc ?_ _)); refine blk_far ?_ NB868_869.out _; (with_reducible repeat (first | refine blk_drewN ?_ _ | refine blk_drew ?_ | refine blk_alloc ?_ _)); refine blk_far ?_ NB868_869.out _; (with_reducible repeat (first | refine blk_drewN ?_ _ | refine blk_drew ?_ | refine blk_alloc ?_ _)); refine blk_put (cs := #[.bool false, .int .i64 t861, .int .i64 t862, .int .u64 0]) ?_ 3 _ rfl; (with_reducible repeat (first | refine blk_drewN ?_ _ | refine blk_drew ?_ | refine blk_alloc ?_ _)); refine blk_put (cs := #[.bool false, .int .i64 t861, .int .i64 0, .int .u64 0]) ?_ 2 _ rfl; (with_reducible repeat (first | refine blk_drewN ?_ _ | refine blk_drew ?_ | refine blk_alloc ?_ _)); refine blk_put (cs := #[.bool false, .int .i64 0, .int .i64 0, .int .u64 0]) ?_ 1 _ rfl; (with_reducible repeat (first | refine blk_drewN ?_ _ | refine blk_drew ?_ | refine blk_alloc ?_ _)); refine blk_put (cs := #[.bool false, .int .i64 0, .int .i64 0, .int .u64 0]) ?_ 0 _ rfl; (with_reducible repeat (first | refine blk_drewN ?_ _ | refine blk_drew ?_ | refine blk_alloc ?_ _)); exact BK868.out) hb); replace BK869 := A_ (blk_below (g := gb869) (o := .cells #[.bool false, .int .i64 t865, .int .i64 t866, .int .u64 t867] 57 (0, 0)) (by (with_reducible repeat (first | refine blk_drewN ?_ _ | refine blk_drew ?_ | refine blk_alloc ?_ _)); refine blk_put (cs := #[.bool false, .int .i64 t865, .int .i64 t866, .int .u64 0]) ?_ 3 _ rfl; (with_reducible repeat (first | refine blk_drewN ?_ _ | refine blk_drew ?_ | refine blk_alloc ?_ _)); refine blk_put (cs := #[.bool false, .int .i64 t865, .int .i64 0, .int .u64 0]) ?_ 2 _ rfl; (with_reducible repeat (first | refine blk_drewN ?_ _ | refine blk_drew ?_ | refine blk_alloc ?_ _)); refine blk_put (cs := #[.bool false, .int .i64 0, .int .i64 0, .int .u64 0]) ?_ 1 _ rfl; (with_reducible repeat (first | refine blk_drewN ?_ _ | refine blk_drew ?_ | refine blk_alloc ?_ _)); refine blk_put (cs := #[.bool false, .int .i64 0, .int .i64 0, .int .u64 0]) ?_ 0 _ rfl; (with_reducible repeat (first | refine blk_drewN ?_ _ | refine blk_drew ?_ | refine blk_alloc ?_ _)); refine blk_far ?_ NB869_868.out _; (with_reducible repeat (first | refine blk_drewN ?_ _ | refine blk_drew ?_ | refine blk_alloc ?_ _)); refine blk_far ?_ NB869_868.out _; (with_reducible repeat (first | refine blk_drewN ?_ _ | refine blk_drew ?_ | refine blk_alloc ?_ _)); refine blk_far ?_ NB869_868.out _; (with_reducible repeat (first | refine blk_drewN ?_ _ | refine blk_drew ?_ | refine blk_alloc ?_ _)); refine blk_far ?_ NB869_868.out _; (with_reducible repeat (first | refine blk_drewN ?_ _ | refine blk_drew ?_ | refine blk_alloc ?_ _)); exact BK869.out) hb); replace HB := A_ (below_step (hb2_ HB.out GE868.out GE869.out) hb); (try clear hb); (try clear hb2); (try clear hk); (try clear hi)) | (go_at_call 47; (with_reducible refine (r4_Cmp.calls k a0 t870 a2 t871 _ A30.out).mono ?_); rintro e w43 ⟨rfl, hb⟩; replace BK868 := A_ (bb_ BK868.out hb); replace BK869 := A_ (bb_ BK869.out hb); replace HB := A_ (below_step (hb2_ HB.out GE868.out GE869.out) hb); (try clear hb); (try clear hb2); (try clear hk); (try clear hi)) | (go_at_call 20; (with_reducible refine (sum_Add.calls k a0 a2 a2 t872 _ A37.out).mono ?_); rintro e w44 ⟨rfl, hb⟩; replace BK868 := A_ (bb_ BK868.out hb); replace BK869 := A_ (bb_ BK869.out hb); replace HB := A_ (below_step (hb2_ HB.out GE868.out GE869.out) hb); (try clear hb); (try clear hb2); (try clear hk); (try clear hi)) | (go_at_call 47; (with_reducible refine (r4_Cmp.calls k a0 t872 a1 t873 _ A38.out).mono ?_); rintro e w45 ⟨rfl, hb⟩; replace BK868 := A_ (bb_ BK868.out hb); replace BK869 := A_ (bb_ BK869.out hb); replace HB := A_ (below_step (hb2_ HB.out GE868.out GE869.out) hb); (try clear hb); (try clear hb2); (try clear hk); (try clear hi)))
         go_meet
         case rel => exact ⟨_, (decide (t873 < 0)), sm_, H', ⟨by first | omega | exact Nat.le_refl _⟩, ⟨bk_ BK868.out⟩, ⟨bk_ BK869.out⟩, ⟨hb2_ HB.out GE868.out GE869.out⟩⟩
     ·rw [if_neg c20] at H
      have c20b0 : (t865 == 1) = false := beq_eq_false_iff_ne.mpr c20
      have c20b1 : (t865 != 1) = true := bne_iff_ne.mpr c20
      have H' := A_ H
      clear H
      have hnb46 := NB868_869.out
      have hnc46 := NB869_868.out
      have hcz47_0 := bv_ BK868.out 0
      have hcz47_1 := bv_ BK868.out 1
      have hcz47_2 := bv_ BK868.out 2
      have hcz47_3 := bv_ BK868.out 3
      have hfz47_0 := blk_frozen BK868.out 0
      have hfz47_1 := blk_frozen BK868.out 1
      have hfz47_2 := blk_frozen BK868.out 2
      have hfz47_3 := blk_frozen BK868.out 3
      have hcz48_0 := bv_ BK869.out 0
      have hcz48_1 := bv_ BK869.out 1
      have hcz48_2 := bv_ BK869.out 2
      have hcz48_3 := bv_ BK869.out 3
      have hfz48_0 := blk_frozen BK869.out 0
      have hfz48_1 := blk_frozen BK869.out 1
      have hfz48_2 := blk_frozen BK869.out 2
      have hfz48_3 := blk_frozen BK869.out 3
      go_wp2
      go_meet
      case rel => exact ⟨_, (true), sm_, H', ⟨by first | omega | exact Nat.le_refl _⟩, ⟨by (with_reducible repeat (first | refine blk_drewN ?_ _ | refine blk_drew ?_ | refine blk_alloc ?_ _)); refine blk_far ?_ NB868_869.out _; (with_reducible repeat (first | refine blk_drewN ?_ _ | refine blk_drew ?_ | refine blk_alloc ?_ _)); refine blk_far ?_ NB868_869.out _; (with_reducible repeat (first | refine blk_drewN ?_ _ | refine blk_drew ?_ | refine blk_alloc ?_ _)); refine blk_far ?_ NB868_869.out _; (with_reducible repeat (first | refine blk_drewN ?_ _ | refine blk_drew ?_ | refine blk_alloc ?_ _)); refine blk_far ?_ NB868_869.out _; (with_reducible repeat (first | refine blk_drewN ?_ _ | refine blk_drew ?_ | refine blk_alloc ?_ _)); refine blk_put (cs := #[.bool t860, .int .i64 t861, .int .i64 t862, .int .u64 0]) ?_ 3 _ rfl; (with_reducible repeat (first | refine blk_drewN ?_ _ | refine blk_drew ?_ | refine blk_alloc ?_ _)); refine blk_put (cs := #[.bool t860, .int .i64 t861, .int .i64 0, .int .u64 0]) ?_ 2 _ rfl; (with_reducible repeat (first | refine blk_drewN ?_ _ | refine blk_drew ?_ | refine blk_alloc ?_ _)); refine blk_put (cs := #[.bool t860, .int .i64 0, .int .i64 0, .int .u64 0]) ?_ 1 _ rfl; (with_reducible repeat (first | refine blk_drewN ?_ _ | refine blk_drew ?_ | refine blk_alloc ?_ _)); refine blk_put (cs := #[.bool false, .int .i64 0, .int .i64 0, .int .u64 0]) ?_ 0 _ rfl; (with_reducible repeat (first | refine blk_drewN ?_ _ | refine blk_drew ?_ | refine blk_alloc ?_ _)); exact BK868.out⟩, ⟨by (with_reducible repeat (first | refine blk_drewN ?_ _ | refine blk_drew ?_ | refine blk_alloc ?_ _)); refine blk_put (cs := #[.bool t864, .int .i64 t865, .int .i64 t866, .int .u64 0]) ?_ 3 _ rfl; (with_reducible repeat (first | refine blk_drewN ?_ _ | refine blk_drew ?_ | refine blk_alloc ?_ _)); refine blk_put (cs := #[.bool t864, .int .i64 t865, .int .i64 0, .int .u64 0]) ?_ 2 _ rfl; (with_reducible repeat (first | refine blk_drewN ?_ _ | refine blk_drew ?_ | refine blk_alloc ?_ _)); refine blk_put (cs := #[.bool t864, .int .i64 0, .int .i64 0, .int .u64 0]) ?_ 1 _ rfl; (with_reducible repeat (first | refine blk_drewN ?_ _ | refine blk_drew ?_ | refine blk_alloc ?_ _)); refine blk_put (cs := #[.bool false, .int .i64 0, .int .i64 0, .int .u64 0]) ?_ 0 _ rfl; (with_reducible repeat (first | refine blk_drewN ?_ _ | refine blk_drew ?_ | refine blk_alloc ?_ _)); refine blk_far ?_ NB869_868.out _; (with_reducible repeat (first | refine blk_drewN ?_ _ | refine blk_drew ?_ | refine blk_alloc ?_ _)); refine blk_far ?_ NB869_868.out _; (with_reducible repeat (first | refine blk_drewN ?_ _ | refine blk_drew ?_ | refine blk_alloc ?_ _)); refine blk_far ?_ NB869_868.out _; (with_reducible repeat (first | refine blk_drewN ?_ _ | refine blk_drew ?_ | refine blk_alloc ?_ _)); refine blk_far ?_ NB869_868.out _; (with_reducible repeat (first | refine blk_drewN ?_ _ | refine blk_drew ?_ | refine blk_alloc ?_ _)); exact BK869.out⟩, ⟨hb2_ HB.out GE868.out GE869.out⟩⟩
    ·rw [if_neg c19] at H
     have c19b0 : (t861 == 1) = false := beq_eq_false_iff_ne.mpr c19
     have c19b1 : (t861 != 1) = true := bne_iff_ne.mpr c19
     (first | rw [c19b0] | (simp only [i64_w, i32_w]; rw [c19b0]) | skip)
     have H' := A_ H
     clear H
     have hnb49 := NB868_869.out
     have hnc49 := NB869_868.out
     have hcz50_0 := bv_ BK868.out 0
     have hcz50_1 := bv_ BK868.out 1
     have hcz50_2 := bv_ BK868.out 2
     have hcz50_3 := bv_ BK868.out 3
     have hfz50_0 := blk_frozen BK868.out 0
     have hfz50_1 := blk_frozen BK868.out 1
     have hfz50_2 := blk_frozen BK868.out 2
     have hfz50_3 := blk_frozen BK868.out 3
     go_wp2
     go_meet
     case rel => exact ⟨_, (true), sm_, H', ⟨by first | omega | exact Nat.le_refl _⟩, ⟨by (with_reducible repeat (first | refine blk_drewN ?_ _ | refine blk_drew ?_ | refine blk_alloc ?_ _)); refine blk_far ?_ NB868_869.out _; (with_reducible repeat (first | refine blk_drewN ?_ _ | refine blk_drew ?_ | refine blk_alloc ?_ _)); refine blk_far ?_ NB868_869.out _; (with_reducible repeat (first | refine blk_drewN ?_ _ | refine blk_drew ?_ | refine blk_alloc ?_ _)); refine blk_far ?_ NB868_869.out _; (with_reducible repeat (first | refine blk_drewN ?_ _ | refine blk_drew ?_ | refine blk_alloc ?_ _)); refine blk_far ?_ NB868_869.out _; (with_reducible repeat (first | refine blk_drewN ?_ _ | refine blk_drew ?_ | refine blk_alloc ?_ _)); refine blk_put (cs := #[.bool t860, .int .i64 t861, .int .i64 t862, .int .u64 0]) ?_ 3 _ rfl; (with_reducible repeat (first | refine blk_drewN ?_ _ | refine blk_drew ?_ | refine blk_alloc ?_ _)); refine blk_put (cs := #[.bool t860, .int .i64 t861, .int .i64 0, .int .u64 0]) ?_ 2 _ rfl; (with_reducible repeat (first | refine blk_drewN ?_ _ | refine blk_drew ?_ | refine blk_alloc ?_ _)); refine blk_put (cs := #[.bool t860, .int .i64 0, .int .i64 0, .int .u64 0]) ?_ 1 _ rfl; (with_reducible repeat (first | refine blk_drewN ?_ _ | refine blk_drew ?_ | refine blk_alloc ?_ _)); refine blk_put (cs := #[.bool false, .int .i64 0, .int .i64 0, .int .u64 0]) ?_ 0 _ rfl; (with_reducible repeat (first | refine blk_drewN ?_ _ | refine blk_drew ?_ | refine blk_alloc ?_ _)); exact BK868.out⟩, ⟨by (with_reducible repeat (first | refine blk_drewN ?_ _ | refine blk_drew ?_ | refine blk_alloc ?_ _)); refine blk_put (cs := #[.bool t864, .int .i64 t865, .int .i64 t866, .int .u64 0]) ?_ 3 _ rfl; (with_reducible repeat (first | refine blk_drewN ?_ _ | refine blk_drew ?_ | refine blk_alloc ?_ _)); refine blk_put (cs := #[.bool t864, .int .i64 t865, .int .i64 0, .int .u64 0]) ?_ 2 _ rfl; (with_reducible repeat (first | refine blk_drewN ?_ _ | refine blk_drew ?_ | refine blk_alloc ?_ _)); refine blk_put (cs := #[.bool t864, .int .i64 0, .int .i64 0, .int .u64 0]) ?_ 1 _ rfl; (with_reducible repeat (first | refine blk_drewN ?_ _ | refine blk_drew ?_ | refine blk_alloc ?_ _)); refine blk_put (cs := #[.bool false, .int .i64 0, .int .i64 0, .int .u64 0]) ?_ 0 _ rfl; (with_reducible repeat (first | refine blk_drewN ?_ _ | refine blk_drew ?_ | refine blk_alloc ?_ _)); refine blk_far ?_ NB869_868.out _; (with_reducible repeat (first | refine blk_drewN ?_ _ | refine blk_drew ?_ | refine blk_alloc ?_ _)); refine blk_far ?_ NB869_868.out _; (with_reducible repeat (first | refine blk_drewN ?_ _ | refine blk_drew ?_ | refine blk_alloc ?_ _)); refine blk_far ?_ NB869_868.out _; (with_reducible repeat (first | refine blk_drewN ?_ _ | refine blk_drew ?_ | refine blk_alloc ?_ _)); refine blk_far ?_ NB869_868.out _; (with_reducible repeat (first | refine blk_drewN ?_ _ | refine blk_drew ?_ | refine blk_alloc ?_ _)); exact BK869.out⟩, ⟨hb2_ HB.out GE868.out GE869.out⟩⟩
   case rest =>
    clear HC10
    try clear c1
    try clear c2
    try clear p2
    try clear c3
    try clear c4
    try clear c5
    try clear c7
    try clear c13
    try clear c16
    try clear c19
    try clear c19b0
    try clear c19b1
    try clear c20
    try clear c20b0
    try clear c20b1
    try clear c21
    try clear c22
    try clear c25
    try clear c26
    try clear c31
    try clear c31b0
    try clear c32
    try clear c39
    try clear c43
    try clear c46
    try clear c48
    try clear c49
    try clear hcz17_0
    try clear hcz17_1
    try clear hcz17_2
    try clear hcz17_3
    try clear hcz18_0
    try clear hcz18_1
    try clear hcz18_2
    try clear hcz18_3
    try clear hcz23_0
    try clear hcz23_1
    try clear hcz23_2
    try clear hcz23_3
    try clear hcz24_0
    try clear hcz24_1
    try clear hcz24_2
    try clear hcz24_3
    try clear hcz27_0
    try clear hcz27_1
    try clear hcz27_2
    try clear hcz27_3
    try clear hcz28_0
    try clear hcz28_1
    try clear hcz28_2
    try clear hcz28_3
    try clear hcz33_0
    try clear hcz33_1
    try clear hcz33_2
    try clear hcz33_3
    try clear hcz34_0
    try clear hcz34_1
    try clear hcz34_2
    try clear hcz34_3
    try clear hcz40_0
    try clear hcz40_1
    try clear hcz40_2
    try clear hcz40_3
    try clear hcz41_0
    try clear hcz41_1
    try clear hcz41_2
    try clear hcz41_3
    try clear hcz47_0
    try clear hcz47_1
    try clear hcz47_2
    try clear hcz47_3
    try clear hcz48_0
    try clear hcz48_1
    try clear hcz48_2
    try clear hcz48_3
    try clear hcz50_0
    try clear hcz50_1
    try clear hcz50_2
    try clear hcz50_3
    try clear hfz17_0
    try clear hfz17_1
    try clear hfz17_2
    try clear hfz17_3
    try clear hfz18_0
    try clear hfz18_1
    try clear hfz18_2
    try clear hfz18_3
    try clear hfz23_0
    try clear hfz23_1
    try clear hfz23_2
    try clear hfz23_3
    try clear hfz24_0
    try clear hfz24_1
    try clear hfz24_2
    try clear hfz24_3
    try clear hfz27_0
    try clear hfz27_1
    try clear hfz27_2
    try clear hfz27_3
    try clear hfz28_0
    try clear hfz28_1
    try clear hfz28_2
    try clear hfz28_3
    try clear hfz33_0
    try clear hfz33_1
    try clear hfz33_2
    try clear hfz33_3
    try clear hfz34_0
    try clear hfz34_1
    try clear hfz34_2
    try clear hfz34_3
    try clear hfz40_0
    try clear hfz40_1
    try clear hfz40_2
    try clear hfz40_3
    try clear hfz41_0
    try clear hfz41_1
    try clear hfz41_2
    try clear hfz41_3
    try clear hfz47_0
    try clear hfz47_1
    try clear hfz47_2
    try clear hfz47_3
    try clear hfz48_0
    try clear hfz48_1
    try clear hfz48_2
    try clear hfz48_3
    try clear hfz50_0
    try clear hfz50_1
    try clear hfz50_2
    try clear hfz50_3
    obtain ⟨kq, x55_9, rfl, HA, HJ9, BK868, BK869, HB⟩ := hcut
    cases kq with
    | zero => exact absurd HA.out (by simp [L04_SumClose.j0])
    | succ kj9 =>
     have H := HA.out
     clear HA
     simp only [L04_SumClose.j0] at H
     by_cases c51 : x55_9 = true
     ·subst c51
      have H1 : (some true) = some r := by rw [if_pos rfl] at H; exact H
      clear H;have H := H1;clear H1
      obtain rfl := Option.some.inj H
      go_wp2
      go_ret
      exact ⟨er_, hb2_ HB.out GE868.out GE869.out⟩
     ·replace c51 := Bool.eq_false_iff.mpr c51
      subst c51
      have H1 : ((sum_Sub.f kj9 a0 a1 a2).bind fun t874 => ((sum_Add.f kj9 a0 t874 a2).bind fun t875 => ((r2_Cut.f a0 a1).bind fun t876 => (some (t875 == t876))))) = some r := by rw [if_neg (show ¬ (false = true) by decide)] at H; exact H
      clear H;have H := H1;clear H1
      replace H := ob_ H
      obtain ⟨t874, A520, H⟩ := H
      replace H : ((sum_Add.f kj9 a0 t874 a2).bind fun t875 => ((r2_Cut.f a0 a1).bind fun t876 => (some (t875 == t876)))) = some r := H
      have A52 := A_ A520;clear A520
      replace H := ob_ H
      obtain ⟨t875, A530, H⟩ := H
      replace H : ((r2_Cut.f a0 a1).bind fun t876 => (some (t875 == t876))) = some r := H
      have A53 := A_ A530;clear A530
      replace H := ob_ H
      obtain ⟨t876, A540, H⟩ := H
      replace H : (some (t875 == t876)) = some r := H
      have A54 := A_ A540;clear A540
      obtain rfl := Option.some.inj H
      go_wp2_with (first | ((with_reducible refine gate_callee (f := 44) rfl ?_); refine gl_ (some 60) Try.func44 #[.int .i64 a0, .int .u64 a1, .int .u64 a2] ?_; (with_reducible refine (sum_Sub.calls kj9 a0 a1 a2 t874 _ A52.out).mono ?_); rintro e w55 ⟨rfl, hb⟩; refine ⟨_, rfl, ?_⟩; replace BK868 := A_ (bb_ BK868.out hb); replace BK869 := A_ (bb_ BK869.out hb); replace HB := A_ (below_step (hb2_ HB.out GE868.out GE869.out) hb); (try clear hb); (try clear hb2); (try clear hk); (try clear hi)) | ((with_reducible refine gate_callee (f := 20) rfl ?_); refine gl_ (some 62) Try.func20 #[.int .i64 a0, .int .u64 t874, .int .u64 a2] ?_; (with_reducible refine (sum_Add.calls kj9 a0 t874 a2 t875 _ A53.out).mono ?_); rintro e w56 ⟨rfl, hb⟩; refine ⟨_, rfl, ?_⟩; replace BK868 := A_ (bb_ BK868.out hb); replace BK869 := A_ (bb_ BK869.out hb); replace HB := A_ (below_step (hb2_ HB.out GE868.out GE869.out) hb); (try clear hb); (try clear hb2); (try clear hk); (try clear hi)) | ((with_reducible refine gate_callee (f := 49) rfl ?_); refine gl_ (some 65) Try.func49 #[.int .i64 a0, .int .u64 a1] ?_; (with_reducible refine (r2_Cut.calls a0 a1 t876 _ A54.out).mono ?_); rintro e w' ⟨rfl, ⟨nd, rfl⟩⟩; refine ⟨_, rfl, ?_⟩))
      go_ret
      exact ⟨er_, hb2_ HB.out GE868.out GE869.out⟩
  ·replace c7 := Bool.eq_false_iff.mpr c7
   subst c7
   have H1 : (some true) = some r := by rw [if_neg (show ¬ (false = true) by decide)] at H; exact H
   clear H;have H := H1;clear H1
   obtain rfl := Option.some.inj H
   go_enter Try.func13, Try.ntmps13
   go_wp2_with (first | ((with_reducible refine gate_callee (f := 43) rfl ?_); refine gl_ (some 9) Try.func43 #[] ?_; (with_reducible refine (L04_awake.calls k  true _ A4.out).mono ?_); rintro e w57 ⟨rfl, hb⟩; refine ⟨_, rfl, ?_⟩; replace HB := A_ (below_step (hb_ HB.out) hb); (try clear hb); (try clear hb2); (try clear hk); (try clear hi)) | ((with_reducible refine gate_callee (f := 16) rfl ?_); refine gl_ (some 12) Try.func16 #[.int .i64 a0] ?_; (with_reducible refine (r2_Known.calls a0 false _ A6.out).mono ?_); rintro e w' ⟨rfl, ⟨nd, rfl⟩⟩; refine ⟨_, rfl, ?_⟩))
   go_ret
   exact ⟨er_, hb_ HB.out⟩
 ·replace c5 := Bool.eq_false_iff.mpr c5
  subst c5
  have H1 : (some false) = some r := by rw [if_neg (show ¬ (false = true) by decide)] at H; exact H
  clear H;have H := H1;clear H1
  exact absurd ((Option.some.inj H).trans hr_.out) (by decide)
def L04_SumClose.Pure : Prop := ∀ (a0 : Int) (a1 : Int) (a2 : Int), (Lit.int .i64 a0).wf = true → (Lit.int .u64 a1).wf = true → (Lit.int .u64 a2).wf = true → ∃ k, L04_SumClose.f k a0 a1 a2 = some true
theorem L04_SumClose.walk (P : L04_SumClose.Pure) (a0 : Int) (a1 : Int) (a2 : Int) (w : World) (w0 : (Lit.int .i64 a0).wf = true) (w1 : (Lit.int .u64 a1).wf = true) (w2 : (Lit.int .u64 a2).wf = true) :
  Calls Try.prog 13 #[.int .i64 a0, .int .u64 a1, .int .u64 a2] w fun e w' => e = .returned (.bool true) ∧ Below w.heap.size w w' := by
 obtain ⟨k, h⟩ := P a0 a1 a2 w0 w1 w2
 refine (L04_SumClose.calls k a0 a1 a2 true w h ⟨rfl⟩).mono ?_
 rintro e w' ⟨rfl, hd⟩
 exact ⟨rfl, hd⟩
end Go.Proofs.Ytbpmnmceajmmcaa.PA
section
set_option linter.unusedVariables false
set_option linter.unusedSimpArgs false
namespace Go.Proofs.Ytbpmnmceajmmcaa.Th
open Go.RowKit Go.Proofs.YtbpmnmceajmmcaaW.PrintWords Go.Proofs.YtbpmnmceajmmcaaW.PrintLast Go.Proofs.YtbpmnmceajmmcaaW.PrintMore Go.Proofs.Ytbpmnmceajmmcaa.PA Bit Flo
theorem two_i {n : Int} (m : Nat) (h : n = m) (hm : m < 64) : Ev (fun k => r2_Two.f k n) ((2 ^ m : Nat) : Int) := by subst h; exact two_f m hm

theorem r2E32 : r2_E.f 32 = some 8 := by decide +kernel
theorem r2F32 : r2_F.f 32 = some 23 := by decide +kernel
theorem r2B32 : r2_B.f 32 = some 127 := by decide +kernel
theorem r2Tf32 : Ev (fun k => r2_Two.f k 23) ((8388608 : Nat) : Int) := by have h := two_i (n := 23) 23 rfl (by decide); rw [show (2 : Nat) ^ 23 = 8388608 by decide] at h; exact h
theorem r2Te32 : Ev (fun k => r2_Two.f k 8) ((256 : Nat) : Int) := by have h := two_i (n := 8) 8 rfl (by decide); rw [show (2 : Nat) ^ 8 = 256 by decide] at h; exact h
theorem r2Ts32 : Ev (fun k => r2_Two.f k (wrap64 (32 - 1))) ((2147483648 : Nat) : Int) := by have h := two_i (n := wrap64 (32 - 1)) 31 (by decide +kernel) (by decide); rw [show (2 : Nat) ^ 31 = 2147483648 by decide] at h; exact h
theorem r2Th32 : Ev (fun k => r2_Two.f k (wrap64 (23 - 1))) ((4194304 : Nat) : Int) := by have h := two_i (n := wrap64 (23 - 1)) 22 (by decide +kernel) (by decide); rw [show (2 : Nat) ^ 22 = 4194304 by decide] at h; exact h
theorem r2Exp32 (a : Nat) (ha : a < 18446744073709551616) : Ev (fun k => r2_Exp.f k 32 a) ((a / 8388608 % 256 : Nat) : Int) := by
  unfold r2_Exp.f
  refine Ev.bs (r2Cut 32 a (by decide)) (Ev.bs r2F32 (Ev.bind r2Tf32 (Ev.neg (by decide) (Ev.bs r2E32 (Ev.bind r2Te32 (Ev.neg (by decide) (Ev.out ?_)))))))
  have hc : cutN 32 a = a % 4294967296 := by unfold cutN; rw [if_pos rfl]
  rw [hc, Int.tdiv_eq_ediv_of_nonneg (by omega), u64_id (by omega) (by omega), Int.tmod_eq_emod_of_nonneg (by omega), w64_id (by omega) (by omega)]
  omega
theorem r2Frac32 (a : Nat) (ha : a < 18446744073709551616) : Ev (fun k => r2_Frac.f k 32 a) ((a % 8388608 : Nat) : Int) := by
  unfold r2_Frac.f
  refine Ev.bs r2F32 (Ev.bind r2Tf32 (Ev.neg (by decide) (Ev.out ?_)))
  rw [Int.tmod_eq_emod_of_nonneg (by omega)]; omega
theorem r2Top32 : Ev (fun k => r2_Top.f k 32) ((255 : Nat) : Int) := by
  unfold r2_Top.f
  exact Ev.bs r2E32 (Ev.bind r2Te32 (Ev.out (by decide +kernel)))
theorem r2Make32 (s : Bool) (e fr : Nat) (he : e ≤ 255) (hf : fr < 8388608) : Ev (fun k => r2_Make.f k 32 s e fr) ((mkN 32 (e * 8388608 + fr) s : Nat) : Int) := by
  unfold r2_Make.f
  refine Ev.bs r2F32 (Ev.bind r2Tf32 ?_)
  rw [u64_id (n := (e : Int)) (by omega) (by omega), u64_id (n := (e : Int) * ((8388608 : Nat) : Int)) (by omega) (by omega), u64_id (n := (e : Int) * ((8388608 : Nat) : Int) + fr) (by omega) (by omega)]
  unfold mkN
  rw [show sb 32 = 2147483648 by decide]
  cases s
  · exact Ev.neg (by decide) (Ev.out (by simp))
  · refine Ev.pos rfl (Ev.bind r2Ts32 (Ev.out ?_))
    rw [u64_id (by omega) (by omega)]; simp only [if_true]; omega
theorem r2Nan32 : Ev (fun k => r2_Nan.f k 32) ((nanN 32 : Nat) : Int) := by
  unfold r2_Nan.f
  refine Ev.bind r2Top32 (Ev.bs r2F32 (Ev.bind r2Th32 (Ev.bind (r2Make32 false 255 4194304 (by decide) (by decide)) (Ev.out (by decide)))))
theorem r2Inf32 (s : Bool) : Ev (fun k => r2_Inf.f k 32 s) ((mkN 32 f32.inf s : Nat) : Int) := by
  unfold r2_Inf.f
  have h := r2Make32 s 255 0 (by decide) (by decide)
  exact Ev.bind r2Top32 (Ev.bind h (Ev.out (by rw [inf32])))
theorem r2Open32 (a : Nat) (ha : a < 18446744073709551616) : Ev (fun k => r2_Open.f k 32 a) (opn 32 a) := by
  rw [opn32]
  unfold r2_Open.f
  refine Ev.bind (r2Exp32 a ha) (Ev.bind (r2Frac32 a ha) (Ev.bind (r2Neg 32 (by decide) a ha) (Ev.bind r2Top32 ?_)))
  unfold sgB
  rw [show sb 32 = 2147483648 by decide]
  have hP : a % 2147483648 % 8388608 = a % 8388608 := by omega
  have hQ : a % 2147483648 / 8388608 = a / 8388608 % 256 := by omega
  have hT : a / 8388608 % 256 < 256 := Nat.mod_lt _ (by decide)
  have hE : a % 2147483648 = a / 8388608 % 256 * 8388608 + a % 8388608 := by omega
  rw [hP, hQ, hE]
  generalize a / 8388608 % 256 = e at *
  have hF : a % 8388608 < 8388608 := Nat.mod_lt _ (by decide)
  generalize a % 8388608 = fr at *
  generalize decide (a / 2147483648 % 2 = 1) = s
  by_cases h1 : e = 255
  · subst h1
    refine Ev.pos rfl ?_
    by_cases h2 : fr = 0
    · subst h2
      refine Ev.pos rfl (Ev.out ?_)
      rw [if_neg (by omega), if_neg (by omega), if_pos (by omega)]
    · refine Ev.neg (by omega) (Ev.out ?_)
      rw [if_neg (by omega), if_neg (by omega), if_neg (by omega)]
  · refine Ev.neg (by omega) ?_
    by_cases h2 : e = 0
    · subst h2
      refine Ev.pos rfl ?_
      by_cases h3 : fr = 0
      · subst h3
        refine Ev.pos rfl (Ev.out ?_)
        rw [Nat.zero_mul, Nat.zero_add, if_pos rfl]
      · refine Ev.neg (by omega) (Ev.bs r2B32 (Ev.bs r2F32 (Ev.out ?_)))
        rw [if_neg (by omega), if_pos (by omega), if_pos (by omega), if_pos (by omega), show wrap64 (wrap64 (1 - 127) - 23) = (-149 : Int) by decide +kernel]
        simp
    · refine Ev.neg (by omega) (Ev.bs r2B32 (Ev.bs r2F32 (Ev.bs r2F32 (Ev.bind r2Tf32 (Ev.out ?_)))))
      rw [if_neg (by omega), if_pos (by omega), if_neg (by omega), if_neg (by omega)]
      rw [w64_id (n := ((e : Nat) : Int) - 127) (by omega) (by omega), w64_id (by omega) (by omega), u64_id (by omega) (by omega)]
      congr 2
      congr 1
      omega

theorem r2E64 : r2_E.f 64 = some 11 := by decide +kernel
theorem r2F64 : r2_F.f 64 = some 52 := by decide +kernel
theorem r2B64 : r2_B.f 64 = some 1023 := by decide +kernel
theorem r2Tf64 : Ev (fun k => r2_Two.f k 52) ((4503599627370496 : Nat) : Int) := by have h := two_i (n := 52) 52 rfl (by decide); rw [show (2 : Nat) ^ 52 = 4503599627370496 by decide] at h; exact h
theorem r2Te64 : Ev (fun k => r2_Two.f k 11) ((2048 : Nat) : Int) := by have h := two_i (n := 11) 11 rfl (by decide); rw [show (2 : Nat) ^ 11 = 2048 by decide] at h; exact h
theorem r2Ts64 : Ev (fun k => r2_Two.f k (wrap64 (64 - 1))) ((9223372036854775808 : Nat) : Int) := by have h := two_i (n := wrap64 (64 - 1)) 63 (by decide +kernel) (by decide); rw [show (2 : Nat) ^ 63 = 9223372036854775808 by decide] at h; exact h
theorem r2Th64 : Ev (fun k => r2_Two.f k (wrap64 (52 - 1))) ((2251799813685248 : Nat) : Int) := by have h := two_i (n := wrap64 (52 - 1)) 51 (by decide +kernel) (by decide); rw [show (2 : Nat) ^ 51 = 2251799813685248 by decide] at h; exact h
theorem r2Exp64 (a : Nat) (ha : a < 18446744073709551616) : Ev (fun k => r2_Exp.f k 64 a) ((a / 4503599627370496 % 2048 : Nat) : Int) := by
  unfold r2_Exp.f
  refine Ev.bs (r2Cut 64 a (by decide)) (Ev.bs r2F64 (Ev.bind r2Tf64 (Ev.neg (by decide) (Ev.bs r2E64 (Ev.bind r2Te64 (Ev.neg (by decide) (Ev.out ?_)))))))
  have hc : cutN 64 a = a % 18446744073709551616 := by unfold cutN; rw [if_neg (by decide), if_pos rfl]; omega
  rw [hc, Int.tdiv_eq_ediv_of_nonneg (by omega), u64_id (by omega) (by omega), Int.tmod_eq_emod_of_nonneg (by omega), w64_id (by omega) (by omega)]
  omega
theorem r2Frac64 (a : Nat) (ha : a < 18446744073709551616) : Ev (fun k => r2_Frac.f k 64 a) ((a % 4503599627370496 : Nat) : Int) := by
  unfold r2_Frac.f
  refine Ev.bs r2F64 (Ev.bind r2Tf64 (Ev.neg (by decide) (Ev.out ?_)))
  rw [Int.tmod_eq_emod_of_nonneg (by omega)]; omega
theorem r2Top64 : Ev (fun k => r2_Top.f k 64) ((2047 : Nat) : Int) := by
  unfold r2_Top.f
  exact Ev.bs r2E64 (Ev.bind r2Te64 (Ev.out (by decide +kernel)))
theorem r2Make64 (s : Bool) (e fr : Nat) (he : e ≤ 2047) (hf : fr < 4503599627370496) : Ev (fun k => r2_Make.f k 64 s e fr) ((mkN 64 (e * 4503599627370496 + fr) s : Nat) : Int) := by
  unfold r2_Make.f
  refine Ev.bs r2F64 (Ev.bind r2Tf64 ?_)
  rw [u64_id (n := (e : Int)) (by omega) (by omega), u64_id (n := (e : Int) * ((4503599627370496 : Nat) : Int)) (by omega) (by omega), u64_id (n := (e : Int) * ((4503599627370496 : Nat) : Int) + fr) (by omega) (by omega)]
  unfold mkN
  rw [show sb 64 = 9223372036854775808 by decide]
  cases s
  · exact Ev.neg (by decide) (Ev.out (by simp))
  · refine Ev.pos rfl (Ev.bind r2Ts64 (Ev.out ?_))
    rw [u64_id (by omega) (by omega)]; simp only [if_true]; omega
theorem r2Nan64 : Ev (fun k => r2_Nan.f k 64) ((nanN 64 : Nat) : Int) := by
  unfold r2_Nan.f
  refine Ev.bind r2Top64 (Ev.bs r2F64 (Ev.bind r2Th64 (Ev.bind (r2Make64 false 2047 2251799813685248 (by decide) (by decide)) (Ev.out (by decide)))))
theorem r2Inf64 (s : Bool) : Ev (fun k => r2_Inf.f k 64 s) ((mkN 64 f64.inf s : Nat) : Int) := by
  unfold r2_Inf.f
  have h := r2Make64 s 2047 0 (by decide) (by decide)
  exact Ev.bind r2Top64 (Ev.bind h (Ev.out (by rw [inf64])))
theorem r2Open64 (a : Nat) (ha : a < 18446744073709551616) : Ev (fun k => r2_Open.f k 64 a) (opn 64 a) := by
  rw [opn64]
  unfold r2_Open.f
  refine Ev.bind (r2Exp64 a ha) (Ev.bind (r2Frac64 a ha) (Ev.bind (r2Neg 64 (by decide) a ha) (Ev.bind r2Top64 ?_)))
  unfold sgB
  rw [show sb 64 = 9223372036854775808 by decide]
  have hP : a % 9223372036854775808 % 4503599627370496 = a % 4503599627370496 := by omega
  have hQ : a % 9223372036854775808 / 4503599627370496 = a / 4503599627370496 % 2048 := by omega
  have hT : a / 4503599627370496 % 2048 < 2048 := Nat.mod_lt _ (by decide)
  have hE : a % 9223372036854775808 = a / 4503599627370496 % 2048 * 4503599627370496 + a % 4503599627370496 := by omega
  rw [hP, hQ, hE]
  generalize a / 4503599627370496 % 2048 = e at *
  have hF : a % 4503599627370496 < 4503599627370496 := Nat.mod_lt _ (by decide)
  generalize a % 4503599627370496 = fr at *
  generalize decide (a / 9223372036854775808 % 2 = 1) = s
  by_cases h1 : e = 2047
  · subst h1
    refine Ev.pos rfl ?_
    by_cases h2 : fr = 0
    · subst h2
      refine Ev.pos rfl (Ev.out ?_)
      rw [if_neg (by omega), if_neg (by omega), if_pos (by omega)]
    · refine Ev.neg (by omega) (Ev.out ?_)
      rw [if_neg (by omega), if_neg (by omega), if_neg (by omega)]
  · refine Ev.neg (by omega) ?_
    by_cases h2 : e = 0
    · subst h2
      refine Ev.pos rfl ?_
      by_cases h3 : fr = 0
      · subst h3
        refine Ev.pos rfl (Ev.out ?_)
        rw [Nat.zero_mul, Nat.zero_add, if_pos rfl]
      · refine Ev.neg (by omega) (Ev.bs r2B64 (Ev.bs r2F64 (Ev.out ?_)))
        rw [if_neg (by omega), if_pos (by omega), if_pos (by omega), if_pos (by omega), show wrap64 (wrap64 (1 - 1023) - 52) = (-1074 : Int) by decide +kernel]
        simp
    · refine Ev.neg (by omega) (Ev.bs r2B64 (Ev.bs r2F64 (Ev.bs r2F64 (Ev.bind r2Tf64 (Ev.out ?_)))))
      rw [if_neg (by omega), if_pos (by omega), if_neg (by omega), if_neg (by omega)]
      rw [w64_id (n := ((e : Nat) : Int) - 1023) (by omega) (by omega), w64_id (by omega) (by omega), u64_id (by omega) (by omega)]
      congr 2
      congr 1
      omega
theorem r2Open (w : Int) (hw : w = 32 ∨ w = 64) (a : Nat) (ha : a < 18446744073709551616) : Ev (fun k => r2_Open.f k w a) (opn w a) := by
  rcases hw with rfl | rfl
  · exact r2Open32 a ha
  · exact r2Open64 a ha
theorem opn_mk (w : Int) (hw : w = 32 ∨ w = 64) (m : Nat) (s : Bool) (h : m < sb w) : opn w (mkN w m s) = if m = 0 then (s, 0, 0, 0) else if m < (fmt w).inf then (s, 1, (fmt w).ex m, ((fmt w).sg m : Int)) else if m = (fmt w).inf then (s, 2, 0, 0) else (false, 3, 0, 0) := by
  unfold opn; simp only [sg_mk w hw m s h, mag_mk w hw m s h]
theorem cut_mk (w : Int) (hw : w = 32 ∨ w = 64) (m : Nat) (s : Bool) (h : m < sb w) : cutN w (mkN w m s) = mkN w m s := by
  rw [cutN_eq w hw _ (mkN_lt w hw m s h), sg_mk w hw m s h, mag_mk w hw m s h]; rfl
theorem cut_as_mk (w : Int) (hw : w = 32 ∨ w = 64) (a : Nat) (ha : a < 18446744073709551616) : cutN w a = mkN w (magN w a) (sgB w a) := by
  rw [cutN_eq w hw a ha]; rfl
end Go.Proofs.Ytbpmnmceajmmcaa.Th
end
section
set_option linter.unusedVariables false
set_option linter.unusedSimpArgs false
namespace Go.Proofs.Ytbpmnmceajmmcaa.Th
open Go.RowKit Go.Proofs.YtbpmnmceajmmcaaW.PrintWords Go.Proofs.YtbpmnmceajmmcaaW.PrintLast Go.Proofs.YtbpmnmceajmmcaaW.PrintMore Go.Proofs.Ytbpmnmceajmmcaa.PA Bit Flo Dig
theorem inf_pos (w : Int) (hw : w = 32 ∨ w = 64) : 0 < (fmt w).inf := by rcases hw with rfl | rfl <;> decide
theorem kinds (w : Int) (hw : w = 32 ∨ w = 64) (a : Nat) : (magN w a = 0 ∧ opn w a = (sgB w a, 0, 0, 0)) ∨ (0 < magN w a ∧ magN w a < (fmt w).inf ∧ opn w a = (sgB w a, 1, (fmt w).ex (magN w a), ((fmt w).sg (magN w a) : Int))) ∨ (magN w a = (fmt w).inf ∧ opn w a = (sgB w a, 2, 0, 0)) ∨ ((fmt w).inf < magN w a ∧ opn w a = (false, 3, 0, 0)) := by
  have h0 := inf_pos w hw
  unfold opn; simp only
  by_cases h1 : magN w a = 0
  · left; rw [if_pos h1]; exact ⟨h1, rfl⟩
  · right; rw [if_neg h1]
    by_cases h2 : magN w a < (fmt w).inf
    · left; rw [if_pos h2]; exact ⟨by omega, h2, rfl⟩
    · right; rw [if_neg h2]
      by_cases h3 : magN w a = (fmt w).inf
      · left; rw [if_pos h3]; exact ⟨h3, rfl⟩
      · right; rw [if_neg h3]; exact ⟨by omega, rfl⟩
theorem ex_bd (w : Int) (hw : w = 32 ∨ w = 64) (m : Nat) (h : m < (fmt w).inf) : -1074 ≤ (fmt w).ex m ∧ (fmt w).ex m ≤ 971 := by
  rcases hw with rfl | rfl
  · rw [fmt32, inf32] at h; rw [fmt32, ex32]; split <;> omega
  · rw [fmt64, inf64] at h; rw [fmt64, ex64]; split <;> omega
theorem sg_64 (w : Int) (hw : w = 32 ∨ w = 64) (m : Nat) : (fmt w).sg m < 9007199254740992 := by
  have h := (fmt w).sg_lt m
  rcases hw with rfl | rfl
  · rw [fmt32] at h ⊢; rw [show (2 : Nat) ^ (f32.f + 1) = 16777216 by decide] at h; omega
  · rw [fmt64] at h ⊢; rw [show (2 : Nat) ^ (f64.f + 1) = 9007199254740992 by decide] at h; omega
end Go.Proofs.Ytbpmnmceajmmcaa.Th
end
