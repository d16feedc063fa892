/- What the Go functions that the statement SumOrder reaches compute, and the mathematics on it, in the order in which one leans on the other; for every input. -/
import Derived.Test.YtbpmnmceajmmcaaVSumOrder0
import Derived.Test.YtbpmnmceajmmcaaMSumOrder0
import Derived.Test.YtbpmnmceajmmcaaMSumOrder9
import Derived.Test.YtbpmnmceajmmcaaMSumOrder11
import Derived.Test.YtbpmnmceajmmcaaMSumOrder8
import Derived.Test.YtbpmnmceajmmcaaMSumOrder3
import Derived.Test.YtbpmnmceajmmcaaMSumOrder5
import Derived.Test.YtbpmnmceajmmcaaMSumOrder2
import Derived.Test.YtbpmnmceajmmcaaMSumOrder1
import Derived.Test.YtbpmnmceajmmcaaMSumOrder4
import Derived.Test.YtbpmnmceajmmcaaMSumOrder10
import Derived.Test.YtbpmnmceajmmcaaMSumOrder6
namespace Go.Proofs.Ytbpmnmceajmmcaa.PA
open Go.RowKit Go.Proofs.YtbpmnmceajmmcaaW.PrintWords Go.Proofs.YtbpmnmceajmmcaaW.PrintLast Go.Proofs.YtbpmnmceajmmcaaW.PrintMore
attribute [local go_sem] max2_int min2_int max_two min_two max_three min_three max_four min_four   -- for this text's walks alone
set_option linter.unusedVariables false
set_option linter.unusedSimpArgs false
set_option maxHeartbeats 8000000
set_option maxRecDepth 100000
def r4_Sub.f (k : Nat) (a0 : Int) (a1 : Int) (a2 : Int) : Option (Int) := (r2_Open.f k a0 a2).bind fun bt819 => ((r2_Open.f k a0 a1).bind fun bt824 => ((r4_parts.f k a0 bt824.1 bt824.2.1 bt824.2.2.1 bt824.2.2.2 (!bt819.1) bt819.2.1 bt819.2.2.1 bt819.2.2.2).bind fun t828 => (some t828)))
theorem r4_Sub.mono : ∀ a0 a1 a2 k, LeO (r4_Sub.f k a0 a1 a2) (r4_Sub.f (k + 1) a0 a1 a2) := by
 intro a0 a1 a2 k
 unfold r4_Sub.f
 repeat' first
   | (with_reducible exact r2_Open.mono _ _ _)
   | (with_reducible exact r4_parts.mono _ _ _ _ _ _ _ _ _ _)
   | (with_reducible exact LeO.refl _)
   | (with_reducible exact LeO.none _)
   | (with_reducible refine LeO.ite ?_ ?_)
   | (with_reducible refine LeO.bind ?_ (fun _ => ?_))
   | exact r2_Open.mono _ _ _
   | exact r4_parts.mono _ _ _ _ _ _ _ _ _ _
   | exact LeO.none _
   | refine LeO.ite ?_ ?_
   | refine LeO.bind ?_ (fun _ => ?_)
theorem r4_Sub.calls (k : Nat) (a0 : Int) (a1 : Int) (a2 : Int) (r : Int) (w : World) (h : r4_Sub.f k a0 a1 a2 = some r) :
  Calls Try.prog 46 #[.int .i64 a0, .int .u64 a1, .int .u64 a2] w fun e w' => e = .returned (.int .u64 r) ∧ Below w.heap.size w w' := by
 have hu57 := Try.underlying57
 have HB := A_ (Below.refl w.heap.size w)
 have H : ((r2_Open.f k a0 a2).bind fun bt819 => ((r2_Open.f k a0 a1).bind fun bt824 => ((r4_parts.f k a0 bt824.1 bt824.2.1 bt824.2.2.1 bt824.2.2.2 (!bt819.1) bt819.2.1 bt819.2.2.1 bt819.2.2.2).bind fun t828 => (some t828)))) = some r := h
 clear h
 replace H := ob_ H
 obtain ⟨⟨t819, t820, t821, t822⟩, A40, H⟩ := H
 replace H : ((r2_Open.f k a0 a1).bind fun bt824 => ((r4_parts.f k a0 bt824.1 bt824.2.1 bt824.2.2.1 bt824.2.2.2 (!t819) t820 t821 t822).bind fun t828 => (some t828))) = some r := H
 have A4 := A_ A40;clear A40
 replace H := ob_ H
 obtain ⟨⟨t824, t825, t826, t827⟩, A50, H⟩ := H
 replace H : ((r4_parts.f k a0 t824 t825 t826 t827 (!t819) t820 t821 t822).bind fun t828 => (some t828)) = some r := H
 have A5 := A_ A50;clear A50
 replace H := ob_ H
 obtain ⟨t828, A60, H⟩ := H
 replace H : (some t828) = some r := H
 have A6 := A_ A60;clear A60
 obtain rfl := Option.some.inj H
 go_enter Try.func46, Try.ntmps46
 try go_wp2_with (first | ((with_reducible refine gate_callee (f := 48) rfl ?_); refine gl_ (some 10) Try.func48 #[.int .i64 a0, .int .u64 a2] ?_; (with_reducible refine (r2_Open.calls k a0 a2 t819 t820 t821 t822 _ A4.out).mono ?_); rintro e w7 ⟨rfl, hb⟩; refine ⟨_, rfl, ?_⟩; replace HB := A_ (below_step (hb_ HB.out) hb); (try clear hb); (try clear hb2); (try clear hk); (try clear hi)) | ((with_reducible refine gate_dst (N := 7) rfl ?_); refine be_ 7 #[.bool false, .int .i64 0, .int .i64 0, .int .u64 0] 57 ?_; intro gb823 hg w8 hbox hb; have BK823 := A_ (hbox); have GW823 := A_ (sz_ hg (hb_ HB.out)); have GE823 := A_ (sz_ hg (hb_ HB.out)); replace HB := A_ (below_step (hb_ HB.out) hb); clear hb hbox hg; have hcz9_0 := bv_ BK823.out 0; have hcz9_1 := bv_ BK823.out 1; have hcz9_2 := bv_ BK823.out 2; have hcz9_3 := bv_ BK823.out 3; have hfz9_0 := blk_frozen BK823.out 0; have hfz9_1 := blk_frozen BK823.out 1; have hfz9_2 := blk_frozen BK823.out 2; have hfz9_3 := blk_frozen BK823.out 3))
 have n0_ : Aside0 ((((((w8.setCell ⟨gb823, 0, none⟩ (.bool t819)).setCell ⟨gb823, 1, none⟩ (.int .i64 t820)).setCell ⟨gb823, 2, none⟩ (.int .i64 t821)).setCell ⟨gb823, 3, none⟩ (.int .u64 t822)).setCell ⟨gb823, 0, none⟩ (.bool (!t819))).heap[gb823]? = some (.cells #[.bool (!t819), .int .i64 t820, .int .i64 t821, .int .u64 t822] 57 (0, 0))) := ⟨by (with_reducible repeat (first | refine blk_drewN ?_ _ | refine blk_drew ?_ | refine blk_alloc ?_ _)); refine blk_put (cs := #[.bool t819, .int .i64 t820, .int .i64 t821, .int .u64 t822]) ?_ 0 _ rfl; (with_reducible repeat (first | refine blk_drewN ?_ _ | refine blk_drew ?_ | refine blk_alloc ?_ _)); refine blk_put (cs := #[.bool t819, .int .i64 t820, .int .i64 t821, .int .u64 0]) ?_ 3 _ rfl; (with_reducible repeat (first | refine blk_drewN ?_ _ | refine blk_drew ?_ | refine blk_alloc ?_ _)); refine blk_put (cs := #[.bool t819, .int .i64 t820, .int .i64 0, .int .u64 0]) ?_ 2 _ rfl; (with_reducible repeat (first | refine blk_drewN ?_ _ | refine blk_drew ?_ | refine blk_alloc ?_ _)); refine blk_put (cs := #[.bool t819, .int .i64 0, .int .i64 0, .int .u64 0]) ?_ 1 _ rfl; (with_reducible repeat (first | refine blk_drewN ?_ _ | refine blk_drew ?_ | refine blk_alloc ?_ _)); refine blk_put (cs := #[.bool false, .int .i64 0, .int .i64 0, .int .u64 0]) ?_ 0 _ rfl; (with_reducible repeat (first | refine blk_drewN ?_ _ | refine blk_drew ?_ | refine blk_alloc ?_ _)); exact BK823.out⟩
 have n1_ : Aside0 (Below w.heap.size w (((((w8.setCell ⟨gb823, 0, none⟩ (.bool t819)).setCell ⟨gb823, 1, none⟩ (.int .i64 t820)).setCell ⟨gb823, 2, none⟩ (.int .i64 t821)).setCell ⟨gb823, 3, none⟩ (.int .u64 t822)).setCell ⟨gb823, 0, none⟩ (.bool (!t819)))) := ⟨hb1_ HB.out GE823.out⟩
 (try clear BK823);(try clear HB)
 generalize (((((w8.setCell ⟨gb823, 0, none⟩ (.bool t819)).setCell ⟨gb823, 1, none⟩ (.int .i64 t820)).setCell ⟨gb823, 2, none⟩ (.int .i64 t821)).setCell ⟨gb823, 3, none⟩ (.int .u64 t822)).setCell ⟨gb823, 0, none⟩ (.bool (!t819))) = w10 at n0_ n1_ ⊢
 have BK823 := n0_;have HB := n1_;clear n0_ n1_
 replace BK823 := A_ (blk_drew BK823.out)
 replace HB := A_ (below_drew1 HB.out)
 refine start_ (n := 7) (S := fun w' => w'.cell? ⟨gb823, 0, none⟩ = some (.bool (!t819)) ∧ w'.cell? ⟨gb823, 1, none⟩ = some (.int .i64 t820) ∧ w'.cell? ⟨gb823, 2, none⟩ = some (.int .i64 t821) ∧ w'.cell? ⟨gb823, 3, none⟩ = some (.int .u64 t822)) (ds := []) #[false, false, false, false, false, false, false] (by kernel_rfl) rfl rfl ⟨bc_ BK823.out 0, bc_ BK823.out 1, bc_ BK823.out 2, bc_ BK823.out 3⟩ (fun hHeld => ?_)
 generalize w10.drew = w11 at BK823 HB hHeld ⊢
 refine pu_ 0 (some 15) #[true, false, false, false, false, false, false] rfl rfl (by kernel_rfl) ?_
 refine pu_ 1 (some 16) #[true, true, false, false, false, false, false] rfl rfl (by kernel_rfl) ?_
 refine pu_ 2 (some 17) #[true, true, true, false, false, false, false] rfl rfl (by kernel_rfl) ?_
 refine tk4_ 4 (some 19) #[true, true, true, false, true, false, false] rfl rfl (by kernel_rfl) hHeld ?_
 refine one_ (i := 3) (N := some 18) #[true, true, true, true, true, false, false] rfl rfl (by kernel_rfl) (by decide) (fun K hK => ?_)
 refine goes_ Try.func48 (by kernel_rfl) rfl #[.int .i64 a0, .int .u64 a1] (by rfl) rfl rfl mp_ ?_
 with_reducible refine (r2_Open.calls k a0 a1 t824 t825 t826 t827 _ A5.out).mono ?_
 rintro e w12 ⟨rfl, hb⟩
 refine ⟨_, rfl, ?_⟩
 replace BK823 := A_ (bb_ BK823.out hb)
 replace HB := A_ (below_step (hb1_ HB.out GE823.out) hb);(try clear hb);(try clear hb2);(try clear hk);(try clear hi)
 refine hK.out _ _ ⟨bc_ BK823.out 0, bc_ BK823.out 1, bc_ BK823.out 2, bc_ BK823.out 3⟩ (fun hHeld => ?_)
 clear hK K
 refine norm_ (a' := ?_) ?_ ?_
 rotate_left
 ·show Act.put _ (some 18) _ = _
  simp only [Act.put, lI_, l0_, lS_, i64_w, i32_w]
  rfl
 refine one_ (i := 5) (N := some 20) #[true, true, true, true, true, true, false] rfl rfl (by kernel_rfl) (by decide) (fun K hK => ?_)
 refine goes_ Try.func84 (by kernel_rfl) rfl #[.int .i64 a0, .agg #[.bool t824, .int .i64 t825, .int .i64 t826, .int .u64 t827], .agg #[.bool (!t819), .int .i64 t820, .int .i64 t821, .int .u64 t822]] (by rfl) rfl rfl mp_ ?_
 with_reducible refine (r4_parts.calls k a0 t824 t825 t826 t827 (!t819) t820 t821 t822 t828 _ A6.out).mono ?_
 rintro e w13 ⟨rfl, hb⟩
 refine ⟨_, rfl, ?_⟩
 replace BK823 := A_ (bb_ BK823.out hb)
 replace HB := A_ (below_step (hb1_ HB.out GE823.out) hb);(try clear hb);(try clear hb2);(try clear hk);(try clear hi)
 refine hK.out _ _ ⟨bc_ BK823.out 0, bc_ BK823.out 1, bc_ BK823.out 2, bc_ BK823.out 3⟩ (fun hHeld => ?_)
 clear hK K
 refine norm_ (a' := ?_) ?_ ?_
 rotate_left
 ·show Act.put _ (some 20) _ = _
  simp only [Act.put, lI_, l0_, lS_, i64_w, i32_w]
  rfl
 refine pu_ 6 (some 6) #[true, true, true, true, true, true, true] rfl rfl (by kernel_rfl) ?_
 refine done_ (by kernel_rfl) ?_
 try go_wp2
 go_ret
 exact ⟨er_, hb1_ HB.out GE823.out⟩
mutual
def r4_Cmp.j0 : Nat → Int → Int → Int → Bool → Bool → Int → Int → Int → Bool → Int → Int → Int → Option (Int)
 | 0, _, _, _, _, _, _, _, _, _, _, _, _ => none
 | k + 1, x0, x1, x2, x23, x840000, x840001, x840002, x840003, x845000, x845001, x845002, x845003 => if x23 = true then (some 2) else (if x840001 = 2 then (if x845001 = 2 then (r4_Cmp.j1 k x0 x1 x2 (x840000 == x845000)) else (r4_Cmp.j1 k x0 x1 x2 false)) else (r4_Cmp.j1 k x0 x1 x2 false))
def r4_Cmp.j1 : Nat → Int → Int → Int → Bool → Option (Int)
 | 0, _, _, _, _ => none
 | k + 1, x0, x1, x2, x38 => if x38 = true then (some 0) else ((r4_Sub.f k x0 x1 x2).bind fun t845 => ((r2_Open.f k x0 t845).bind fun bt846 => (if bt846.2.1 = 0 then (some 0) else (if bt846.1 = true then (some (-1)) else (some 1)))))
end
def r4_Cmp.f (k : Nat) (a0 : Int) (a1 : Int) (a2 : Int) : Option (Int) := (r2_Open.f k a0 a1).bind fun bt835 => ((r2_Open.f k a0 a2).bind fun bt840 => (if bt835.2.1 = 3 then (r4_Cmp.j0 k a0 a1 a2 true bt835.1 bt835.2.1 bt835.2.2.1 bt835.2.2.2 bt840.1 bt840.2.1 bt840.2.2.1 bt840.2.2.2) else (r4_Cmp.j0 k a0 a1 a2 (bt840.2.1 == 3) bt835.1 bt835.2.1 bt835.2.2.1 bt835.2.2.2 bt840.1 bt840.2.1 bt840.2.2.1 bt840.2.2.2)))
theorem r4_Cmp.mono_l : ∀ k, (∀ y0 y1 y2 y3 y4 y5 y6 y7 y8 y9 y10 y11, LeO (r4_Cmp.j0 k y0 y1 y2 y3 y4 y5 y6 y7 y8 y9 y10 y11) (r4_Cmp.j0 (k + 1) y0 y1 y2 y3 y4 y5 y6 y7 y8 y9 y10 y11)) ∧ (∀ y0 y1 y2 y3, LeO (r4_Cmp.j1 k y0 y1 y2 y3) (r4_Cmp.j1 (k + 1) y0 y1 y2 y3))
 | 0 => ⟨fun _ _ _ _ _ _ _ _ _ _ _ _ r h => by simp [r4_Cmp.j0] at h, fun _ _ _ _ r h => by simp [r4_Cmp.j1] at h⟩
 | k + 1 => by
  obtain ⟨ih0, ih1⟩ := r4_Cmp.mono_l k
  refine ⟨?_, ?_⟩
  ·intro y0 y1 y2 y3 y4 y5 y6 y7 y8 y9 y10 y11
   unfold r4_Cmp.j0
   repeat' first
   | (with_reducible exact ih0 _ _ _ _ _ _ _ _ _ _ _ _)
   | (with_reducible exact ih1 _ _ _ _)
   | (with_reducible exact r2_Open.mono _ _ _)
   | (with_reducible exact r4_Sub.mono _ _ _ _)
   | (with_reducible exact LeO.refl _)
   | (with_reducible exact LeO.none _)
   | (with_reducible refine LeO.ite ?_ ?_)
   | (with_reducible refine LeO.bind ?_ (fun _ => ?_))
   | exact ih0 _ _ _ _ _ _ _ _ _ _ _ _
   | exact ih1 _ _ _ _
   | exact r2_Open.mono _ _ _
   | exact r4_Sub.mono _ _ _ _
   | exact LeO.none _
   | refine LeO.ite ?_ ?_
   | refine LeO.bind ?_ (fun _ => ?_)
  ·intro y0 y1 y2 y3
   unfold r4_Cmp.j1
   repeat' first
   | (with_reducible exact ih0 _ _ _ _ _ _ _ _ _ _ _ _)
   | (with_reducible exact ih1 _ _ _ _)
   | (with_reducible exact r2_Open.mono _ _ _)
   | (with_reducible exact r4_Sub.mono _ _ _ _)
   | (with_reducible exact LeO.refl _)
   | (with_reducible exact LeO.none _)
   | (with_reducible refine LeO.ite ?_ ?_)
   | (with_reducible refine LeO.bind ?_ (fun _ => ?_))
   | exact ih0 _ _ _ _ _ _ _ _ _ _ _ _
   | exact ih1 _ _ _ _
   | exact r2_Open.mono _ _ _
   | exact r4_Sub.mono _ _ _ _
   | exact LeO.none _
   | refine LeO.ite ?_ ?_
   | refine LeO.bind ?_ (fun _ => ?_)
theorem r4_Cmp.mono : ∀ a0 a1 a2 k, LeO (r4_Cmp.f k a0 a1 a2) (r4_Cmp.f (k + 1) a0 a1 a2) := by
 intro a0 a1 a2 k
 obtain ⟨ih0, ih1⟩ := r4_Cmp.mono_l k
 unfold r4_Cmp.f
 repeat' first
   | (with_reducible exact ih0 _ _ _ _ _ _ _ _ _ _ _ _)
   | (with_reducible exact ih1 _ _ _ _)
   | (with_reducible exact r2_Open.mono _ _ _)
   | (with_reducible exact r4_Sub.mono _ _ _ _)
   | (with_reducible exact LeO.refl _)
   | (with_reducible exact LeO.none _)
   | (with_reducible refine LeO.ite ?_ ?_)
   | (with_reducible refine LeO.bind ?_ (fun _ => ?_))
   | exact ih0 _ _ _ _ _ _ _ _ _ _ _ _
   | exact ih1 _ _ _ _
   | exact r2_Open.mono _ _ _
   | exact r4_Sub.mono _ _ _ _
   | exact LeO.none _
   | refine LeO.ite ?_ ?_
   | refine LeO.bind ?_ (fun _ => ?_)
theorem r4_Cmp.calls (k : Nat) (a0 : Int) (a1 : Int) (a2 : Int) (r : Int) (w : World) (h : r4_Cmp.f k a0 a1 a2 = some r) :
  Calls Try.prog 47 #[.int .i64 a0, .int .u64 a1, .int .u64 a2] w fun e w' => e = .returned (.int .i64 r) ∧ Below w.heap.size w w' := by
 have hu57 := Try.underlying57
 have HB := A_ (Below.refl w.heap.size w)
 have H : ((r2_Open.f k a0 a1).bind fun bt835 => ((r2_Open.f k a0 a2).bind fun bt840 => (if bt835.2.1 = 3 then (r4_Cmp.j0 k a0 a1 a2 true bt835.1 bt835.2.1 bt835.2.2.1 bt835.2.2.2 bt840.1 bt840.2.1 bt840.2.2.1 bt840.2.2.2) else (r4_Cmp.j0 k a0 a1 a2 (bt840.2.1 == 3) bt835.1 bt835.2.1 bt835.2.2.1 bt835.2.2.2 bt840.1 bt840.2.1 bt840.2.2.1 bt840.2.2.2)))) = some r := h
 clear h
 replace H := ob_ H
 obtain ⟨⟨t835, t836, t837, t838⟩, A40, H⟩ := H
 replace H : ((r2_Open.f k a0 a2).bind fun bt840 => (if t836 = 3 then (r4_Cmp.j0 k a0 a1 a2 true t835 t836 t837 t838 bt840.1 bt840.2.1 bt840.2.2.1 bt840.2.2.2) else (r4_Cmp.j0 k a0 a1 a2 (bt840.2.1 == 3) t835 t836 t837 t838 bt840.1 bt840.2.1 bt840.2.2.1 bt840.2.2.2))) = some r := H
 have A4 := A_ A40;clear A40
 replace H := ob_ H
 obtain ⟨⟨t840, t841, t842, t843⟩, A50, H⟩ := H
 replace H : (if t836 = 3 then (r4_Cmp.j0 k a0 a1 a2 true t835 t836 t837 t838 t840 t841 t842 t843) else (r4_Cmp.j0 k a0 a1 a2 (t841 == 3) t835 t836 t837 t838 t840 t841 t842 t843)) = some r := H
 have A5 := A_ A50;clear A50;have HC6 := A_ H;clear H
 go_enter Try.func47, Try.ntmps47
 go_upto_region 3 with (first | ((with_reducible refine gate_callee (f := 48) rfl ?_); refine gl_ (some 12) Try.func48 #[.int .i64 a0, .int .u64 a1] ?_; (with_reducible refine (r2_Open.calls k a0 a1 t835 t836 t837 t838 _ A4.out).mono ?_); rintro e w7 ⟨rfl, hb⟩; refine ⟨_, rfl, ?_⟩; replace HB := A_ (below_step (hb_ HB.out) hb); (try clear hb); (try clear hb2); (try clear hk); (try clear hi)) | ((with_reducible refine gate_dst (N := 7) rfl ?_); refine be_ 7 #[.bool false, .int .i64 0, .int .i64 0, .int .u64 0] 57 ?_; intro gb839 hg w8 hbox hb; have BK839 := A_ (hbox); have GW839 := A_ (sz_ hg (hb_ HB.out)); have GE839 := A_ (sz_ hg (hb_ HB.out)); replace HB := A_ (below_step (hb_ HB.out) hb); clear hb hbox hg; have hcz9_0 := bv_ BK839.out 0; have hcz9_1 := bv_ BK839.out 1; have hcz9_2 := bv_ BK839.out 2; have hcz9_3 := bv_ BK839.out 3; have hfz9_0 := blk_frozen BK839.out 0; have hfz9_1 := blk_frozen BK839.out 1; have hfz9_2 := blk_frozen BK839.out 2; have hfz9_3 := blk_frozen BK839.out 3) | ((with_reducible refine gate_callee (f := 48) rfl ?_); refine gl_ (some 15) Try.func48 #[.int .i64 a0, .int .u64 a2] ?_; (with_reducible refine (r2_Open.calls k a0 a2 t840 t841 t842 t843 _ A5.out).mono ?_); rintro e w10 ⟨rfl, hb⟩; refine ⟨_, rfl, ?_⟩; replace BK839 := A_ (blk_below (g := gb839) (o := .cells #[.bool t835, .int .i64 t836, .int .i64 t837, .int .u64 t838] 57 (0, 0)) (by (with_reducible repeat (first | refine blk_drewN ?_ _ | refine blk_drew ?_ | refine blk_alloc ?_ _)); refine blk_put (cs := #[.bool t835, .int .i64 t836, .int .i64 t837, .int .u64 0]) ?_ 3 _ rfl; (with_reducible repeat (first | refine blk_drewN ?_ _ | refine blk_drew ?_ | refine blk_alloc ?_ _)); refine blk_put (cs := #[.bool t835, .int .i64 t836, .int .i64 0, .int .u64 0]) ?_ 2 _ rfl; (with_reducible repeat (first | refine blk_drewN ?_ _ | refine blk_drew ?_ | refine blk_alloc ?_ _)); refine blk_put (cs := #[.bool t835, .int .i64 0, .int .i64 0, .int .u64 0]) ?_ 1 _ rfl; (with_reducible repeat (first | refine blk_drewN ?_ _ | refine blk_drew ?_ | refine blk_alloc ?_ _)); refine blk_put (cs := #[.bool false, .int .i64 0, .int .i64 0, .int .u64 0]) ?_ 0 _ rfl; (with_reducible repeat (first | refine blk_drewN ?_ _ | refine blk_drew ?_ | refine blk_alloc ?_ _)); exact BK839.out) hb); replace HB := A_ (below_step (hb1_ HB.out GE839.out) hb); (try clear hb); (try clear hb2); (try clear hk); (try clear hi)) | ((with_reducible refine gate_dst (N := 8) rfl ?_); refine be_ 8 #[.bool false, .int .i64 0, .int .i64 0, .int .u64 0] 57 ?_; intro gb844 hg w11 hbox hb; have BK844 := A_ (hbox); have GW844 := A_ (sz_ hg (hb1_ HB.out GE839.out)); have GE844 := A_ (sz_ hg (hb1_ HB.out GE839.out)); have NB839_844 := A_ (nl_ hg BK839.out); have NB844_839 := A_ (ng_ hg BK839.out); replace BK839 := A_ (bb_ BK839.out hb); replace HB := A_ (below_step (hb1_ HB.out GE839.out) hb); clear hb hbox hg; have hnb12 := NB844_839.out; have hnc12 := NB839_844.out; have hcz13_0 := bv_ BK844.out 0; have hcz13_1 := bv_ BK844.out 1; have hcz13_2 := bv_ BK844.out 2; have hcz13_3 := bv_ BK844.out 3; have hfz13_0 := blk_frozen BK844.out 0; have hfz13_1 := blk_frozen BK844.out 1; have hfz13_2 := blk_frozen BK844.out 2; have hfz13_3 := blk_frozen BK844.out 3))
 (try simp only [Act.put, lI_, l0_, lS_])
 go_cut [23] (fun v23 wc => ∃ (kq : Nat) (x23_5 : Bool), v23 = .bool x23_5 ∧ Aside0 (r4_Cmp.j0 kq a0 a1 a2 x23_5 t835 t836 t837 t838 t840 t841 t842 t843 = some r) ∧ Aside0 (kq ≤ k) ∧ Aside0 (wc.heap[gb839]? = some (.cells #[.bool t835, .int .i64 t836, .int .i64 t837, .int .u64 t838] 57 (0, 0))) ∧ Aside0 (wc.heap[gb844]? = some (.cells #[.bool t840, .int .i64 t841, .int .i64 t842, .int .u64 t843] 57 (0, 0))) ∧ Aside0 (Below w.heap.size w wc))
 case first =>
  have H := HC6.out
  clear HC6
  by_cases c14 : t836 = 3
  ·rw [if_pos c14] at H
   have c14b0 : (t836 == 3) = true := beq_iff_eq.mpr c14
   have c14b1 : (t836 != 3) = false := bne_eq_false_iff_eq.mpr c14
   clear c14
   (first | rw [c14b0] | (simp only [i64_w, i32_w]; rw [c14b0]) | skip)
   have H' := A_ H
   clear H
   have hnb15 := NB839_844.out
   have hnc15 := NB844_839.out
   have hcz16_0 := bv_ BK839.out 0
   have hcz16_1 := bv_ BK839.out 1
   have hcz16_2 := bv_ BK839.out 2
   have hcz16_3 := bv_ BK839.out 3
   have hfz16_0 := blk_frozen BK839.out 0
   have hfz16_1 := blk_frozen BK839.out 1
   have hfz16_2 := blk_frozen BK839.out 2
   have hfz16_3 := blk_frozen BK839.out 3
   go_wp2
   go_meet
   case rel => exact ⟨_, (true), sm_, H', ⟨by first | omega | exact Nat.le_refl _⟩, ⟨bf4_ BK839.out NB839_844.out NB839_844.out NB839_844.out NB839_844.out⟩, ⟨by (with_reducible repeat (first | refine blk_drewN ?_ _ | refine blk_drew ?_ | refine blk_alloc ?_ _)); refine blk_put (cs := #[.bool t840, .int .i64 t841, .int .i64 t842, .int .u64 0]) ?_ 3 _ rfl; (with_reducible repeat (first | refine blk_drewN ?_ _ | refine blk_drew ?_ | refine blk_alloc ?_ _)); refine blk_put (cs := #[.bool t840, .int .i64 t841, .int .i64 0, .int .u64 0]) ?_ 2 _ rfl; (with_reducible repeat (first | refine blk_drewN ?_ _ | refine blk_drew ?_ | refine blk_alloc ?_ _)); refine blk_put (cs := #[.bool t840, .int .i64 0, .int .i64 0, .int .u64 0]) ?_ 1 _ rfl; (with_reducible repeat (first | refine blk_drewN ?_ _ | refine blk_drew ?_ | refine blk_alloc ?_ _)); refine blk_put (cs := #[.bool false, .int .i64 0, .int .i64 0, .int .u64 0]) ?_ 0 _ rfl; (with_reducible repeat (first | refine blk_drewN ?_ _ | refine blk_drew ?_ | refine blk_alloc ?_ _)); exact BK844.out⟩, ⟨hb2_ HB.out GE839.out GE844.out⟩⟩
  ·rw [if_neg c14] at H
   have c14b0 : (t836 == 3) = false := beq_eq_false_iff_ne.mpr c14
   have c14b1 : (t836 != 3) = true := bne_iff_ne.mpr c14
   (first | rw [c14b0] | (simp only [i64_w, i32_w]; rw [c14b0]) | skip)
   have H' := A_ H
   clear H
   have hnb17 := NB839_844.out
   have hnc17 := NB844_839.out
   have hcz18_0 := bv_ BK839.out 0
   have hcz18_1 := bv_ BK839.out 1
   have hcz18_2 := bv_ BK839.out 2
   have hcz18_3 := bv_ BK839.out 3
   have hfz18_0 := blk_frozen BK839.out 0
   have hfz18_1 := blk_frozen BK839.out 1
   have hfz18_2 := blk_frozen BK839.out 2
   have hfz18_3 := blk_frozen BK839.out 3
   have hcz19_0 := bv_ BK844.out 0
   have hcz19_1 := bv_ BK844.out 1
   have hcz19_2 := bv_ BK844.out 2
   have hcz19_3 := bv_ BK844.out 3
   have hfz19_0 := blk_frozen BK844.out 0
   have hfz19_1 := blk_frozen BK844.out 1
   have hfz19_2 := blk_frozen BK844.out 2
   have hfz19_3 := blk_frozen BK844.out 3
   go_wp2
   go_meet
   case rel => exact ⟨_, ((t841 == 3)), sm_, H', ⟨by first | omega | exact Nat.le_refl _⟩, ⟨bf4_ BK839.out NB839_844.out NB839_844.out NB839_844.out NB839_844.out⟩, ⟨by (with_reducible repeat (first | refine blk_drewN ?_ _ | refine blk_drew ?_ | refine blk_alloc ?_ _)); refine blk_put (cs := #[.bool t840, .int .i64 t841, .int .i64 t842, .int .u64 0]) ?_ 3 _ rfl; (with_reducible repeat (first | refine blk_drewN ?_ _ | refine blk_drew ?_ | refine blk_alloc ?_ _)); refine blk_put (cs := #[.bool t840, .int .i64 t841, .int .i64 0, .int .u64 0]) ?_ 2 _ rfl; (with_reducible repeat (first | refine blk_drewN ?_ _ | refine blk_drew ?_ | refine blk_alloc ?_ _)); refine blk_put (cs := #[.bool t840, .int .i64 0, .int .i64 0, .int .u64 0]) ?_ 1 _ rfl; (with_reducible repeat (first | refine blk_drewN ?_ _ | refine blk_drew ?_ | refine blk_alloc ?_ _)); refine blk_put (cs := #[.bool false, .int .i64 0, .int .i64 0, .int .u64 0]) ?_ 0 _ rfl; (with_reducible repeat (first | refine blk_drewN ?_ _ | refine blk_drew ?_ | refine blk_alloc ?_ _)); exact BK844.out⟩, ⟨hb2_ HB.out GE839.out GE844.out⟩⟩
 case rest =>
  clear HC6
  try clear c1
  try clear p2
  try clear c4
  try clear c12
  try clear c14
  try clear c14b0
  try clear c14b1
  try clear c15
  try clear c17
  try clear hcz13_0
  try clear hcz13_1
  try clear hcz13_2
  try clear hcz13_3
  try clear hcz16_0
  try clear hcz16_1
  try clear hcz16_2
  try clear hcz16_3
  try clear hcz18_0
  try clear hcz18_1
  try clear hcz18_2
  try clear hcz18_3
  try clear hcz19_0
  try clear hcz19_1
  try clear hcz19_2
  try clear hcz19_3
  try clear hcz9_0
  try clear hcz9_1
  try clear hcz9_2
  try clear hcz9_3
  try clear hfz13_0
  try clear hfz13_1
  try clear hfz13_2
  try clear hfz13_3
  try clear hfz16_0
  try clear hfz16_1
  try clear hfz16_2
  try clear hfz16_3
  try clear hfz18_0
  try clear hfz18_1
  try clear hfz18_2
  try clear hfz18_3
  try clear hfz19_0
  try clear hfz19_1
  try clear hfz19_2
  try clear hfz19_3
  try clear hfz9_0
  try clear hfz9_1
  try clear hfz9_2
  try clear hfz9_3
  obtain ⟨kq, x23_5, rfl, HA, HJ5, BK839, BK844, HB⟩ := hcut
  cases kq with
  | zero => exact absurd HA.out (by simp [r4_Cmp.j0])
  | succ kj5 =>
   have H := HA.out
   clear HA
   simp only [r4_Cmp.j0] at H
   by_cases c20 : x23_5 = true
   ·subst c20
    have H1 : (some 2) = some r := by rw [if_pos rfl] at H; exact H
    clear H;have H := H1;clear H1
    obtain rfl := Option.some.inj H
    go_wp2
    go_ret
    exact ⟨er_, hb2_ HB.out GE839.out GE844.out⟩
   ·replace c20 := Bool.eq_false_iff.mpr c20
    subst c20
    have H1 : (if t836 = 2 then (if t841 = 2 then (r4_Cmp.j1 kj5 a0 a1 a2 (t835 == t840)) else (r4_Cmp.j1 kj5 a0 a1 a2 false)) else (r4_Cmp.j1 kj5 a0 a1 a2 false)) = some r := by rw [if_neg (show ¬ (false = true) by decide)] at H; exact H
    clear H;have H := H1;clear H1;have HC21 := A_ H;clear H
    go_upto_region 5 with (fail)
    go_cut [38] (fun v38 wc => ∃ (kq : Nat) (x38_20 : Bool), v38 = .bool x38_20 ∧ Aside0 (r4_Cmp.j1 kq a0 a1 a2 x38_20 = some r) ∧ Aside0 (kq ≤ kj5) ∧ Aside0 (wc.heap[gb839]? = some (.cells #[.bool t835, .int .i64 t836, .int .i64 t837, .int .u64 t838] 57 (0, 0))) ∧ Aside0 (wc.heap[gb844]? = some (.cells #[.bool t840, .int .i64 t841, .int .i64 t842, .int .u64 t843] 57 (0, 0))) ∧ Aside0 (Below w.heap.size w wc))
    case first =>
     have H := HC21.out
     clear HC21
     by_cases c22 : t836 = 2
     ·rw [if_pos c22] at H
      have c22b0 : (t836 == 2) = true := beq_iff_eq.mpr c22
      have c22b1 : (t836 != 2) = false := bne_eq_false_iff_eq.mpr c22
      clear c22
      (first | rw [c22b0] | (simp only [i64_w, i32_w]; rw [c22b0]) | skip)
      by_cases c23 : t841 = 2
      ·rw [if_pos c23] at H
       have c23b0 : (t841 == 2) = true := beq_iff_eq.mpr c23
       have c23b1 : (t841 != 2) = false := bne_eq_false_iff_eq.mpr c23
       clear c23
       have H' := A_ H
       clear H
       have hnb24 := NB839_844.out
       have hnc24 := NB844_839.out
       have hcz25_0 := bv_ BK839.out 0
       have hcz25_1 := bv_ BK839.out 1
       have hcz25_2 := bv_ BK839.out 2
       have hcz25_3 := bv_ BK839.out 3
       have hfz25_0 := blk_frozen BK839.out 0
       have hfz25_1 := blk_frozen BK839.out 1
       have hfz25_2 := blk_frozen BK839.out 2
       have hfz25_3 := blk_frozen BK839.out 3
       have hcz26_0 := bv_ BK844.out 0
       have hcz26_1 := bv_ BK844.out 1
       have hcz26_2 := bv_ BK844.out 2
       have hcz26_3 := bv_ BK844.out 3
       have hfz26_0 := blk_frozen BK844.out 0
       have hfz26_1 := blk_frozen BK844.out 1
       have hfz26_2 := blk_frozen BK844.out 2
       have hfz26_3 := blk_frozen BK844.out 3
       go_wp2
       go_meet
       case rel => exact ⟨_, ((t835 == t840)), sm_, H', ⟨by have := HJ5.out; first | omega | exact Nat.le_refl _⟩, ⟨bk_ BK839.out⟩, ⟨bk_ BK844.out⟩, ⟨hb2_ HB.out GE839.out GE844.out⟩⟩
      ·rw [if_neg c23] at H
       have c23b0 : (t841 == 2) = false := beq_eq_false_iff_ne.mpr c23
       have c23b1 : (t841 != 2) = true := bne_iff_ne.mpr c23
       have H' := A_ H
       clear H
       have hnb27 := NB839_844.out
       have hnc27 := NB844_839.out
       have hcz28_0 := bv_ BK839.out 0
       have hcz28_1 := bv_ BK839.out 1
       have hcz28_2 := bv_ BK839.out 2
       have hcz28_3 := bv_ BK839.out 3
       have hfz28_0 := blk_frozen BK839.out 0
       have hfz28_1 := blk_frozen BK839.out 1
       have hfz28_2 := blk_frozen BK839.out 2
       have hfz28_3 := blk_frozen BK839.out 3
       have hcz29_0 := bv_ BK844.out 0
       have hcz29_1 := bv_ BK844.out 1
       have hcz29_2 := bv_ BK844.out 2
       have hcz29_3 := bv_ BK844.out 3
       have hfz29_0 := blk_frozen BK844.out 0
       have hfz29_1 := blk_frozen BK844.out 1
       have hfz29_2 := blk_frozen BK844.out 2
       have hfz29_3 := blk_frozen BK844.out 3
       go_wp2
       go_meet
       case rel => exact ⟨_, (false), sm_, H', ⟨by have := HJ5.out; first | omega | exact Nat.le_refl _⟩, ⟨bk_ BK839.out⟩, ⟨bk_ BK844.out⟩, ⟨hb2_ HB.out GE839.out GE844.out⟩⟩
     ·rw [if_neg c22] at H
      have c22b0 : (t836 == 2) = false := beq_eq_false_iff_ne.mpr c22
      have c22b1 : (t836 != 2) = true := bne_iff_ne.mpr c22
      (first | rw [c22b0] | (simp only [i64_w, i32_w]; rw [c22b0]) | skip)
      have H' := A_ H
      clear H
      have hnb30 := NB839_844.out
      have hnc30 := NB844_839.out
      have hcz31_0 := bv_ BK839.out 0
      have hcz31_1 := bv_ BK839.out 1
      have hcz31_2 := bv_ BK839.out 2
      have hcz31_3 := bv_ BK839.out 3
      have hfz31_0 := blk_frozen BK839.out 0
      have hfz31_1 := blk_frozen BK839.out 1
      have hfz31_2 := blk_frozen BK839.out 2
      have hfz31_3 := blk_frozen BK839.out 3
      go_wp2
      go_meet
      case rel => exact ⟨_, (false), sm_, H', ⟨by have := HJ5.out; first | omega | exact Nat.le_refl _⟩, ⟨bk_ BK839.out⟩, ⟨bk_ BK844.out⟩, ⟨hb2_ HB.out GE839.out GE844.out⟩⟩
    case rest =>
     clear HC21
     try clear c1
     try clear c2
     try clear p2
     try clear c3
     try clear c4
     try clear c12
     try clear c14
     try clear c14b0
     try clear c14b1
     try clear c15
     try clear c17
     try clear c20
     try clear c22
     try clear c22b0
     try clear c22b1
     try clear c23
     try clear c23b0
     try clear c23b1
     try clear c24
     try clear c27
     try clear c30
     try clear hcz13_0
     try clear hcz13_1
     try clear hcz13_2
     try clear hcz13_3
     try clear hcz16_0
     try clear hcz16_1
     try clear hcz16_2
     try clear hcz16_3
     try clear hcz18_0
     try clear hcz18_1
     try clear hcz18_2
     try clear hcz18_3
     try clear hcz19_0
     try clear hcz19_1
     try clear hcz19_2
     try clear hcz19_3
     try clear hcz25_0
     try clear hcz25_1
     try clear hcz25_2
     try clear hcz25_3
     try clear hcz26_0
     try clear hcz26_1
     try clear hcz26_2
     try clear hcz26_3
     try clear hcz28_0
     try clear hcz28_1
     try clear hcz28_2
     try clear hcz28_3
     try clear hcz29_0
     try clear hcz29_1
     try clear hcz29_2
     try clear hcz29_3
     try clear hcz31_0
     try clear hcz31_1
     try clear hcz31_2
     try clear hcz31_3
     try clear hcz9_0
     try clear hcz9_1
     try clear hcz9_2
     try clear hcz9_3
     try clear hfz13_0
     try clear hfz13_1
     try clear hfz13_2
     try clear hfz13_3
     try clear hfz16_0
     try clear hfz16_1
     try clear hfz16_2
     try clear hfz16_3
     try clear hfz18_0
     try clear hfz18_1
     try clear hfz18_2
     try clear hfz18_3
     try clear hfz19_0
     try clear hfz19_1
     try clear hfz19_2
     try clear hfz19_3
     try clear hfz25_0
     try clear hfz25_1
     try clear hfz25_2
     try clear hfz25_3
     try clear hfz26_0
     try clear hfz26_1
     try clear hfz26_2
     try clear hfz26_3
     try clear hfz28_0
     try clear hfz28_1
     try clear hfz28_2
     try clear hfz28_3
     try clear hfz29_0
     try clear hfz29_1
     try clear hfz29_2
     try clear hfz29_3
     try clear hfz31_0
     try clear hfz31_1
     try clear hfz31_2
     try clear hfz31_3
     try clear hfz9_0
     try clear hfz9_1
     try clear hfz9_2
     try clear hfz9_3
     try clear p2
     obtain ⟨kq, x38_20, rfl, HA, HJ20, BK839, BK844, HB⟩ := hcut
     cases kq with
     | zero => exact absurd HA.out (by simp [r4_Cmp.j1])
     | succ kj20 =>
      have H := HA.out
      clear HA
      simp only [r4_Cmp.j1] at H
      by_cases c32 : x38_20 = true
      ·subst c32
       have H1 : (some 0) = some r := by rw [if_pos rfl] at H; exact H
       clear H;have H := H1;clear H1
       obtain rfl := Option.some.inj H
       go_wp2
       go_ret
       exact ⟨er_, hb2_ HB.out GE839.out GE844.out⟩
      ·replace c32 := Bool.eq_false_iff.mpr c32
       subst c32
       have H1 : ((r4_Sub.f kj20 a0 a1 a2).bind fun t845 => ((r2_Open.f kj20 a0 t845).bind fun bt846 => (if bt846.2.1 = 0 then (some 0) else (if bt846.1 = true then (some (-1)) else (some 1))))) = some r := by rw [if_neg (show ¬ (false = true) by decide)] at H; exact H
       clear H;have H := H1;clear H1
       replace H := ob_ H
       obtain ⟨t845, A330, H⟩ := H
       replace H : ((r2_Open.f kj20 a0 t845).bind fun bt846 => (if bt846.2.1 = 0 then (some 0) else (if bt846.1 = true then (some (-1)) else (some 1)))) = some r := H
       have A33 := A_ A330;clear A330
       replace H := ob_ H
       obtain ⟨⟨t846, t847, t848, t849⟩, A340, H⟩ := H
       replace H : (if t847 = 0 then (some 0) else (if t846 = true then (some (-1)) else (some 1))) = some r := H
       have A34 := A_ A340;clear A340
       by_cases c35 : t847 = 0
       ·rw [if_pos c35] at H
        have c35b0 : (t847 == 0) = true := beq_iff_eq.mpr c35
        have c35b1 : (t847 != 0) = false := bne_eq_false_iff_eq.mpr c35
        clear c35
        obtain rfl := Option.some.inj H
        go_wp2_with (first | ((with_reducible refine gate_callee (f := 46) rfl ?_); refine gl_ (some 43) Try.func46 #[.int .i64 a0, .int .u64 a1, .int .u64 a2] ?_; (with_reducible refine (r4_Sub.calls kj20 a0 a1 a2 t845 _ A33.out).mono ?_); rintro e w36 ⟨rfl, hb⟩; refine ⟨_, rfl, ?_⟩; replace BK839 := A_ (bb_ BK839.out hb); replace BK844 := A_ (bb_ BK844.out hb); replace HB := A_ (below_step (hb2_ HB.out GE839.out GE844.out) hb); (try clear hb); (try clear hb2); (try clear hk); (try clear hi)) | ((with_reducible refine gate_callee (f := 48) rfl ?_); refine gl_ (some 44) Try.func48 #[.int .i64 a0, .int .u64 t845] ?_; (with_reducible refine (r2_Open.calls kj20 a0 t845 t846 t847 t848 t849 _ A34.out).mono ?_); rintro e w37 ⟨rfl, hb⟩; refine ⟨_, rfl, ?_⟩; replace BK839 := A_ (bb_ BK839.out hb); replace BK844 := A_ (bb_ BK844.out hb); replace HB := A_ (below_step (hb2_ HB.out GE839.out GE844.out) hb); (try clear hb); (try clear hb2); (try clear hk); (try clear hi)) | ((with_reducible refine gate_dst (N := 9) rfl ?_); refine be_ 9 #[.bool false, .int .i64 0, .int .i64 0, .int .u64 0] 57 ?_; intro gb850 hg w38 hbox hb; have BK850 := A_ (hbox); have GW850 := A_ (sz_ hg (hb2_ HB.out GE839.out GE844.out)); have GE850 := A_ (sz_ hg (hb2_ HB.out GE839.out GE844.out)); have NB839_850 := A_ (nl_ hg BK839.out); have NB850_839 := A_ (ng_ hg BK839.out); have NB844_850 := A_ (nl_ hg BK844.out); have NB850_844 := A_ (ng_ hg BK844.out); replace BK839 := A_ (bb_ BK839.out hb); replace BK844 := A_ (bb_ BK844.out hb); replace HB := A_ (below_step (hb2_ HB.out GE839.out GE844.out) hb); clear hb hbox hg; have hnb39 := NB850_839.out; have hnc39 := NB839_850.out; have hnb40 := NB850_844.out; have hnc40 := NB844_850.out; have hcz41_0 := bv_ BK850.out 0; have hcz41_1 := bv_ BK850.out 1; have hcz41_2 := bv_ BK850.out 2; have hcz41_3 := bv_ BK850.out 3; have hfz41_0 := blk_frozen BK850.out 0; have hfz41_1 := blk_frozen BK850.out 1; have hfz41_2 := blk_frozen BK850.out 2; have hfz41_3 := blk_frozen BK850.out 3))
        go_ret
        exact ⟨er_, hb3_ HB.out GE839.out GE844.out GE850.out⟩
       ·rw [if_neg c35] at H
        have c35b0 : (t847 == 0) = false := beq_eq_false_iff_ne.mpr c35
        have c35b1 : (t847 != 0) = true := bne_iff_ne.mpr c35
        by_cases c42 : t846 = true
        ·subst c42
         have H1 : (some (-1)) = some r := by rw [if_pos rfl] at H; exact H
         clear H;have H := H1;clear H1
         obtain rfl := Option.some.inj H
         go_wp2_with (first | ((with_reducible refine gate_callee (f := 46) rfl ?_); refine gl_ (some 43) Try.func46 #[.int .i64 a0, .int .u64 a1, .int .u64 a2] ?_; (with_reducible refine (r4_Sub.calls kj20 a0 a1 a2 t845 _ A33.out).mono ?_); rintro e w43 ⟨rfl, hb⟩; refine ⟨_, rfl, ?_⟩; replace BK839 := A_ (bb_ BK839.out hb); replace BK844 := A_ (bb_ BK844.out hb); replace HB := A_ (below_step (hb2_ HB.out GE839.out GE844.out) hb); (try clear hb); (try clear hb2); (try clear hk); (try clear hi)) | ((with_reducible refine gate_callee (f := 48) rfl ?_); refine gl_ (some 44) Try.func48 #[.int .i64 a0, .int .u64 t845] ?_; (with_reducible refine (r2_Open.calls kj20 a0 t845 true t847 t848 t849 _ A34.out).mono ?_); rintro e w44 ⟨rfl, hb⟩; refine ⟨_, rfl, ?_⟩; replace BK839 := A_ (bb_ BK839.out hb); replace BK844 := A_ (bb_ BK844.out hb); replace HB := A_ (below_step (hb2_ HB.out GE839.out GE844.out) hb); (try clear hb); (try clear hb2); (try clear hk); (try clear hi)) | ((with_reducible refine gate_dst (N := 9) rfl ?_); refine be_ 9 #[.bool false, .int .i64 0, .int .i64 0, .int .u64 0] 57 ?_; intro gb850 hg w45 hbox hb; have BK850 := A_ (hbox); have GW850 := A_ (sz_ hg (hb2_ HB.out GE839.out GE844.out)); have GE850 := A_ (sz_ hg (hb2_ HB.out GE839.out GE844.out)); have NB839_850 := A_ (nl_ hg BK839.out); have NB850_839 := A_ (ng_ hg BK839.out); have NB844_850 := A_ (nl_ hg BK844.out); have NB850_844 := A_ (ng_ hg BK844.out); replace BK839 := A_ (bb_ BK839.out hb); replace BK844 := A_ (bb_ BK844.out hb); replace HB := A_ (below_step (hb2_ HB.out GE839.out GE844.out) hb); clear hb hbox hg; have hnb46 := NB850_839.out; have hnc46 := NB839_850.out; have hnb47 := NB850_844.out; have hnc47 := NB844_850.out; have hcz48_0 := bv_ BK850.out 0; have hcz48_1 := bv_ BK850.out 1; have hcz48_2 := bv_ BK850.out 2; have hcz48_3 := bv_ BK850.out 3; have hfz48_0 := blk_frozen BK850.out 0; have hfz48_1 := blk_frozen BK850.out 1; have hfz48_2 := blk_frozen BK850.out 2; have hfz48_3 := blk_frozen BK850.out 3))
         go_ret
         exact ⟨er_, hb3_ HB.out GE839.out GE844.out GE850.out⟩
        ·replace c42 := Bool.eq_false_iff.mpr c42
         subst c42
         have H1 : (some 1) = some r := by rw [if_neg (show ¬ (false = true) by decide)] at H; exact H
         clear H;have H := H1;clear H1
         obtain rfl := Option.some.inj H
         go_wp2_with (first | ((with_reducible refine gate_callee (f := 46) rfl ?_); refine gl_ (some 43) Try.func46 #[.int .i64 a0, .int .u64 a1, .int .u64 a2] ?_; (with_reducible refine (r4_Sub.calls kj20 a0 a1 a2 t845 _ A33.out).mono ?_); rintro e w49 ⟨rfl, hb⟩; refine ⟨_, rfl, ?_⟩; replace BK839 := A_ (bb_ BK839.out hb); replace BK844 := A_ (bb_ BK844.out hb); replace HB := A_ (below_step (hb2_ HB.out GE839.out GE844.out) hb); (try clear hb); (try clear hb2); (try clear hk); (try clear hi)) | ((with_reducible refine gate_callee (f := 48) rfl ?_); refine gl_ (some 44) Try.func48 #[.int .i64 a0, .int .u64 t845] ?_; (with_reducible refine (r2_Open.calls kj20 a0 t845 false t847 t848 t849 _ A34.out).mono ?_); rintro e w50 ⟨rfl, hb⟩; refine ⟨_, rfl, ?_⟩; replace BK839 := A_ (bb_ BK839.out hb); replace BK844 := A_ (bb_ BK844.out hb); replace HB := A_ (below_step (hb2_ HB.out GE839.out GE844.out) hb); (try clear hb); (try clear hb2); (try clear hk); (try clear hi)) | ((with_reducible refine gate_dst (N := 9) rfl ?_); refine be_ 9 #[.bool false, .int .i64 0, .int .i64 0, .int .u64 0] 57 ?_; intro gb850 hg w51 hbox hb; have BK850 := A_ (hbox); have GW850 := A_ (sz_ hg (hb2_ HB.out GE839.out GE844.out)); have GE850 := A_ (sz_ hg (hb2_ HB.out GE839.out GE844.out)); have NB839_850 := A_ (nl_ hg BK839.out); have NB850_839 := A_ (ng_ hg BK839.out); have NB844_850 := A_ (nl_ hg BK844.out); have NB850_844 := A_ (ng_ hg BK844.out); replace BK839 := A_ (bb_ BK839.out hb); replace BK844 := A_ (bb_ BK844.out hb); replace HB := A_ (below_step (hb2_ HB.out GE839.out GE844.out) hb); clear hb hbox hg; have hnb52 := NB850_839.out; have hnc52 := NB839_850.out; have hnb53 := NB850_844.out; have hnc53 := NB844_850.out; have hcz54_0 := bv_ BK850.out 0; have hcz54_1 := bv_ BK850.out 1; have hcz54_2 := bv_ BK850.out 2; have hcz54_3 := bv_ BK850.out 3; have hfz54_0 := blk_frozen BK850.out 0; have hfz54_1 := blk_frozen BK850.out 1; have hfz54_2 := blk_frozen BK850.out 2; have hfz54_3 := blk_frozen BK850.out 3))
         go_ret
         exact ⟨er_, hb3_ HB.out GE839.out GE844.out GE850.out⟩
def L04_SumOrder.j0 : Nat → Int → Bool → Int → Int → Int → Option (Bool)
 | 0, _, _, _, _, _ => none
 | k + 1, x0, x19, x852000, x852001, x852002 => if x19 = true then (some true) else ((sum_Add.f k x0 x852000 x852002).bind fun t855 => ((sum_Add.f k x0 x852001 x852002).bind fun t856 => ((r4_Cmp.f k x0 t855 t856).bind fun t857 => (some (t857 != 1)))))
def L04_SumOrder.f (k : Nat) (a0 : Int) (a1_0 : Int) (a1_1 : Int) (a1_2 : Int) : Option (Bool) := (L04_awake.f k).bind fun t852 => (if t852 = true then ((r2_Known.f a0).bind fun t853 => (if t853 = true then ((r4_Cmp.f k a0 a1_0 a1_1).bind fun t854 => (L04_SumOrder.j0 k a0 (decide (t854 > 0)) a1_0 a1_1 a1_2)) else (L04_SumOrder.j0 k a0 true a1_0 a1_1 a1_2))) else (some false))
theorem L04_SumOrder.mono_l : ∀ k, (∀ y0 y1 y2 y3 y4, LeO (L04_SumOrder.j0 k y0 y1 y2 y3 y4) (L04_SumOrder.j0 (k + 1) y0 y1 y2 y3 y4))
 | 0 => fun _ _ _ _ _ r h => by simp [L04_SumOrder.j0] at h
 | k + 1 => by
  have ih0 := L04_SumOrder.mono_l k
  ·intro y0 y1 y2 y3 y4
   unfold L04_SumOrder.j0
   repeat' first
   | (with_reducible exact ih0 _ _ _ _ _)
   | (with_reducible exact sum_Add.mono _ _ _ _)
   | (with_reducible exact L04_awake.mono _)
   | (with_reducible exact r4_Cmp.mono _ _ _ _)
   | (with_reducible exact LeO.refl _)
   | (with_reducible exact LeO.none _)
   | (with_reducible refine LeO.ite ?_ ?_)
   | (with_reducible refine LeO.bind ?_ (fun _ => ?_))
   | exact ih0 _ _ _ _ _
   | exact sum_Add.mono _ _ _ _
   | exact L04_awake.mono _
   | exact r4_Cmp.mono _ _ _ _
   | exact LeO.none _
   | refine LeO.ite ?_ ?_
   | refine LeO.bind ?_ (fun _ => ?_)
theorem L04_SumOrder.mono : ∀ a0 a1 a2 a3 k, LeO (L04_SumOrder.f k a0 a1 a2 a3) (L04_SumOrder.f (k + 1) a0 a1 a2 a3) := by
 intro a0 a1 a2 a3 k
 have ih0 := L04_SumOrder.mono_l k
 unfold L04_SumOrder.f
 repeat' first
   | (with_reducible exact ih0 _ _ _ _ _)
   | (with_reducible exact sum_Add.mono _ _ _ _)
   | (with_reducible exact L04_awake.mono _)
   | (with_reducible exact r4_Cmp.mono _ _ _ _)
   | (with_reducible exact LeO.refl _)
   | (with_reducible exact LeO.none _)
   | (with_reducible refine LeO.ite ?_ ?_)
   | (with_reducible refine LeO.bind ?_ (fun _ => ?_))
   | exact ih0 _ _ _ _ _
   | exact sum_Add.mono _ _ _ _
   | exact L04_awake.mono _
   | exact r4_Cmp.mono _ _ _ _
   | exact LeO.none _
   | refine LeO.ite ?_ ?_
   | refine LeO.bind ?_ (fun _ => ?_)
def L04_SumOrder.T5 : Bool × List (List Nat × List Nat) := (true, [([], []), ([], []), ([], []), ([2], [2]), ([], []), ([4], [4]), ([1, 3, 5], [1, 3, 5]), ([], []), ([], []), ([8], [8]), ([], []), ([10], [10]), ([7, 9, 11, 6], [7, 9, 11]), ([0, 6, 12, 12], [0, 6, 12]), ([13, 13, 0, 1, 2, 3, 4, 5, 6, 7, 8, 9, 10, 11, 12, 13], [13])])
def L04_SumOrder.B5 : List Nat := [0, 0, 0, 4, 0, 16, 62, 0, 0, 256, 0, 1024, 4094, 8191, 16383]
theorem L04_SumOrder.tab5 : rtab .any (opsOf Try.f12 5) = L04_SumOrder.T5 := by kernel_rfl
theorem L04_SumOrder.bits5 : waitsOk L04_SumOrder.T5.2 L04_SumOrder.B5 = true := by kernel_rfl
theorem L04_SumOrder.calls (k : Nat) (a0 : Int) (a1_0 : Int) (a1_1 : Int) (a1_2 : Int) (r : Bool) (w : World) (h : L04_SumOrder.f k a0 a1_0 a1_1 a1_2 = some r) (hr_ : Aside0 (r = true)) :
  Calls Try.prog 12 #[.int .i64 a0, .agg #[.int .u64 a1_0, .int .u64 a1_1, .int .u64 a1_2]] w fun e w' => e = .returned (.bool r) ∧ Below w.heap.size w w' := by
 have hu54 := Try.underlying54
 have HB := A_ (Below.refl w.heap.size w)
 have H : ((L04_awake.f k).bind fun t852 => (if t852 = true then ((r2_Known.f a0).bind fun t853 => (if t853 = true then ((r4_Cmp.f k a0 a1_0 a1_1).bind fun t854 => (L04_SumOrder.j0 k a0 (decide (t854 > 0)) a1_0 a1_1 a1_2)) else (L04_SumOrder.j0 k a0 true a1_0 a1_1 a1_2))) else (some false))) = some r := h
 clear h
 replace H := ob_ H
 obtain ⟨t852, A30, H⟩ := H
 replace H : (if t852 = true then ((r2_Known.f a0).bind fun t853 => (if t853 = true then ((r4_Cmp.f k a0 a1_0 a1_1).bind fun t854 => (L04_SumOrder.j0 k a0 (decide (t854 > 0)) a1_0 a1_1 a1_2)) else (L04_SumOrder.j0 k a0 true a1_0 a1_1 a1_2))) else (some false)) = some r := H
 have A3 := A_ A30;clear A30
 by_cases c4 : t852 = true
 ·subst c4
  have H1 : ((r2_Known.f a0).bind fun t853 => (if t853 = true then ((r4_Cmp.f k a0 a1_0 a1_1).bind fun t854 => (L04_SumOrder.j0 k a0 (decide (t854 > 0)) a1_0 a1_1 a1_2)) else (L04_SumOrder.j0 k a0 true a1_0 a1_1 a1_2))) = some r := by rw [if_pos rfl] at H; exact H
  clear H;have H := H1;clear H1;have HC5 := A_ H;clear H
  go_enter Try.func12, Try.ntmps12
  go_upto_region 3 with (first | ((with_reducible refine gate_dst (N := 3) rfl ?_); refine be_ 3 #[.int .u64 a1_0, .int .u64 a1_1, .int .u64 a1_2] 54 ?_; intro gb851 hg w6 hbox hb; have BK851 := A_ (hbox); have GW851 := A_ (sz_ hg (hb_ HB.out)); have GE851 := A_ (sz_ hg (hb_ HB.out)); replace HB := A_ (below_step (hb_ HB.out) hb); clear hb hbox hg) | ((with_reducible refine gate_callee (f := 43) rfl ?_); refine gl_ (some 6) Try.func43 #[] ?_; (with_reducible refine (L04_awake.calls k  true _ A3.out).mono ?_); rintro e w7 ⟨rfl, hb⟩; refine ⟨_, rfl, ?_⟩; replace BK851 := A_ (bb_ BK851.out hb); replace HB := A_ (below_step (hb1_ HB.out GE851.out) hb); (try clear hb); (try clear hb2); (try clear hk); (try clear hi)))
  (try simp only [Act.put, lI_, l0_, lS_])
  go_cut [19] (fun v19 wc => ∃ (kq : Nat) (x19_4 : Bool), v19 = .bool x19_4 ∧ Aside0 (L04_SumOrder.j0 kq a0 x19_4 a1_0 a1_1 a1_2 = some r) ∧ Aside0 (kq ≤ k) ∧ Aside0 (wc.heap[gb851]? = some (.cells #[.int .u64 a1_0, .int .u64 a1_1, .int .u64 a1_2] 54 (0, 0))) ∧ Aside0 (Below w.heap.size w wc))
  case first =>
   have H := HC5.out
   clear HC5
   replace H := ob_ H
   obtain ⟨t853, A80, H⟩ := H
   replace H : (if t853 = true then ((r4_Cmp.f k a0 a1_0 a1_1).bind fun t854 => (L04_SumOrder.j0 k a0 (decide (t854 > 0)) a1_0 a1_1 a1_2)) else (L04_SumOrder.j0 k a0 true a1_0 a1_1 a1_2)) = some r := H
   have A8 := A_ A80;clear A80
   by_cases c9 : t853 = true
   ·subst c9
    have H1 : ((r4_Cmp.f k a0 a1_0 a1_1).bind fun t854 => (L04_SumOrder.j0 k a0 (decide (t854 > 0)) a1_0 a1_1 a1_2)) = some r := by rw [if_pos rfl] at H; exact H
    clear H;have H := H1;clear H1
    replace H := ob_ H
    obtain ⟨t854, A100, H⟩ := H
    replace H : (L04_SumOrder.j0 k a0 (decide (t854 > 0)) a1_0 a1_1 a1_2) = some r := H
    have A10 := A_ A100;clear A100
    have H' := A_ H
    clear H
    go_wp2_with (first | ((with_reducible refine gate_callee (f := 16) rfl ?_); refine gl_ (some 9) Try.func16 #[.int .i64 a0] ?_; (with_reducible refine (r2_Known.calls a0 true _ A8.out).mono ?_); rintro e w' ⟨rfl, ⟨nd, rfl⟩⟩; refine ⟨_, rfl, ?_⟩; have hcz11_0 := bv_ BK851.out 0; have hcz11_1 := bv_ BK851.out 1; have hcz11_2 := bv_ BK851.out 2; have hfz11_0 := blk_frozen BK851.out 0; have hfz11_1 := blk_frozen BK851.out 1; have hfz11_2 := blk_frozen BK851.out 2) | (go_at_call 47; (with_reducible refine (r4_Cmp.calls k a0 a1_0 a1_1 t854 _ A10.out).mono ?_); rintro e w12 ⟨rfl, hb⟩; replace BK851 := A_ (bb_ BK851.out hb); replace HB := A_ (below_step (hb1_ HB.out GE851.out) hb); (try clear hb); (try clear hb2); (try clear hk); (try clear hi)))
    go_meet
    case rel => exact ⟨_, (decide (t854 > 0)), sm_, H', ⟨by first | omega | exact Nat.le_refl _⟩, ⟨bk_ BK851.out⟩, ⟨hb1_ HB.out GE851.out⟩⟩
   ·replace c9 := Bool.eq_false_iff.mpr c9
    subst c9
    have H1 : (L04_SumOrder.j0 k a0 true a1_0 a1_1 a1_2) = some r := by rw [if_neg (show ¬ (false = true) by decide)] at H; exact H
    clear H;have H := H1;clear H1
    have H' := A_ H
    clear H
    go_wp2_with (first | ((with_reducible refine gate_callee (f := 16) rfl ?_); refine gl_ (some 9) Try.func16 #[.int .i64 a0] ?_; (with_reducible refine (r2_Known.calls a0 false _ A8.out).mono ?_); rintro e w' ⟨rfl, ⟨nd, rfl⟩⟩; refine ⟨_, rfl, ?_⟩))
    go_meet
    case rel => exact ⟨_, (true), sm_, H', ⟨by first | omega | exact Nat.le_refl _⟩, ⟨bk_ BK851.out⟩, ⟨hb1_ HB.out GE851.out⟩⟩
  case rest =>
   clear HC5
   try clear c1
   try clear p2
   try clear c4
   try clear c9
   try clear c12
   try clear hcz11_0
   try clear hcz11_1
   try clear hcz11_2
   try clear hfz11_0
   try clear hfz11_1
   try clear hfz11_2
   obtain ⟨kq, x19_4, rfl, HA, HJ4, BK851, HB⟩ := hcut
   cases kq with
   | zero => exact absurd HA.out (by simp [L04_SumOrder.j0])
   | succ kj4 =>
    have H := HA.out
    clear HA
    simp only [L04_SumOrder.j0] at H
    by_cases c13 : x19_4 = true
    ·subst c13
     have H1 : (some true) = some r := by rw [if_pos rfl] at H; exact H
     clear H;have H := H1;clear H1
     obtain rfl := Option.some.inj H
     go_wp2
     go_ret
     exact ⟨er_, hb1_ HB.out GE851.out⟩
    ·replace c13 := Bool.eq_false_iff.mpr c13
     subst c13
     have H1 : ((sum_Add.f kj4 a0 a1_0 a1_2).bind fun t855 => ((sum_Add.f kj4 a0 a1_1 a1_2).bind fun t856 => ((r4_Cmp.f kj4 a0 t855 t856).bind fun t857 => (some (t857 != 1))))) = some r := by rw [if_neg (show ¬ (false = true) by decide)] at H; exact H
     clear H;have H := H1;clear H1
     replace H := ob_ H
     obtain ⟨t855, A140, H⟩ := H
     replace H : ((sum_Add.f kj4 a0 a1_1 a1_2).bind fun t856 => ((r4_Cmp.f kj4 a0 t855 t856).bind fun t857 => (some (t857 != 1)))) = some r := H
     have A14 := A_ A140;clear A140
     replace H := ob_ H
     obtain ⟨t856, A150, H⟩ := H
     replace H : ((r4_Cmp.f kj4 a0 t855 t856).bind fun t857 => (some (t857 != 1))) = some r := H
     have A15 := A_ A150;clear A150
     replace H := ob_ H
     obtain ⟨t857, A160, H⟩ := H
     replace H : (some (t857 != 1)) = some r := H
     have A16 := A_ A160;clear A160
     obtain rfl := Option.some.inj H
     try go_wp2
     replace BK851 := A_ (blk_drew BK851.out)
     replace HB := A_ (below_drew1 HB.out)
     refine start_ (n := 15) (S := fun w' => w'.cell? ⟨gb851, 0, none⟩ = some (.int .u64 a1_0) ∧ w'.cell? ⟨gb851, 1, none⟩ = some (.int .u64 a1_1) ∧ w'.cell? ⟨gb851, 2, none⟩ = some (.int .u64 a1_2)) (ds := []) #[false, false, false, false, false, false, false, false, false, false, false, false, false, false, false] (by kernel_rfl) rfl rfl ⟨bc_ BK851.out 0, bc_ BK851.out 1, bc_ BK851.out 2⟩ (fun hHeld => ?_); refine with_tabW L04_SumOrder.tab5 L04_SumOrder.bits5 (fun HT_ HW_ => ?_)
     generalize wc.drew = w17 at BK851 HB hHeld ⊢
     refine pu_ 0 (some 20) #[true, false, false, false, false, false, false, false, false, false, false, false, false, false, false] rfl rfl (any_of HT_.out (by kernel_rfl)) ?_
     refine pu_ 1 (some 21) #[true, true, false, false, false, false, false, false, false, false, false, false, false, false, false] rfl rfl (any_of HT_.out (by kernel_rfl)) ?_
     refine pu_ 2 (some 22) #[true, true, true, false, false, false, false, false, false, false, false, false, false, false, false] rfl rfl (any_of HT_.out (by kernel_rfl)) ?_
     refine pu_ 4 (some 24) #[true, true, true, false, true, false, false, false, false, false, false, false, false, false, false] rfl rfl (any_of HT_.out (by kernel_rfl)) ?_
     refine pu_ 7 (some 27) #[true, true, true, false, true, false, false, true, false, false, false, false, false, false, false] rfl rfl (any_of HT_.out (by kernel_rfl)) ?_
     refine pu_ 8 (some 28) #[true, true, true, false, true, false, false, true, true, false, false, false, false, false, false] rfl rfl (any_of HT_.out (by kernel_rfl)) ?_
     refine pu_ 10 (some 30) #[true, true, true, false, true, false, false, true, true, false, true, false, false, false, false] rfl rfl (any_of HT_.out (by kernel_rfl)) ?_
     refine tk3_ 3 (some 23) #[true, true, true, true, true, false, false, true, true, false, true, false, false, false, false] rfl rfl (take_ofW HT_.out HW_.out (by kernel_rfl)) hHeld ?_
     refine tk3_ 5 (some 25) #[true, true, true, true, true, true, false, true, true, false, true, false, false, false, false] rfl rfl (take_ofW HT_.out HW_.out (by kernel_rfl)) hHeld ?_
     refine tk3_ 9 (some 29) #[true, true, true, true, true, true, false, true, true, true, true, false, false, false, false] rfl rfl (take_ofW HT_.out HW_.out (by kernel_rfl)) hHeld ?_
     refine tk3_ 11 (some 31) #[true, true, true, true, true, true, false, true, true, true, true, true, false, false, false] rfl rfl (take_ofW HT_.out HW_.out (by kernel_rfl)) hHeld ?_
     refine one_ (i := 6) (N := some 26) #[true, true, true, true, true, true, true, true, true, true, true, true, false, false, false] rfl rfl (one_of HT_.out (by kernel_rfl)) (by decide) (fun K hK => ?_)
     refine goes_ Try.func20 (by kernel_rfl) rfl #[.int .i64 a0, .int .u64 a1_0, .int .u64 a1_2] (by rfl) rfl rfl mp_ ?_
     with_reducible refine (sum_Add.calls kj4 a0 a1_0 a1_2 t855 _ A14.out).mono ?_
     rintro e w18 ⟨rfl, hb⟩
     refine ⟨_, rfl, ?_⟩
     replace BK851 := A_ (bb_ BK851.out hb)
     replace HB := A_ (below_step (hb1_ HB.out GE851.out) hb);(try clear hb);(try clear hb2);(try clear hk);(try clear hi)
     refine hK.out _ _ ⟨bc_ BK851.out 0, bc_ BK851.out 1, bc_ BK851.out 2⟩ (fun hHeld => ?_)
     clear hK K
     refine norm_ (a' := ?_) ?_ ?_
     rotate_left
     ·show Act.put _ (some 26) _ = _
      simp only [Act.put, lI_, l0_, lS_, i64_w, i32_w]
      rfl
     refine one_ (i := 12) (N := some 32) #[true, true, true, true, true, true, true, true, true, true, true, true, true, false, false] rfl rfl (one_of HT_.out (by kernel_rfl)) (by decide) (fun K hK => ?_)
     refine goes_ Try.func20 (by kernel_rfl) rfl #[.int .i64 a0, .int .u64 a1_1, .int .u64 a1_2] (by rfl) rfl rfl mp_ ?_
     with_reducible refine (sum_Add.calls kj4 a0 a1_1 a1_2 t856 _ A15.out).mono ?_
     rintro e w19 ⟨rfl, hb⟩
     refine ⟨_, rfl, ?_⟩
     replace BK851 := A_ (bb_ BK851.out hb)
     replace HB := A_ (below_step (hb1_ HB.out GE851.out) hb);(try clear hb);(try clear hb2);(try clear hk);(try clear hi)
     refine hK.out _ _ ⟨bc_ BK851.out 0, bc_ BK851.out 1, bc_ BK851.out 2⟩ (fun hHeld => ?_)
     clear hK K
     refine norm_ (a' := ?_) ?_ ?_
     rotate_left
     ·show Act.put _ (some 32) _ = _
      simp only [Act.put, lI_, l0_, lS_, i64_w, i32_w]
      rfl
     refine one_ (i := 13) (N := some 33) #[true, true, true, true, true, true, true, true, true, true, true, true, true, true, false] rfl rfl (one_of HT_.out (by kernel_rfl)) (by decide) (fun K hK => ?_)
     refine goes_ Try.func47 (by kernel_rfl) rfl #[.int .i64 a0, .int .u64 t855, .int .u64 t856] (by rfl) rfl rfl mp_ ?_
     with_reducible refine (r4_Cmp.calls kj4 a0 t855 t856 t857 _ A16.out).mono ?_
     rintro e w20 ⟨rfl, hb⟩
     refine ⟨_, rfl, ?_⟩
     replace BK851 := A_ (bb_ BK851.out hb)
     replace HB := A_ (below_step (hb1_ HB.out GE851.out) hb);(try clear hb);(try clear hb2);(try clear hk);(try clear hi)
     refine hK.out _ _ ⟨bc_ BK851.out 0, bc_ BK851.out 1, bc_ BK851.out 2⟩ (fun hHeld => ?_)
     clear hK K
     refine norm_ (a' := ?_) ?_ ?_
     rotate_left
     ·show Act.put _ (some 33) _ = _
      simp only [Act.put, lI_, l0_, lS_, i64_w, i32_w]
      rfl
     refine pu_ 14 (some 5) #[true, true, true, true, true, true, true, true, true, true, true, true, true, true, true] rfl rfl (any_of HT_.out (by kernel_rfl)) ?_
     refine done_ (done_of HT_.out (by kernel_rfl)) ?_
     try go_wp2
     go_ret
     exact ⟨er_, hb1_ HB.out GE851.out⟩
 ·replace c4 := Bool.eq_false_iff.mpr c4
  subst c4
  have H1 : (some false) = some r := by rw [if_neg (show ¬ (false = true) by decide)] at H; exact H
  clear H;have H := H1;clear H1
  exact absurd ((Option.some.inj H).trans hr_.out) (by decide)
def L04_SumOrder.Pure : Prop := ∀ (a0 : Int) (a1_0 : Int) (a1_1 : Int) (a1_2 : Int), (Lit.int .i64 a0).wf = true → (Lit.int .u64 a1_0).wf = true → (Lit.int .u64 a1_1).wf = true → (Lit.int .u64 a1_2).wf = true → ∃ k, L04_SumOrder.f k a0 a1_0 a1_1 a1_2 = some true
theorem L04_SumOrder.walk (P : L04_SumOrder.Pure) (a0 : Int) (a1_0 : Int) (a1_1 : Int) (a1_2 : Int) (w : World) (w0 : (Lit.int .i64 a0).wf = true) (w1_0 : (Lit.int .u64 a1_0).wf = true) (w1_1 : (Lit.int .u64 a1_1).wf = true) (w1_2 : (Lit.int .u64 a1_2).wf = true) :
  Calls Try.prog 12 #[.int .i64 a0, .agg #[.int .u64 a1_0, .int .u64 a1_1, .int .u64 a1_2]] w fun e w' => e = .returned (.bool true) ∧ Below w.heap.size w w' := by
 obtain ⟨k, h⟩ := P a0 a1_0 a1_1 a1_2 w0 w1_0 w1_1 w1_2
 refine (L04_SumOrder.calls k a0 a1_0 a1_1 a1_2 true w h ⟨rfl⟩).mono ?_
 rintro e w' ⟨rfl, hd⟩
 exact ⟨rfl, hd⟩
end Go.Proofs.Ytbpmnmceajmmcaa.PA
section
set_option linter.unusedVariables false
set_option linter.unusedSimpArgs false
namespace Go.Proofs.Ytbpmnmceajmmcaa.Th
open Go.RowKit Go.Proofs.YtbpmnmceajmmcaaW.PrintWords Go.Proofs.YtbpmnmceajmmcaaW.PrintLast Go.Proofs.YtbpmnmceajmmcaaW.PrintMore Go.Proofs.Ytbpmnmceajmmcaa.PA Bit Flo
theorem two_i {n : Int} (m : Nat) (h : n = m) (hm : m < 64) : Ev (fun k => r2_Two.f k n) ((2 ^ m : Nat) : Int) := by subst h; exact two_f m hm

theorem r2E32 : r2_E.f 32 = some 8 := by decide +kernel
theorem r2F32 : r2_F.f 32 = some 23 := by decide +kernel
theorem r2B32 : r2_B.f 32 = some 127 := by decide +kernel
theorem r2Tf32 : Ev (fun k => r2_Two.f k 23) ((8388608 : Nat) : Int) := by have h := two_i (n := 23) 23 rfl (by decide); rw [show (2 : Nat) ^ 23 = 8388608 by decide] at h; exact h
theorem r2Te32 : Ev (fun k => r2_Two.f k 8) ((256 : Nat) : Int) := by have h := two_i (n := 8) 8 rfl (by decide); rw [show (2 : Nat) ^ 8 = 256 by decide] at h; exact h
theorem r2Ts32 : Ev (fun k => r2_Two.f k (wrap64 (32 - 1))) ((2147483648 : Nat) : Int) := by have h := two_i (n := wrap64 (32 - 1)) 31 (by decide +kernel) (by decide); rw [show (2 : Nat) ^ 31 = 2147483648 by decide] at h; exact h
theorem r2Th32 : Ev (fun k => r2_Two.f k (wrap64 (23 - 1))) ((4194304 : Nat) : Int) := by have h := two_i (n := wrap64 (23 - 1)) 22 (by decide +kernel) (by decide); rw [show (2 : Nat) ^ 22 = 4194304 by decide] at h; exact h
theorem r2Exp32 (a : Nat) (ha : a < 18446744073709551616) : Ev (fun k => r2_Exp.f k 32 a) ((a / 8388608 % 256 : Nat) : Int) := by
  unfold r2_Exp.f
  refine Ev.bs (r2Cut 32 a (by decide)) (Ev.bs r2F32 (Ev.bind r2Tf32 (Ev.neg (by decide) (Ev.bs r2E32 (Ev.bind r2Te32 (Ev.neg (by decide) (Ev.out ?_)))))))
  have hc : cutN 32 a = a % 4294967296 := by unfold cutN; rw [if_pos rfl]
  rw [hc, Int.tdiv_eq_ediv_of_nonneg (by omega), u64_id (by omega) (by omega), Int.tmod_eq_emod_of_nonneg (by omega), w64_id (by omega) (by omega)]
  omega
theorem r2Frac32 (a : Nat) (ha : a < 18446744073709551616) : Ev (fun k => r2_Frac.f k 32 a) ((a % 8388608 : Nat) : Int) := by
  unfold r2_Frac.f
  refine Ev.bs r2F32 (Ev.bind r2Tf32 (Ev.neg (by decide) (Ev.out ?_)))
  rw [Int.tmod_eq_emod_of_nonneg (by omega)]; omega
theorem r2Top32 : Ev (fun k => r2_Top.f k 32) ((255 : Nat) : Int) := by
  unfold r2_Top.f
  exact Ev.bs r2E32 (Ev.bind r2Te32 (Ev.out (by decide +kernel)))
theorem r2Make32 (s : Bool) (e fr : Nat) (he : e ≤ 255) (hf : fr < 8388608) : Ev (fun k => r2_Make.f k 32 s e fr) ((mkN 32 (e * 8388608 + fr) s : Nat) : Int) := by
  unfold r2_Make.f
  refine Ev.bs r2F32 (Ev.bind r2Tf32 ?_)
  rw [u64_id (n := (e : Int)) (by omega) (by omega), u64_id (n := (e : Int) * ((8388608 : Nat) : Int)) (by omega) (by omega), u64_id (n := (e : Int) * ((8388608 : Nat) : Int) + fr) (by omega) (by omega)]
  unfold mkN
  rw [show sb 32 = 2147483648 by decide]
  cases s
  · exact Ev.neg (by decide) (Ev.out (by simp))
  · refine Ev.pos rfl (Ev.bind r2Ts32 (Ev.out ?_))
    rw [u64_id (by omega) (by omega)]; simp only [if_true]; omega
theorem r2Nan32 : Ev (fun k => r2_Nan.f k 32) ((nanN 32 : Nat) : Int) := by
  unfold r2_Nan.f
  refine Ev.bind r2Top32 (Ev.bs r2F32 (Ev.bind r2Th32 (Ev.bind (r2Make32 false 255 4194304 (by decide) (by decide)) (Ev.out (by decide)))))
theorem r2Inf32 (s : Bool) : Ev (fun k => r2_Inf.f k 32 s) ((mkN 32 f32.inf s : Nat) : Int) := by
  unfold r2_Inf.f
  have h := r2Make32 s 255 0 (by decide) (by decide)
  exact Ev.bind r2Top32 (Ev.bind h (Ev.out (by rw [inf32])))
theorem r2Open32 (a : Nat) (ha : a < 18446744073709551616) : Ev (fun k => r2_Open.f k 32 a) (opn 32 a) := by
  rw [opn32]
  unfold r2_Open.f
  refine Ev.bind (r2Exp32 a ha) (Ev.bind (r2Frac32 a ha) (Ev.bind (r2Neg 32 (by decide) a ha) (Ev.bind r2Top32 ?_)))
  unfold sgB
  rw [show sb 32 = 2147483648 by decide]
  have hP : a % 2147483648 % 8388608 = a % 8388608 := by omega
  have hQ : a % 2147483648 / 8388608 = a / 8388608 % 256 := by omega
  have hT : a / 8388608 % 256 < 256 := Nat.mod_lt _ (by decide)
  have hE : a % 2147483648 = a / 8388608 % 256 * 8388608 + a % 8388608 := by omega
  rw [hP, hQ, hE]
  generalize a / 8388608 % 256 = e at *
  have hF : a % 8388608 < 8388608 := Nat.mod_lt _ (by decide)
  generalize a % 8388608 = fr at *
  generalize decide (a / 2147483648 % 2 = 1) = s
  by_cases h1 : e = 255
  · subst h1
    refine Ev.pos rfl ?_
    by_cases h2 : fr = 0
    · subst h2
      refine Ev.pos rfl (Ev.out ?_)
      rw [if_neg (by omega), if_neg (by omega), if_pos (by omega)]
    · refine Ev.neg (by omega) (Ev.out ?_)
      rw [if_neg (by omega), if_neg (by omega), if_neg (by omega)]
  · refine Ev.neg (by omega) ?_
    by_cases h2 : e = 0
    · subst h2
      refine Ev.pos rfl ?_
      by_cases h3 : fr = 0
      · subst h3
        refine Ev.pos rfl (Ev.out ?_)
        rw [Nat.zero_mul, Nat.zero_add, if_pos rfl]
      · refine Ev.neg (by omega) (Ev.bs r2B32 (Ev.bs r2F32 (Ev.out ?_)))
        rw [if_neg (by omega), if_pos (by omega), if_pos (by omega), if_pos (by omega), show wrap64 (wrap64 (1 - 127) - 23) = (-149 : Int) by decide +kernel]
        simp
    · refine Ev.neg (by omega) (Ev.bs r2B32 (Ev.bs r2F32 (Ev.bs r2F32 (Ev.bind r2Tf32 (Ev.out ?_)))))
      rw [if_neg (by omega), if_pos (by omega), if_neg (by omega), if_neg (by omega)]
      rw [w64_id (n := ((e : Nat) : Int) - 127) (by omega) (by omega), w64_id (by omega) (by omega), u64_id (by omega) (by omega)]
      congr 2
      congr 1
      omega

theorem r2E64 : r2_E.f 64 = some 11 := by decide +kernel
theorem r2F64 : r2_F.f 64 = some 52 := by decide +kernel
theorem r2B64 : r2_B.f 64 = some 1023 := by decide +kernel
theorem r2Tf64 : Ev (fun k => r2_Two.f k 52) ((4503599627370496 : Nat) : Int) := by have h := two_i (n := 52) 52 rfl (by decide); rw [show (2 : Nat) ^ 52 = 4503599627370496 by decide] at h; exact h
theorem r2Te64 : Ev (fun k => r2_Two.f k 11) ((2048 : Nat) : Int) := by have h := two_i (n := 11) 11 rfl (by decide); rw [show (2 : Nat) ^ 11 = 2048 by decide] at h; exact h
theorem r2Ts64 : Ev (fun k => r2_Two.f k (wrap64 (64 - 1))) ((9223372036854775808 : Nat) : Int) := by have h := two_i (n := wrap64 (64 - 1)) 63 (by decide +kernel) (by decide); rw [show (2 : Nat) ^ 63 = 9223372036854775808 by decide] at h; exact h
theorem r2Th64 : Ev (fun k => r2_Two.f k (wrap64 (52 - 1))) ((2251799813685248 : Nat) : Int) := by have h := two_i (n := wrap64 (52 - 1)) 51 (by decide +kernel) (by decide); rw [show (2 : Nat) ^ 51 = 2251799813685248 by decide] at h; exact h
theorem r2Exp64 (a : Nat) (ha : a < 18446744073709551616) : Ev (fun k => r2_Exp.f k 64 a) ((a / 4503599627370496 % 2048 : Nat) : Int) := by
  unfold r2_Exp.f
  refine Ev.bs (r2Cut 64 a (by decide)) (Ev.bs r2F64 (Ev.bind r2Tf64 (Ev.neg (by decide) (Ev.bs r2E64 (Ev.bind r2Te64 (Ev.neg (by decide) (Ev.out ?_)))))))
  have hc : cutN 64 a = a % 18446744073709551616 := by unfold cutN; rw [if_neg (by decide), if_pos rfl]; omega
  rw [hc, Int.tdiv_eq_ediv_of_nonneg (by omega), u64_id (by omega) (by omega), Int.tmod_eq_emod_of_nonneg (by omega), w64_id (by omega) (by omega)]
  omega
theorem r2Frac64 (a : Nat) (ha : a < 18446744073709551616) : Ev (fun k => r2_Frac.f k 64 a) ((a % 4503599627370496 : Nat) : Int) := by
  unfold r2_Frac.f
  refine Ev.bs r2F64 (Ev.bind r2Tf64 (Ev.neg (by decide) (Ev.out ?_)))
  rw [Int.tmod_eq_emod_of_nonneg (by omega)]; omega
theorem r2Top64 : Ev (fun k => r2_Top.f k 64) ((2047 : Nat) : Int) := by
  unfold r2_Top.f
  exact Ev.bs r2E64 (Ev.bind r2Te64 (Ev.out (by decide +kernel)))
theorem r2Make64 (s : Bool) (e fr : Nat) (he : e ≤ 2047) (hf : fr < 4503599627370496) : Ev (fun k => r2_Make.f k 64 s e fr) ((mkN 64 (e * 4503599627370496 + fr) s : Nat) : Int) := by
  unfold r2_Make.f
  refine Ev.bs r2F64 (Ev.bind r2Tf64 ?_)
  rw [u64_id (n := (e : Int)) (by omega) (by omega), u64_id (n := (e : Int) * ((4503599627370496 : Nat) : Int)) (by omega) (by omega), u64_id (n := (e : Int) * ((4503599627370496 : Nat) : Int) + fr) (by omega) (by omega)]
  unfold mkN
  rw [show sb 64 = 9223372036854775808 by decide]
  cases s
  · exact Ev.neg (by decide) (Ev.out (by simp))
  · refine Ev.pos rfl (Ev.bind r2Ts64 (Ev.out ?_))
    rw [u64_id (by omega) (by omega)]; simp only [if_true]; omega
theorem r2Nan64 : Ev (fun k => r2_Nan.f k 64) ((nanN 64 : Nat) : Int) := by
  unfold r2_Nan.f
  refine Ev.bind r2Top64 (Ev.bs r2F64 (Ev.bind r2Th64 (Ev.bind (r2Make64 false 2047 2251799813685248 (by decide) (by decide)) (Ev.out (by decide)))))
theorem r2Inf64 (s : Bool) : Ev (fun k => r2_Inf.f k 64 s) ((mkN 64 f64.inf s : Nat) : Int) := by
  unfold r2_Inf.f
  have h := r2Make64 s 2047 0 (by decide) (by decide)
  exact Ev.bind r2Top64 (Ev.bind h (Ev.out (by rw [inf64])))
theorem r2Open64 (a : Nat) (ha : a < 18446744073709551616) : Ev (fun k => r2_Open.f k 64 a) (opn 64 a) := by
  rw [opn64]
  unfold r2_Open.f
  refine Ev.bind (r2Exp64 a ha) (Ev.bind (r2Frac64 a ha) (Ev.bind (r2Neg 64 (by decide) a ha) (Ev.bind r2Top64 ?_)))
  unfold sgB
  rw [show sb 64 = 9223372036854775808 by decide]
  have hP : a % 9223372036854775808 % 4503599627370496 = a % 4503599627370496 := by omega
  have hQ : a % 9223372036854775808 / 4503599627370496 = a / 4503599627370496 % 2048 := by omega
  have hT : a / 4503599627370496 % 2048 < 2048 := Nat.mod_lt _ (by decide)
  have hE : a % 9223372036854775808 = a / 4503599627370496 % 2048 * 4503599627370496 + a % 4503599627370496 := by omega
  rw [hP, hQ, hE]
  generalize a / 4503599627370496 % 2048 = e at *
  have hF : a % 4503599627370496 < 4503599627370496 := Nat.mod_lt _ (by decide)
  generalize a % 4503599627370496 = fr at *
  generalize decide (a / 9223372036854775808 % 2 = 1) = s
  by_cases h1 : e = 2047
  · subst h1
    refine Ev.pos rfl ?_
    by_cases h2 : fr = 0
    · subst h2
      refine Ev.pos rfl (Ev.out ?_)
      rw [if_neg (by omega), if_neg (by omega), if_pos (by omega)]
    · refine Ev.neg (by omega) (Ev.out ?_)
      rw [if_neg (by omega), if_neg (by omega), if_neg (by omega)]
  · refine Ev.neg (by omega) ?_
    by_cases h2 : e = 0
    · subst h2
      refine Ev.pos rfl ?_
      by_cases h3 : fr = 0
      · subst h3
        refine Ev.pos rfl (Ev.out ?_)
        rw [Nat.zero_mul, Nat.zero_add, if_pos rfl]
      · refine Ev.neg (by omega) (Ev.bs r2B64 (Ev.bs r2F64 (Ev.out ?_)))
        rw [if_neg (by omega), if_pos (by omega), if_pos (by omega), if_pos (by omega), show wrap64 (wrap64 (1 - 1023) - 52) = (-1074 : Int) by decide +kernel]
        simp
    · refine Ev.neg (by omega) (Ev.bs r2B64 (Ev.bs r2F64 (Ev.bs r2F64 (Ev.bind r2Tf64 (Ev.out ?_)))))
      rw [if_neg (by omega), if_pos (by omega), if_neg (by omega), if_neg (by omega)]
      rw [w64_id (n := ((e : Nat) : Int) - 1023) (by omega) (by omega), w64_id (by omega) (by omega), u64_id (by omega) (by omega)]
      congr 2
      congr 1
      omega
theorem r2Open (w : Int) (hw : w = 32 ∨ w = 64) (a : Nat) (ha : a < 18446744073709551616) : Ev (fun k => r2_Open.f k w a) (opn w a) := by
  rcases hw with rfl | rfl
  · exact r2Open32 a ha
  · exact r2Open64 a ha
theorem opn_mk (w : Int) (hw : w = 32 ∨ w = 64) (m : Nat) (s : Bool) (h : m < sb w) : opn w (mkN w m s) = if m = 0 then (s, 0, 0, 0) else if m < (fmt w).inf then (s, 1, (fmt w).ex m, ((fmt w).sg m : Int)) else if m = (fmt w).inf then (s, 2, 0, 0) else (false, 3, 0, 0) := by
  unfold opn; simp only [sg_mk w hw m s h, mag_mk w hw m s h]
theorem cut_mk (w : Int) (hw : w = 32 ∨ w = 64) (m : Nat) (s : Bool) (h : m < sb w) : cutN w (mkN w m s) = mkN w m s := by
  rw [cutN_eq w hw _ (mkN_lt w hw m s h), sg_mk w hw m s h, mag_mk w hw m s h]; rfl
end Go.Proofs.Ytbpmnmceajmmcaa.Th
end
section
set_option linter.unusedVariables false
set_option linter.unusedSimpArgs false
namespace Go.Proofs.Ytbpmnmceajmmcaa.Th
open Go.RowKit Go.Proofs.YtbpmnmceajmmcaaW.PrintWords Go.Proofs.YtbpmnmceajmmcaaW.PrintLast Go.Proofs.YtbpmnmceajmmcaaW.PrintMore Go.Proofs.Ytbpmnmceajmmcaa.PA Bit Flo Dig
theorem inf_pos (w : Int) (hw : w = 32 ∨ w = 64) : 0 < (fmt w).inf := by rcases hw with rfl | rfl <;> decide
theorem kinds (w : Int) (hw : w = 32 ∨ w = 64) (a : Nat) : (magN w a = 0 ∧ opn w a = (sgB w a, 0, 0, 0)) ∨ (0 < magN w a ∧ magN w a < (fmt w).inf ∧ opn w a = (sgB w a, 1, (fmt w).ex (magN w a), ((fmt w).sg (magN w a) : Int))) ∨ (magN w a = (fmt w).inf ∧ opn w a = (sgB w a, 2, 0, 0)) ∨ ((fmt w).inf < magN w a ∧ opn w a = (false, 3, 0, 0)) := by
  have h0 := inf_pos w hw
  unfold opn; simp only
  by_cases h1 : magN w a = 0
  · left; rw [if_pos h1]; exact ⟨h1, rfl⟩
  · right; rw [if_neg h1]
    by_cases h2 : magN w a < (fmt w).inf
    · left; rw [if_pos h2]; exact ⟨by omega, h2, rfl⟩
    · right; rw [if_neg h2]
      by_cases h3 : magN w a = (fmt w).inf
      · left; rw [if_pos h3]; exact ⟨h3, rfl⟩
      · right; rw [if_neg h3]; exact ⟨by omega, rfl⟩
theorem ex_bd (w : Int) (hw : w = 32 ∨ w = 64) (m : Nat) (h : m < (fmt w).inf) : -1074 ≤ (fmt w).ex m ∧ (fmt w).ex m ≤ 971 := by
  rcases hw with rfl | rfl
  · rw [fmt32, inf32] at h; rw [fmt32, ex32]; split <;> omega
  · rw [fmt64, inf64] at h; rw [fmt64, ex64]; split <;> omega
theorem sg_64 (w : Int) (hw : w = 32 ∨ w = 64) (m : Nat) : (fmt w).sg m < 9007199254740992 := by
  have h := (fmt w).sg_lt m
  rcases hw with rfl | rfl
  · rw [fmt32] at h ⊢; rw [show (2 : Nat) ^ (f32.f + 1) = 16777216 by decide] at h; omega
  · rw [fmt64] at h ⊢; rw [show (2 : Nat) ^ (f64.f + 1) = 9007199254740992 by decide] at h; omega
end Go.Proofs.Ytbpmnmceajmmcaa.Th
end
section
set_option linter.unusedVariables false
set_option linter.unusedSimpArgs false
namespace Go.Proofs.Ytbpmnmceajmmcaa.Th
open Flo
theorem fmt_bd (w : Int) : (fmt w).f < 100 ∧ (-5000 < (fmt w).low ∧ (fmt w).low < 0) ∧ (fmt w).top < 5000 := by
  unfold fmt; split <;> decide
theorem fmt_f (w : Int) : (fmt w).f ≤ 52 := by unfold fmt; split <;> decide
theorem pk_ex (w : Int) (S : Nat) (e : Int) (hS : S < 340282366920938463463374607431768211456) : pkm (fmt w) S e false = (fmt w).rnd ((S : Rat) * tw e) := by
  have h := fmt_bd w
  rw [← pkx_f, pkm_rnd _ h.1 h.2.1 h.2.2 S e false hS]
theorem pk_mo (w : Int) {x : Rat} {S : Nat} {e : Int} (hS : S < 340282366920938463463374607431768211456) (h0 : 9007199254740992 ≤ S) (h1 : (S : Rat) * tw e < x) (h2 : x < ((S + 1 : Nat) : Rat) * tw e) : pkm (fmt w) S e true = (fmt w).rnd x := by
  have h := fmt_bd w
  have h3 : 2 ^ ((fmt w).f + 1) ≤ S := by
    have : 2 ^ ((fmt w).f + 1) ≤ 2 ^ 53 := Nat.pow_le_pow_right (by decide) (by have := fmt_f w; omega)
    rw [show (2 : Nat) ^ 53 = 9007199254740992 by decide] at this
    omega
  rw [rnd_more _ h1 h2 h3, pkm_rnd _ h.1 h.2.1 h.2.2 S e true hS]
abbrev Pt := Bool × Int × Int × Int
noncomputable def pv (p : Pt) : Rat := if p.2.1 = 1 then (if p.1 then -((p.2.2.2.toNat : Rat) * tw p.2.2.1) else (p.2.2.2.toNat : Rat) * tw p.2.2.1) else 0
noncomputable def fx (w : Int) (s : Rat) (z : Bool) : Nat := if s = 0 then mkN w 0 z else if s < 0 then mkN w ((fmt w).rnd (-s)) true else mkN w ((fmt w).rnd s) false
noncomputable def addP (w : Int) (p q : Pt) : Nat :=
  if p.2.1 = 3 ∨ q.2.1 = 3 then nanN w else if p.2.1 = 2 then (if q.2.1 = 2 ∧ p.1 ≠ q.1 then nanN w else mkN w (fmt w).inf p.1) else if q.2.1 = 2 then mkN w (fmt w).inf q.1
  else fx w (pv p + pv q) (p.1 && q.1)
theorem fx_pos (w : Int) {s : Rat} (h : 0 < s) (z : Bool) : fx w s z = mkN w ((fmt w).rnd s) false := by
  unfold fx; rw [if_neg (by grind), if_neg (by grind)]
theorem fx_neg (w : Int) {s : Rat} (h : 0 < s) (z : Bool) : fx w (-s) z = mkN w ((fmt w).rnd s) true := by
  unfold fx; rw [if_neg (by grind), if_pos (by grind), Rat.neg_neg]
theorem fx_zero (w : Int) (z : Bool) : fx w 0 z = mkN w 0 z := by unfold fx; rw [if_pos rfl]
theorem fx_sg (w : Int) {s : Rat} (h : 0 < s) (n z : Bool) : fx w (if n then -s else s) z = mkN w ((fmt w).rnd s) n := by
  cases n
  · exact fx_pos w h z
  · exact fx_neg w h z
theorem align_eq {sa sb : Nat} {ea eb : Int} (hab : eb ≤ ea) (h0 : 0 < sa) {u d : Nat} (hu : (u : Int) = min (ea - eb) 64) (hd : (d : Int) = ea - eb - u) :
    (sa : Rat) * tw ea = ((sa * 2 ^ u : Nat) : Rat) * tw (ea - u) ∧ ((sb / 2 ^ d : Nat) : Rat) * tw (ea - u) ≤ (sb : Rat) * tw eb ∧ (sb : Rat) * tw eb < ((sb / 2 ^ d + 1 : Nat) : Rat) * tw (ea - u) ∧
    (sb % 2 ^ d = 0 → (sb : Rat) * tw eb = ((sb / 2 ^ d : Nat) : Rat) * tw (ea - u)) ∧ (sb % 2 ^ d ≠ 0 → ((sb / 2 ^ d : Nat) : Rat) * tw (ea - u) < (sb : Rat) * tw eb ∧ u = 64) := by
  have hp : 0 < 2 ^ d := Nat.pow_pos (by decide)
  have e1 : tw (ea - u) = ((2 ^ d : Nat) : Rat) * tw eb := by rw [tw_sub_nat (ea - u) eb (by omega)]; congr 3; omega
  have T := tw_pos eb
  have h1 := Nat.div_add_mod sb (2 ^ d)
  have h2 := Nat.mod_lt sb hp
  have e3 : ∀ x : Nat, (x : Rat) * tw (ea - u) = ((2 ^ d * x : Nat) : Rat) * tw eb := fun x => by rw [e1, Nat.mul_comm]; push_cast; grind
  refine ⟨?_, ?_, ?_, ?_, ?_⟩
  · rw [tw_sub_nat ea (ea - u) (by omega), show (ea - (ea - (u : Int))).toNat = u by omega]; push_cast; grind
  · rw [e3]; exact mul_le (nat_le.2 (by omega)) T
  · rw [e3]; exact mul_lt (nat_lt.2 (by rw [Nat.mul_add]; omega)) T
  · intro h; rw [e3]; congr 2; omega
  · intro h
    refine ⟨?_, ?_⟩
    · rw [e3]; exact mul_lt (nat_lt.2 (by omega)) T
    · rcases Nat.eq_zero_or_pos d with h3 | h3
      · subst h3; rw [Nat.pow_zero, Nat.mod_one] at h; exact absurd rfl h
      · omega
end Go.Proofs.Ytbpmnmceajmmcaa.Th
end
section
set_option linter.unusedVariables false
set_option linter.unusedSimpArgs false
namespace Go.Proofs.Ytbpmnmceajmmcaa.Th
open Go.RowKit Go.Proofs.YtbpmnmceajmmcaaW.PrintWords Go.Proofs.YtbpmnmceajmmcaaW.PrintLast Go.Proofs.YtbpmnmceajmmcaaW.PrintMore Go.Proofs.Ytbpmnmceajmmcaa.PA Dig

theorem one_dg : Ev (fun k => r1_Of.f k 1) (dg 1) := of_dg 1 (by decide)
theorem cmp_nonneg (m n : Nat) : cmpN m n ≥ 0 ↔ n ≤ m := by unfold cmpN; split <;> (try split) <;> omega
theorem div_loop (A n : Nat) (hn0 : 0 < n) (hA : bl A < 100000000) (hn : bl n < 100000000) (s : Nat) : ∀ (q m : Nat), s < 100000000 → q * n + m = A → m < n * 2 ^ s →
    Ev (fun k => r1_Div.l0 k ((s : Int) - 1) (dg n) (dg q) (dg m)) (dg (A / n), dg (A % n)) := by
  induction s with
  | zero =>
    intro q m _ he hm
    refine Ev.step (fun _ => r1_Div.l0.eq_2 ..) ?_
    refine Ev.neg (by omega) (Ev.out ?_)
    rw [Nat.pow_zero, Nat.mul_one] at hm
    have h1 : A / n = q := by rw [← he, Nat.mul_comm, Nat.mul_add_div hn0, Nat.div_eq_of_lt hm, Nat.add_zero]
    have h2 : A % n = m := by rw [← he, Nat.mul_comm, Nat.mul_add_mod, Nat.mod_eq_of_lt hm]
    rw [h1, h2]
  | succ s ih =>
    intro q m hs he hm
    have e1 : (((s + 1 : Nat) : Int) - 1) = ((s : Nat) : Int) := by omega
    rw [e1]
    have hm2 : m ≤ A := by omega
    have hq2 : q ≤ A := Nat.le_trans (Nat.le_mul_of_pos_right q hn0) (by omega)
    have b1 := bl_mono hm2
    have b2 := bl_mono hq2
    have b3 := bl_shl n s
    have hw : wrap64 ((s : Int) - 1) = (s : Int) - 1 := w64_id (by omega) (by omega)
    refine Ev.step (fun _ => r1_Div.l0.eq_2 ..) ?_
    rw [hw]
    refine Ev.pos (by omega) (Ev.bind (shl_bl n s (by omega) (by omega)) (Ev.bind (cmp_bl m (n * 2 ^ s) (by omega) (by omega)) ?_))
    by_cases h : n * 2 ^ s ≤ m
    · refine Ev.pos ((cmp_nonneg _ _).2 h) (Ev.bind (sub_bl m (n * 2 ^ s) h (by omega)) (Ev.bind one_dg (Ev.bind (shl_bl 1 s (by omega) (by decide)) ?_)))
      have h3 : 2 ^ s ≤ A := Nat.le_trans (Nat.le_mul_of_pos_left _ hn0) (Nat.le_trans h hm2)
      have b4 := bl_mono h3
      rw [Nat.one_mul]
      refine Ev.bind (add_bl q (2 ^ s) (by omega) (by omega)) (ih (q + 2 ^ s) (m - n * 2 ^ s) (by omega) ?_ ?_)
      · rw [Nat.add_mul, Nat.mul_comm (2 ^ s) n]; omega
      · rw [Nat.pow_succ, ← Nat.mul_assoc] at hm; omega
    · exact Ev.neg (fun h' => h ((cmp_nonneg _ _).1 h')) (ih q m (by omega) he (by omega))
theorem div_dg (a b : Nat) (hb : 0 < b) (ha1 : bl a < 100000000) (hb1 : bl b < 100000000) : Ev (fun k => r1_Div.f k (dg a) (dg b)) (dg (a / b), dg (a % b)) := by
  unfold r1_Div.f
  refine Ev.bind (len_dg a (by omega)) (Ev.bind (len_dg b (by omega)) ?_)
  rw [w64_id (by omega) (by omega)]
  by_cases h : bl b ≤ bl a
  · rw [show ((bl a : Nat) : Int) - ((bl b : Nat) : Int) = (((bl a - bl b + 1 : Nat) : Int) - 1) by omega, ← dg_zero]
    have h4 := bl_pos.2 hb
    refine div_loop a b hb ha1 hb1 (bl a - bl b + 1) 0 a (by omega) (by simp) ?_
    have h1 := lt_two_bl a
    have h2 := two_bl_le hb
    have h3 : 2 ^ (bl b - 1) * 2 ^ (bl a - bl b + 1) ≤ b * 2 ^ (bl a - bl b + 1) := Nat.mul_le_mul_right _ h2
    rw [← Nat.pow_add, show bl b - 1 + (bl a - bl b + 1) = bl a by omega] at h3
    omega
  · refine Ev.step (fun _ => r1_Div.l0.eq_2 ..) ?_
    have h1 : a < b := by
      rcases Nat.lt_or_ge a b with h1 | h1
      · exact h1
      · exact absurd (bl_mono h1) h
    refine Ev.neg (by omega) (Ev.out ?_)
    rw [Nat.div_eq_of_lt h1, Nat.mod_eq_of_lt h1, dg_zero]
theorem dg_len_pos (n : Nat) : decide (((dg n).length : Int) > 0) = decide (0 < n) := by
  have := len_pos (n := n)
  by_cases h : 0 < n
  · rw [decide_eq_true h, decide_eq_true (by omega)]
  · rw [decide_eq_false h, decide_eq_false (by omega)]
theorem half_dg (a n : Nat) (ha : bl a < 100000000) (hn : n < 90000000) : Ev (fun k => r1_Half.f k (dg a) n) (dg (a / 2 ^ n), decide (0 < a % 2 ^ n)) := by
  unfold r1_Half.f
  have h1 := bl_two n
  refine Ev.bind one_dg (Ev.bind (shl_bl 1 n (by omega) (by decide)) ?_)
  rw [Nat.one_mul]
  refine Ev.bind (div_dg a (2 ^ n) (Nat.pow_pos (by decide)) ha (by omega)) (Ev.out ?_)
  rw [dg_len_pos]
end Go.Proofs.Ytbpmnmceajmmcaa.Th
end
section
set_option linter.unusedVariables false
set_option linter.unusedSimpArgs false
namespace Go.Proofs.Ytbpmnmceajmmcaa.Th
open Go.RowKit Go.Proofs.YtbpmnmceajmmcaaW.PrintWords Go.Proofs.YtbpmnmceajmmcaaW.PrintLast Go.Proofs.YtbpmnmceajmmcaaW.PrintMore Go.Proofs.Ytbpmnmceajmmcaa.PA Bit Dig Flo
theorem r2Fw (w : Int) (hw : w = 32 ∨ w = 64) : r2_F.f w = some (((fmt w).f : Nat) : Int) := by rcases hw with rfl | rfl <;> decide +kernel
theorem r3Low (w : Int) (hw : w = 32 ∨ w = 64) : r3_Low.f w = some (fmt w).low := by rcases hw with rfl | rfl <;> decide +kernel
theorem r2Topw (w : Int) (hw : w = 32 ∨ w = 64) : Ev (fun k => r2_Top.f k w) (((fmt w).top : Nat) : Int) := by rcases hw with rfl | rfl; exact r2Top32; exact r2Top64
theorem r2Tfw (w : Int) (hw : w = 32 ∨ w = 64) : Ev (fun k => r2_Two.f k (((fmt w).f : Nat) : Int)) ((2 ^ (fmt w).f : Nat) : Int) := two_f _ (by have := (fmt_f w); omega)
theorem r2Infw (w : Int) (hw : w = 32 ∨ w = 64) (s : Bool) : Ev (fun k => r2_Inf.f k w s) ((mkN w (fmt w).inf s : Nat) : Int) := by rcases hw with rfl | rfl; exact r2Inf32 s; exact r2Inf64 s
theorem r2Nanw (w : Int) (hw : w = 32 ∨ w = 64) : Ev (fun k => r2_Nan.f k w) ((nanN w : Nat) : Int) := by rcases hw with rfl | rfl; exact r2Nan32; exact r2Nan64
theorem r2Makew (w : Int) (hw : w = 32 ∨ w = 64) (s : Bool) (e fr : Nat) (he : e ≤ (fmt w).top) (hf : fr < 2 ^ (fmt w).f) : Ev (fun k => r2_Make.f k w s e fr) ((mkN w (e * 2 ^ (fmt w).f + fr) s : Nat) : Int) := by
  rcases hw with rfl | rfl
  · exact r2Make32 s e fr he hf
  · exact r2Make64 s e fr he hf
theorem len_zero (n : Nat) : ((dg n).length : Int) = 0 ↔ n = 0 := by
  have := @len_pos n
  omega
theorem quotS (a b : Nat) (hb : 0 < b) (ha1 : bl a < 10000000) (hb1 : bl b < 10000000) : Ev (fun k => r3_Quotient.f k (dg a) (dg b)) (dg (rne a b)) := by
  unfold r3_Quotient.f
  have hm : bl (a % b) ≤ bl a := bl_mono (Nat.mod_le _ _)
  have hq : bl (a / b) ≤ bl a := bl_mono (Nat.div_le_self _ _)
  have hs := bl_shl (a % b) 1
  refine Ev.bind (div_dg a b hb (by omega) (by omega)) (Ev.bind (shl_bl (a % b) 1 (by decide) (by omega)) ?_)
  rw [show a % b * 2 ^ 1 = 2 * (a % b) by omega] at *
  refine Ev.bind (cmp_bl _ b (by omega) (by omega)) ?_
  have yes : Ev (fun k => r3_Quotient.j0 k true (dg (a / b))) (dg (a / b + 1)) :=
    Ev.step (fun _ => r3_Quotient.j0.eq_2 ..) (Ev.pos rfl (Ev.bind (of_dg 1 (by decide)) (Ev.bind (add_bl (a / b) 1 (by omega) (by decide)) (Ev.out rfl))))
  have no : Ev (fun k => r3_Quotient.j0 k false (dg (a / b))) (dg (a / b)) :=
    Ev.step (fun _ => r3_Quotient.j0.eq_2 ..) (Ev.neg (by decide) (Ev.out rfl))
  unfold cmpN rne
  by_cases h1 : b < 2 * (a % b)
  · rw [if_neg (show ¬ 2 * (a % b) < b by omega), if_pos h1, if_pos (.inl h1)]
    exact Ev.pos (by decide) yes
  · by_cases h2 : 2 * (a % b) = b
    · rw [if_neg (show ¬ 2 * (a % b) < b by omega), if_neg h1]
      refine Ev.neg (by decide) (Ev.pos rfl (Ev.bs (uint_dg _) ?_))
      have e : (Int.tmod ((a / b % 18446744073709551616 : Nat) : Int) 2 == 1) = decide (a / b % 2 = 1) := by
        rw [Int.tmod_eq_emod_of_nonneg (by omega), Bool.eq_iff_iff]; simp; omega
      rw [e]
      by_cases h3 : a / b % 2 = 1
      · rw [decide_eq_true h3, if_pos (.inr ⟨h2, h3⟩)]; exact yes
      · rw [decide_eq_false h3, if_neg (by omega)]; exact no
    · rw [if_pos (show 2 * (a % b) < b by omega), if_neg (by omega)]
      exact Ev.neg (by decide) (Ev.neg (by decide) no)
theorem underS (a b : Nat) (s : Int) (ha1 : bl a < 1000000) (hb1 : bl b < 1000000) (hs : -1000000 < s ∧ s < 1000000) : Ev (fun k => r3_under.f k (dg a) (dg b) s) (decide ((a : Rat) * tw s < (b : Rat))) := by
  unfold r3_under.f
  have hc : ∀ m n : Nat, decide (cmpN m n < 0) = decide (m < n) := fun m n => by
    unfold cmpN
    by_cases h : m < n
    · rw [if_pos h, decide_eq_true h]; rfl
    · rw [if_neg h, decide_eq_false h]; split <;> rfl
  by_cases h : s ≥ 0
  · obtain ⟨n, rfl⟩ := Int.eq_ofNat_of_zero_le h
    have h2 := bl_shl a n
    refine Ev.pos h (Ev.bind (shl_bl a n (by omega) (by omega)) (Ev.bind (cmp_bl _ b (by omega) (by omega)) (Ev.out ?_)))
    rw [hc]
    refine decide_eq_decide.2 ?_
    rw [tw_nat, ← nat_lt]; push_cast; rfl
  · obtain ⟨n, hn⟩ := Int.eq_ofNat_of_zero_le (show 0 ≤ -s by omega)
    have h2 := bl_shl b n
    obtain rfl : s = -(n : Int) := by omega
    refine Ev.neg h ?_
    rw [w64_id (by omega) (by omega), Int.neg_neg]
    refine Ev.bind (shl_bl b n (by omega) (by omega)) (Ev.bind (cmp_bl a _ (by omega) (by omega)) (Ev.out ?_))
    rw [hc]
    refine decide_eq_decide.2 ?_
    have T := tw_pos (n : Int)
    have e1 : tw (-(n : Int)) * tw n = 1 := by rw [← tw_add, Int.add_left_neg, tw_zero]
    have e2 : ((b * 2 ^ n : Nat) : Rat) = (b : Rat) * tw n := by rw [tw_nat]; push_cast; rfl
    rw [← nat_lt, e2]
    constructor
    · intro h3
      refine lt_of_mul (t := tw n) ?_ T
      rw [Rat.mul_assoc, e1, Rat.mul_one]; exact h3
    · intro h3
      have := mul_lt h3 T
      rwa [Rat.mul_assoc, e1, Rat.mul_one] at this
theorem grainS (a b : Nat) (s : Int) (hb : 0 < b) (ha1 : bl a < 1000000) (hb1 : bl b < 1000000) (hs : -1000000 < s ∧ s < 1000000) : ∃ A B : Nat, 0 < B ∧ (∀ x : Rat, x * (b : Rat) = (a : Rat) * tw s → x * (B : Rat) = (A : Rat)) ∧ Ev (fun k => r3_grain.f k (dg a) (dg b) s) (dg (rne A B)) := by
  unfold r3_grain.f
  by_cases h : s ≥ 0
  · obtain ⟨n, rfl⟩ := Int.eq_ofNat_of_zero_le h
    have h2 := bl_shl a n
    refine ⟨a * 2 ^ n, b, hb, fun x hx => ?_, Ev.pos h (Ev.bind (shl_bl a n (by omega) (by omega)) (Ev.bind (quotS _ b hb (by omega) (by omega)) (Ev.out rfl)))⟩
    rw [hx, tw_nat]; push_cast; rfl
  · obtain ⟨n, hn⟩ := Int.eq_ofNat_of_zero_le (show 0 ≤ -s by omega)
    have h2 := bl_shl b n
    obtain rfl : s = -(n : Int) := by omega
    refine ⟨a, b * 2 ^ n, Nat.mul_pos hb (Nat.pow_pos (by decide)), fun x hx => ?_, ?_⟩
    · have e1 : tw (-(n : Int)) * tw n = 1 := by rw [← tw_add, Int.add_left_neg, tw_zero]
      have e2 : ((b * 2 ^ n : Nat) : Rat) = (b : Rat) * tw n := by rw [tw_nat]; push_cast; rfl
      rw [e2, ← Rat.mul_assoc, hx, Rat.mul_assoc, e1, Rat.mul_one]
    · refine Ev.neg h ?_
      rw [w64_id (by omega) (by omega), Int.neg_neg]
      exact Ev.bind (shl_bl b n (by omega) (by omega)) (Ev.bind (quotS a _ (Nat.mul_pos hb (Nat.pow_pos (by decide))) (by omega) (by omega)) (Ev.out rfl))
theorem finS (w : Int) (hw : w = 32 ∨ w = 64) (s : Bool) (q n : Nat) (hn : n < 2 ^ (fmt w).f * 2) (hl : 0 < q → 2 ^ (fmt w).f ≤ n) (hq : q < 1000000) :
    Ev (fun k => r3_Near.j2 k w s (((fmt w).f : Nat) : Int) ((q : Int) + (fmt w).low) (dg n)) ((mkN w (if (fmt w).top < q + 2 then (fmt w).inf else if n < 2 ^ (fmt w).f then n else (q + 1) * 2 ^ (fmt w).f + (n - 2 ^ (fmt w).f)) s : Nat) : Int) := by
  have hb := fmt_bd w
  have hp : 2 ^ (fmt w).f ≤ 4503599627370496 := by
    rw [show (4503599627370496 : Nat) = 2 ^ 52 by decide]; exact Nat.pow_le_pow_right (by decide) (fmt_f w)
  have ht := (fmt w).ht
  refine Ev.step (fun _ => r3_Near.j2.eq_2 ..) (Ev.bs (r3Low w hw) (Ev.bind (r2Topw w hw) ?_))
  rw [w64_id (n := (fmt w).low + ((fmt w).top : Int)) (by omega) (by omega), w64_id (by omega) (by omega)]
  by_cases c1 : (fmt w).top < q + 2
  · rw [if_pos c1]
    exact Ev.pos (by omega) (Ev.bind (r2Infw w hw s) (Ev.out rfl))
  · rw [if_neg c1]
    refine Ev.neg (by omega) (Ev.bs (uint_dg n) (Ev.bind (r2Tfw w hw) ?_))
    rw [Nat.mod_eq_of_lt (by omega)]
    by_cases c2 : n < 2 ^ (fmt w).f
    · rw [if_pos c2]
      have := r2Makew w hw s 0 n (Nat.zero_le _) c2
      rw [Nat.zero_mul, Nat.zero_add] at this
      exact Ev.pos (by exact_mod_cast c2) (Ev.bind this (Ev.out rfl))
    · rw [if_neg c2]
      have := r2Makew w hw s (q + 1) (n - 2 ^ (fmt w).f) (by omega) (by omega)
      refine Ev.neg (by intro k; exact c2 (by exact_mod_cast k)) (Ev.bs (r3Low w hw) (Ev.bind (r2Tfw w hw) ?_))
      rw [show (q : Int) + (fmt w).low - (fmt w).low = q by omega, w64_id (n := (q : Int)) (by omega) (by omega), w64_id (by omega) (by omega), u64_id (by omega) (by omega), show (n : Int) - ((2 ^ (fmt w).f : Nat) : Int) = ((n - 2 ^ (fmt w).f : Nat) : Int) by omega]
      exact Ev.bind this (Ev.out rfl)
theorem nearS (w : Int) (hw : w = 32 ∨ w = 64) (s : Bool) (a b : Nat) (kk : Int) (ha : 0 < a) (hb : 0 < b) (ha1 : bl a < 100000) (hb1 : bl b < 100000) (hk : -10000 < kk ∧ kk < 10000) (x : Rat) (hx : x * (b : Rat) = (a : Rat) * tw kk) :
    Ev (fun k => r3_Near.f k w s (dg a) (dg b) kk) ((mkN w ((fmt w).rnd x) s : Nat) : Int) := by
  have bd := fmt_bd w
  have hff := fmt_f w
  have h3 : ∀ n : Nat, 0 < n → 2 ^ bl n ≤ 2 * n := fun n h => by
    have h1 := two_bl_le h
    have h0 := bl_pos.2 h
    have : 2 ^ bl n = 2 ^ (bl n - 1) * 2 := by rw [← Nat.pow_succ]; congr 1; omega
    omega
  have mx_ : ∀ a b : Int, mx a b = max a b := fun a b => by unfold mx; split <;> omega
  unfold r3_Near.f
  refine Ev.bs (r2Fw w hw) (Ev.bind (len_dg a (by omega)) (Ev.bind (len_dg b (by omega)) (Ev.bs (r3Low w hw) (Ev.bs (r3Low w hw) ?_))))
  rw [w64_id (n := ((bl a : Nat) : Int) - ((bl b : Nat) : Int)) (by omega) (by omega), w64_id (n := ((bl a : Nat) : Int) - ((bl b : Nat) : Int) + kk) (by omega) (by omega), w64_id (by omega) (by omega), mx_]
  obtain ⟨q0, hq0⟩ : ∃ q0, max ((bl a : Int) - bl b + kk - (fmt w).f) (fmt w).low = q0 := ⟨_, rfl⟩
  rw [hq0]
  have hqb : (fmt w).low ≤ q0 ∧ q0 < 200000 := by omega
  have hB' : (0 : Rat) < (b : Rat) := by exact_mod_cast hb
  -- the test
  have hunder : Ev (fun k => r3_under.f k (dg a) (dg b) (kk - q0 - (fmt w).f)) (decide (x < tw (q0 + (fmt w).f))) := by
    have := underS a b (kk - q0 - (fmt w).f) (by omega) (by omega) (by omega)
    have e : decide ((a : Rat) * tw (kk - q0 - (fmt w).f) < (b : Rat)) = decide (x < tw (q0 + (fmt w).f)) := by
      refine decide_eq_decide.2 ?_
      have T := tw_pos (q0 + (fmt w).f)
      have e1 : tw kk = tw (kk - q0 - (fmt w).f) * tw (q0 + (fmt w).f) := by rw [← tw_add]; congr 1; omega
      constructor
      · intro h
        have := mul_lt h T
        rw [Rat.mul_assoc, ← e1, ← hx] at this
        exact lt_of_mul (t := (b : Rat)) (by grind) hB'
      · intro h
        have := mul_lt h hB'
        rw [hx, e1, ← Rat.mul_assoc] at this
        exact lt_of_mul (t := tw (q0 + (fmt w).f)) (by grind) T
    rw [e] at this
    exact this
  obtain ⟨q1, hq1⟩ : ∃ q1, (if (fmt w).low < q0 ∧ x < tw (q0 + (fmt w).f) then q0 - 1 else q0) = q1 := ⟨_, rfl⟩
  obtain ⟨d1, d2, d3⟩ := Fmt.Rnd.doc (fmt w) (h3 a ha) (lt_two_bl a) hb (h3 b hb) (lt_two_bl b) hx hq0.symm hq1.symm
  obtain ⟨q, hq⟩ := Int.eq_ofNat_of_zero_le (show 0 ≤ q1 - (fmt w).low by omega)
  have hqq : q1 = (q : Int) + (fmt w).low := by omega
  have hqn : q < 100000000 := by
    have : q1 ≤ q0 := by rw [← hq1]; split <;> omega
    omega
  obtain ⟨A, B, hBp, hAB, hg⟩ := grainS a b (kk - q1) hb (by omega) (by omega) (by omega)
  have hxe : x * (B : Rat) = (A : Rat) * tw (q + (fmt w).low) := by
    have T := tw_pos (-q1)
    have e1 : tw (-q1) * tw q1 = 1 := by rw [← tw_add, Int.add_left_neg, tw_zero]
    have e2 : tw (kk - q1) = tw kk * tw (-q1) := by rw [← tw_add]; congr 1
    have := hAB (x * tw (-q1)) (by rw [e2, ← Rat.mul_assoc, ← hx]; grind)
    rw [← this, ← hqq]
    grind
  have hx2 : x < tw (q + (fmt w).low + (fmt w).f + 1) := by rw [← hqq]; exact d2
  have hl2 : 0 < q → tw (q + (fmt w).low + (fmt w).f) ≤ x := fun h => by rw [← hqq]; exact d3 (by omega)
  obtain ⟨n1, n2⟩ := (fmt w).make_bd hx2 hl2 (fun h => (fmt w).near_lo hBp hxe h) ((fmt w).near_hi hBp hxe)
  have R := Fmt.Rnd.near (fmt w) hBp hxe hx2 hl2
  rw [(fmt w).rnd_of R, ← (fmt w).fin_eq n1 n2]
  have p2 : 2 ^ ((fmt w).f + 1) = 2 ^ (fmt w).f * 2 := Nat.pow_succ ..
  have pp := (fmt w).pow_pos
  generalize hN : rne A B = n at *
  have ln : bl n ≤ (fmt w).f + 2 := bl_le.2 (by rw [Nat.pow_succ]; omega)
  have hqs : q < 1000000 := by
    have : q1 ≤ q0 := by rw [← hq1]; split <;> omega
    omega
  have tail : Ev (fun k => r3_Near.j1 k w s kk (((fmt w).f : Nat) : Int) q1 (dg a) (dg b)) ((mkN w ((fmt w).fin q n) s : Nat) : Int) := by
    refine Ev.step (fun _ => r3_Near.j1.eq_2 ..) ?_
    rw [w64_id (n := kk - q1) (by omega) (by omega), w64_id (n := (((fmt w).f : Nat) : Int) + 1) (by omega) (by omega)]
    refine Ev.bind hg (Ev.bind (len_dg n (by omega)) ?_)
    by_cases c : n = 2 ^ ((fmt w).f + 1)
    · have hbn : bl n = (fmt w).f + 2 := by rw [c, bl_two]
      have hh := half_dg n 1 (by omega) (by decide)
      have e5 : n / 2 ^ 1 = 2 ^ (fmt w).f := by rw [c, Nat.pow_succ, Nat.pow_one]; omega
      rw [e5] at hh
      refine Ev.pos (by omega) (Ev.bind hh ?_)
      rw [w64_id (by omega) (by omega)]
      have := finS w hw s (q + 1) (2 ^ (fmt w).f) (by omega) (fun _ => Nat.le_refl _) (by omega)
      rw [show (((q + 1 : Nat) : Int) + (fmt w).low) = q1 + 1 by omega] at this
      have e6 : (fmt w).fin q n = (if (fmt w).top < q + 1 + 2 then (fmt w).inf else if 2 ^ (fmt w).f < 2 ^ (fmt w).f then 2 ^ (fmt w).f else (q + 1 + 1) * 2 ^ (fmt w).f + (2 ^ (fmt w).f - 2 ^ (fmt w).f)) := by
        unfold Fmt.fin
        rw [if_pos c, if_neg (Nat.lt_irrefl _), Nat.sub_self]
        rfl
      rw [e6]; exact this
    · have hbn : bl n ≤ (fmt w).f + 1 := bl_le.2 (by omega)
      refine Ev.neg (by omega) ?_
      have := finS w hw s q n (by omega) n2 hqs
      rw [← hqq] at this
      have e6 : (fmt w).fin q n = (if (fmt w).top < q + 2 then (fmt w).inf else if n < 2 ^ (fmt w).f then n else (q + 1) * 2 ^ (fmt w).f + (n - 2 ^ (fmt w).f)) := by
        unfold Fmt.fin
        rw [if_neg c]
      rw [e6]; exact this
  by_cases c : (fmt w).low < q0
  · refine Ev.pos c ?_
    rw [w64_id (n := kk - q0) (by omega) (by omega), w64_id (n := kk - q0 - ((fmt w).f : Int)) (by omega) (by omega)]
    refine Ev.bind hunder (Ev.step (fun _ => r3_Near.j0.eq_2 ..) ?_)
    by_cases c2 : x < tw (q0 + (fmt w).f)
    · rw [decide_eq_true c2]
      rw [if_pos ⟨c, c2⟩] at hq1
      refine Ev.pos rfl ?_
      rw [w64_id (by omega) (by omega), hq1]; exact tail
    · rw [decide_eq_false c2]
      rw [if_neg (fun h => c2 h.2)] at hq1
      refine Ev.neg (by decide) ?_
      rw [hq1]; exact tail
  · rw [if_neg (fun h => c h.1)] at hq1
    refine Ev.neg c (Ev.step (fun _ => r3_Near.j0.eq_2 ..) (Ev.neg (by decide) ?_))
    rw [hq1]; exact tail
theorem zero_mul' (w : Int) (hw : w = 32 ∨ w = 64) (s : Bool) : Ev (fun k => r2_Make.f k w s 0 0) ((mkN w 0 s : Nat) : Int) := by
  have := r2Makew w hw s 0 0 (Nat.zero_le _) ((fmt w).pow_pos)
  rwa [Nat.zero_mul] at this
theorem exactS (w : Int) (hw : w = 32 ∨ w = 64) (s : Bool) (n : Nat) (e : Int) (hn : bl n < 2900) : Ev (fun k => r3_Exact.f k w s (dg n) e) ((mkN w ((fmt w).rnd ((n : Rat) * tw e)) s : Nat) : Int) := by
  have bd := fmt_bd w
  have hff := fmt_f w
  have ht := (fmt w).ht
  unfold r3_Exact.f
  have z := zero_mul' w hw s
  by_cases h0 : n = 0
  · subst h0
    rw [show ((0 : Nat) : Rat) * tw e = 0 by simp, Fmt.rnd_zero]
    exact Ev.pos ((len_zero 0).2 rfl) (Ev.step (fun _ => r3_Exact.j0.eq_2 ..) (Ev.pos rfl (Ev.bind z (Ev.out rfl))))
  · refine Ev.neg (fun k => h0 ((len_zero n).1 k)) (Ev.step (fun _ => r3_Exact.j0.eq_2 ..) ?_)
    have hlt := lt_two_bl n
    by_cases c1 : e < -4000
    · have : (fmt w).rnd ((n : Rat) * tw e) = 0 := by
        refine (fmt w).rnd_of (Fmt.Rnd.tiny _ ?_)
        have h4 := mul_lt (nat_lt.2 hlt) (tw_pos e)
        rw [← tw_nat, ← tw_add] at h4
        have h5 : tw ((bl n : Nat) + e) ≤ tw ((fmt w).low - 1) := tw_le (by
          have : -1100 ≤ (fmt w).low := by unfold fmt; split <;> decide
          omega)
        grind
      rw [this]
      exact Ev.pos (decide_eq_true c1) (Ev.bind z (Ev.out rfl))
    · refine Ev.neg (fun k => c1 (of_decide_eq_true k)) ?_
      by_cases c2 : e > 4000
      · have : (fmt w).rnd ((n : Rat) * tw e) = (fmt w).inf := by
          refine (fmt w).rnd_inf ?_
          rw [(fmt w).val_inf]
          have h2 : ((1 : Nat) : Rat) ≤ (n : Rat) := nat_le.2 (by omega)
          have h3 := mul_le h2 (tw_pos e)
          have h4 : tw ((fmt w).top - 1 + (fmt w).low + (fmt w).f) ≤ tw e := tw_le (by
            have : ((fmt w).top : Int) - 1 + (fmt w).low + (fmt w).f ≤ 1100 := by unfold fmt; split <;> decide
            omega)
          have h5 : ((1 : Nat) : Rat) * tw e = tw e := by simp
          rw [h5] at h3
          exact Rat.le_trans h4 h3
        rw [this]
        exact Ev.pos c2 (Ev.bind (r2Infw w hw s) (Ev.out rfl))
      · refine Ev.neg c2 (Ev.bind (of_dg 1 (by decide)) (Ev.bind (nearS w hw s n 1 e (by omega) (by decide) (by omega) (by decide) (by omega) _ ?_) (Ev.out rfl)))
        simp
end Go.Proofs.Ytbpmnmceajmmcaa.Th
end
section
set_option linter.unusedVariables false
set_option linter.unusedSimpArgs false
namespace Go.Proofs.Ytbpmnmceajmmcaa.Th
open Go.RowKit Go.Proofs.YtbpmnmceajmmcaaW.PrintWords Go.Proofs.YtbpmnmceajmmcaaW.PrintLast Go.Proofs.YtbpmnmceajmmcaaW.PrintMore Go.Proofs.Ytbpmnmceajmmcaa.PA Bit Flo
theorem packE (w : Int) (hw : w = 32 ∨ w = 64) (s : Bool) (h l : Nat) (hh : h < 18446744073709551616) (hl : l < 18446744073709551616) (e : Int) (m : Bool) : round_Pack.f w s h l e m = some ((mkN w (pkm (fmt w) (wn h l) e m) s : Nat) : Int) := by
  unfold round_Pack.f
  rw [if_pos (by omega), if_pos hw, Int.toNat_natCast, Int.toNat_natCast]
theorem packV (w : Int) (hw : w = 32 ∨ w = 64) (s : Bool) (V : Nat) (hV : V < 340282366920938463463374607431768211456) (e : Int) (m : Bool) : round_Pack.f w s ((V / 18446744073709551616 : Nat) : Int) ((V % 18446744073709551616 : Nat) : Int) e m = some ((mkN w (pkm (fmt w) V e m) s : Nat) : Int) := by
  rw [packE w hw s _ _ (hi64 hV) (lo64 V), wn_div]
theorem pack1 (w : Int) (hw : w = 32 ∨ w = 64) (s : Bool) (n : Nat) (hn : n < 18446744073709551616) (e : Int) : round_Pack.f w s 0 n e false = some ((mkN w ((fmt w).rnd ((n : Rat) * tw e)) s : Nat) : Int) := by
  have := packE w hw s 0 n (by decide) hn e false
  rw [show wn 0 n = n by unfold wn; omega, pk_ex w n e (by omega)] at this
  exact this
theorem shN (w : Int) (hw : w = 32 ∨ w = 64) : shape_Nan.f w = some ((nanN w : Nat) : Int) := by rcases hw with rfl | rfl; exact shNan32; exact shNan64
theorem pv0 {p : Pt} (h : p.2.1 ≠ 1) : pv p = 0 := by unfold pv; rw [if_neg h]
theorem pv1 (s : Bool) (e : Int) (g : Nat) : pv (s, 1, e, (g : Int)) = if s then -((g : Rat) * tw e) else (g : Rat) * tw e := by
  unfold pv; rw [if_pos rfl]; simp
theorem pos_tw {g : Nat} (h : 0 < g) (e : Int) : 0 < (g : Rat) * tw e := Rat.mul_pos (by exact_mod_cast h) (tw_pos e)
def PtOk (p : Pt) : Prop := (p.2.1 = 0 ∨ p.2.1 = 1 ∨ p.2.1 = 2 ∨ p.2.1 = 3) ∧ (p.2.1 = 1 → 0 < p.2.2.2) ∧ (p.2.1 ≠ 1 → p.2.2.2 = 0 ∧ p.2.2.1 = 0) ∧ 0 ≤ p.2.2.2 ∧ p.2.2.2 < 9007199254740992 ∧ -1100 ≤ p.2.2.1 ∧ p.2.2.1 ≤ 1000
theorem opn_ok (w : Int) (hw : w = 32 ∨ w = 64) (a : Nat) : PtOk (opn w a) := by
  rcases kinds w hw a with ⟨_, h⟩ | ⟨h1, h2, h⟩ | ⟨_, h⟩ | ⟨_, h⟩ <;> rw [h]
  · exact ⟨.inl rfl, fun h => absurd h (by simp), fun _ => ⟨rfl, rfl⟩, by simp, by simp, by simp, by simp⟩
  · have h3 := ex_bd w hw _ h2
    have h4 := sg_64 w hw (magN w a)
    refine ⟨.inr (.inl rfl), fun _ => ?_, fun h => absurd rfl h, by simp, by simp; omega, by simp; omega, by simp; omega⟩
    have : 0 < (fmt w).val (magN w a) := (fmt w).val_pos.2 h1
    unfold Fmt.val at this
    rcases Nat.eq_zero_or_pos ((fmt w).sg (magN w a)) with h5 | h5
    · rw [h5] at this; simp at this
    · simp; omega
  · exact ⟨.inr (.inr (.inl rfl)), fun h => absurd h (by simp), fun _ => ⟨rfl, rfl⟩, by simp, by simp, by simp, by simp⟩
  · exact ⟨.inr (.inr (.inr rfl)), fun h => absurd h (by simp), fun _ => ⟨rfl, rfl⟩, by simp, by simp, by simp, by simp⟩
end Go.Proofs.Ytbpmnmceajmmcaa.Th
end
section
set_option linter.unusedVariables false
set_option linter.unusedSimpArgs false
namespace Go.Proofs.Ytbpmnmceajmmcaa.Th
open Go.RowKit Go.Proofs.YtbpmnmceajmmcaaW.PrintWords Go.Proofs.YtbpmnmceajmmcaaW.PrintLast Go.Proofs.YtbpmnmceajmmcaaW.PrintMore Go.Proofs.Ytbpmnmceajmmcaa.PA Bit Dig Flo
noncomputable def narG (w : Int) (s : Bool) (kd e : Int) (g : Nat) : Nat := if kd = 0 then mkN w 0 s else if kd = 1 then mkN w ((fmt w).rnd ((g : Rat) * tw e)) s else if kd = 2 then mkN w (fmt w).inf s else if kd = 3 then nanN w else 0
theorem narrowG (w : Int) (hw : w = 32 ∨ w = 64) (s : Bool) (kd e : Int) (g : Nat) (hg : g < 18446744073709551616) : round_Narrow.f w s kd e g = some ((narG w s kd e g : Nat) : Int) := by
  unfold round_Narrow.f narG
  by_cases h0 : kd = 0
  · rw [if_pos h0, if_pos h0, shZ w hw, Option.bind_some]
  · rw [if_neg h0, if_neg h0]
    by_cases h1 : kd = 1
    · rw [if_pos h1, if_pos h1, ofW g, Option.bind_some]
      show (round_Pack.f w s 0 (g : Int) e false).bind _ = _
      rw [pack1 w hw s g hg e, Option.bind_some]
    · rw [if_neg h1, if_neg h1]
      by_cases h2 : kd = 2
      · rw [if_pos h2, if_pos h2, shI w hw, Option.bind_some]
      · rw [if_neg h2, if_neg h2]
        by_cases h3 : kd = 3
        · rw [if_pos h3, if_pos h3, shN w hw, Option.bind_some]
        · rw [if_neg h3, if_neg h3]; rfl
theorem bl53 {g : Nat} (h : g < 9007199254740992) : bl g ≤ 53 := bl_le.2 h
def Can (w : Int) (r : Nat) : Prop := r = nanN w ∨ ∃ m s, m ≤ (fmt w).inf ∧ r = mkN w m s
theorem inf_sb (w : Int) (hw : w = 32 ∨ w = 64) : (fmt w).inf < sb w ∧ nanN w < sb w ∧ (fmt w).inf < nanN w ∧ nanN w = mkN w (nanN w) false := by
  rcases hw with rfl | rfl
  · rw [fmt32, inf32]; exact ⟨by decide, by decide, by decide, by decide⟩
  · rw [fmt64, inf64]; exact ⟨by decide, by decide, by decide, by decide⟩
theorem can_fx (w : Int) (s : Rat) (z : Bool) : Can w (fx w s z) := by
  unfold fx
  split
  · exact .inr ⟨_, _, Nat.zero_le _, rfl⟩
  · split <;> exact .inr ⟨_, _, (fmt w).rnd_le _, rfl⟩
theorem can_cut {w : Int} (hw : w = 32 ∨ w = 64) {r : Nat} (h : Can w r) : cutN w r = r ∧ r < 18446744073709551616 := by
  have hs := inf_sb w hw
  have h2 : 2 * sb w ≤ 18446744073709551616 := by unfold sb; split <;> decide
  rcases h with rfl | ⟨m, s, hm, rfl⟩
  · rw [hs.2.2.2, cut_mk w hw _ _ hs.2.1, ← hs.2.2.2]; exact ⟨rfl, by omega⟩
  · rw [cut_mk w hw _ _ (by omega)]
    refine ⟨rfl, ?_⟩
    unfold mkN; split <;> omega
theorem can_nan {w : Int} (hw : w = 32 ∨ w = 64) {r : Nat} (h : Can w r) : ((opn w r).2.1 == 3) = decide (r = nanN w) := by
  have hs := inf_sb w hw
  rcases h with rfl | ⟨m, s, hm, rfl⟩
  · rw [hs.2.2.2, opn_mk w hw _ _ hs.2.1, if_neg (by omega), if_neg (by omega), if_neg (by omega)]
    rw [← hs.2.2.2]; simp
  · rw [opn_mk w hw _ _ (by omega)]
    have hne : mkN w m s ≠ nanN w := by unfold mkN; split <;> omega
    rw [decide_eq_false hne]
    by_cases h0 : m = 0
    · rw [if_pos h0]; rfl
    · rw [if_neg h0]
      by_cases h1 : m < (fmt w).inf
      · rw [if_pos h1]; rfl
      · rw [if_neg h1, if_pos (by omega)]; rfl
def oneN (w : Int) : Nat := if w = 32 then 1065353216 else 4607182418800017408
theorem val_one (w : Int) (hw : w = 32 ∨ w = 64) : (fmt w).val (oneN w) = 1 ∧ oneN w < (fmt w).inf ∧ 0 < oneN w := by
  rcases hw with rfl | rfl
  · refine ⟨?_, by rw [fmt32, inf32]; decide, by decide⟩
    unfold Fmt.val
    rw [fmt32, show oneN 32 = 127 * 2 ^ f32.f + 0 by decide]
    have := Fmt.sg_mk f32 126 (2 ^ f32.f) (by decide) (fun _ => Nat.le_refl _)
    rw [show 127 * 2 ^ f32.f + 0 = 126 * 2 ^ f32.f + 2 ^ f32.f by decide, this.1, this.2]
    rw [show ((2 ^ f32.f : Nat) : Rat) = tw 23 from (tw_nat 23).symm, ← tw_add]
    exact tw_zero
  · refine ⟨?_, by rw [fmt64, inf64]; decide, by decide⟩
    unfold Fmt.val
    rw [fmt64, show oneN 64 = 1022 * 2 ^ f64.f + 2 ^ f64.f by decide]
    have := Fmt.sg_mk f64 1022 (2 ^ f64.f) (by decide) (fun _ => Nat.le_refl _)
    rw [this.1, this.2]
    rw [show ((2 ^ f64.f : Nat) : Rat) = tw 52 from (tw_nat 52).symm, ← tw_add]
    exact tw_zero
end Go.Proofs.Ytbpmnmceajmmcaa.Th
end
