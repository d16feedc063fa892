/- What the Go functions that the statement SumClose reaches compute, and the mathematics on it, in the order in which one leans on the other; for every input. -/
import Derived.Test.YtbpmnmceajmmcaaVSumClose0
import Derived.Test.YtbpmnmceajmmcaaMSumClose0
import Derived.Test.YtbpmnmceajmmcaaMSumClose4
import Derived.Test.YtbpmnmceajmmcaaMSumClose5
import Derived.Test.YtbpmnmceajmmcaaMSumClose9
namespace Go.Proofs.Ytbpmnmceajmmcaa.PA
open Go.RowKit Go.Proofs.YtbpmnmceajmmcaaW.PrintWords Go.Proofs.YtbpmnmceajmmcaaW.PrintLast Go.Proofs.YtbpmnmceajmmcaaW.PrintMore
attribute [local go_sem] max2_int min2_int max_two min_two max_three min_three max_four min_four   -- for this text's walks alone
set_option linter.unusedVariables false
set_option linter.unusedSimpArgs false
set_option maxHeartbeats 8000000
set_option maxRecDepth 100000
def r3_Quotient.j0 : Nat → Bool → List Int → Option (List Int)
 | 0, _, _ => none
 | k + 1, x29, x459000 => if x29 = true then ((r1_Of.f k 1).bind fun t465 => ((r1_Add.f k x459000 t465).bind fun t468 => (some t468))) else (some x459000)
def r3_Quotient.f (k : Nat) (l0_0 : List Int) (l1_0 : List Int) : Option (List Int) := (r1_Div.f k l0_0 l1_0).bind fun bt452 => ((r1_Shl.f k bt452.2 1).bind fun t460 => ((r1_Cmp.f k t460 l1_0).bind fun t463 => (if t463 > 0 then (r3_Quotient.j0 k true bt452.1) else (if t463 = 0 then ((r1_Uint.f bt452.1).bind fun t464 => (r3_Quotient.j0 k ((Int.tmod t464 2) == 1) bt452.1)) else (r3_Quotient.j0 k false bt452.1)))))
theorem r3_Quotient.mono_l : ∀ k, (∀ y0 y1, LeO (r3_Quotient.j0 k y0 y1) (r3_Quotient.j0 (k + 1) y0 y1))
 | 0 => fun _ _ r h => by simp [r3_Quotient.j0] at h
 | k + 1 => by
  have ih0 := r3_Quotient.mono_l k
  ·intro y0 y1
   unfold r3_Quotient.j0
   repeat' first
   | (with_reducible exact ih0 _ _)
   | (with_reducible exact r1_Add.mono _ _ _)
   | (with_reducible exact r1_Cmp.mono _ _ _)
   | (with_reducible exact r1_Div.mono _ _ _)
   | (with_reducible exact r1_Of.mono _ _)
   | (with_reducible exact r1_Shl.mono _ _ _)
   | (with_reducible exact LeO.refl _)
   | (with_reducible exact LeO.none _)
   | (with_reducible refine LeO.ite ?_ ?_)
   | (with_reducible refine LeO.bind ?_ (fun _ => ?_))
   | exact ih0 _ _
   | exact r1_Add.mono _ _ _
   | exact r1_Cmp.mono _ _ _
   | exact r1_Div.mono _ _ _
   | exact r1_Of.mono _ _
   | exact r1_Shl.mono _ _ _
   | exact LeO.none _
   | refine LeO.ite ?_ ?_
   | refine LeO.bind ?_ (fun _ => ?_)
theorem r3_Quotient.mono : ∀ a0 a1 k, LeO (r3_Quotient.f k a0 a1) (r3_Quotient.f (k + 1) a0 a1) := by
 intro a0 a1 k
 have ih0 := r3_Quotient.mono_l k
 unfold r3_Quotient.f
 repeat' first
   | (with_reducible exact ih0 _ _)
   | (with_reducible exact r1_Add.mono _ _ _)
   | (with_reducible exact r1_Cmp.mono _ _ _)
   | (with_reducible exact r1_Div.mono _ _ _)
   | (with_reducible exact r1_Of.mono _ _)
   | (with_reducible exact r1_Shl.mono _ _ _)
   | (with_reducible exact LeO.refl _)
   | (with_reducible exact LeO.none _)
   | (with_reducible refine LeO.ite ?_ ?_)
   | (with_reducible refine LeO.bind ?_ (fun _ => ?_))
   | exact ih0 _ _
   | exact r1_Add.mono _ _ _
   | exact r1_Cmp.mono _ _ _
   | exact r1_Div.mono _ _ _
   | exact r1_Of.mono _ _
   | exact r1_Shl.mono _ _ _
   | exact LeO.none _
   | refine LeO.ite ?_ ?_
   | refine LeO.bind ?_ (fun _ => ?_)
theorem r3_Quotient.calls (k : Nat) (A0_0 : Option Addr) (c0_0 : Nat) (l0_0 : List Int) (A1_0 : Option Addr) (c1_0 : Nat) (l1_0 : List Int) (r : List Int) (w : World) (hr0_0 : Kd.C (Kd.int .u64) w A0_0 l0_0.length l0_0) (hc0_0 : l0_0.length ≤ c0_0) (hr1_0 : Kd.C (Kd.int .u64) w A1_0 l1_0.length l1_0) (hc1_0 : l1_0.length ≤ c1_0) (h : r3_Quotient.f k l0_0 l1_0 = some r) :
  Calls Try.prog 114 #[.agg #[.slice A0_0 l0_0.length c0_0], .agg #[.slice A1_0 l1_0.length c1_0]] w fun e w' => ∃ v0_ : Value, e = .returned (.agg #[v0_]) ∧ Kd.R (Kd.int .u64) 22 w' w.heap.size (fun _ => True) v0_ r ∧ Below w.heap.size w w' := by
 have hu63 := Try.underlying63
 have HR0_0 := A_ hr0_0;have HC0_0 := A_ hc0_0;clear hr0_0 hc0_0;have HR1_0 := A_ hr1_0;have HC1_0 := A_ hc1_0;clear hr1_0 hc1_0
 have HB := A_ (Below.refl w.heap.size w)
 have H : ((r1_Div.f k l0_0 l1_0).bind fun bt452 => ((r1_Shl.f k bt452.2 1).bind fun t460 => ((r1_Cmp.f k t460 l1_0).bind fun t463 => (if t463 > 0 then (r3_Quotient.j0 k true bt452.1) else (if t463 = 0 then ((r1_Uint.f bt452.1).bind fun t464 => (r3_Quotient.j0 k ((Int.tmod t464 2) == 1) bt452.1)) else (r3_Quotient.j0 k false bt452.1)))))) = some r := h
 clear h
 replace H := ob_ H
 obtain ⟨⟨t452, t455⟩, A30, H⟩ := H
 replace H : ((r1_Shl.f k t455 1).bind fun t460 => ((r1_Cmp.f k t460 l1_0).bind fun t463 => (if t463 > 0 then (r3_Quotient.j0 k true t452) else (if t463 = 0 then ((r1_Uint.f t452).bind fun t464 => (r3_Quotient.j0 k ((Int.tmod t464 2) == 1) t452)) else (r3_Quotient.j0 k false t452))))) = some r := H
 have A3 := A_ A30;clear A30
 replace H := ob_ H
 obtain ⟨t460, A40, H⟩ := H
 replace H : ((r1_Cmp.f k t460 l1_0).bind fun t463 => (if t463 > 0 then (r3_Quotient.j0 k true t452) else (if t463 = 0 then ((r1_Uint.f t452).bind fun t464 => (r3_Quotient.j0 k ((Int.tmod t464 2) == 1) t452)) else (r3_Quotient.j0 k false t452)))) = some r := H
 have A4 := A_ A40;clear A40
 replace H := ob_ H
 obtain ⟨t463, A50, H⟩ := H
 replace H : (if t463 > 0 then (r3_Quotient.j0 k true t452) else (if t463 = 0 then ((r1_Uint.f t452).bind fun t464 => (r3_Quotient.j0 k ((Int.tmod t464 2) == 1) t452)) else (r3_Quotient.j0 k false t452))) = some r := H
 have A5 := A_ A50;clear A50;have HC6 := A_ H;clear H
 go_enter Try.func114, Try.ntmps114
 try go_wp2_with (first | ((with_reducible refine gate_dst (N := 2) rfl ?_); refine be_ 2 #[.slice A0_0 l0_0.length c0_0] 63 ?_; intro gb449 hg w7 hbox hb; have BK449 := A_ (hbox); have GW449 := A_ (sz_ hg (hb_ HB.out)); have GE449 := A_ (sz_ hg (hb_ HB.out)); replace HB := A_ (below_step (hb_ HB.out) hb); clear hb hbox hg) | ((with_reducible refine gate_dst (N := 3) rfl ?_); refine be_ 3 #[.slice A1_0 l1_0.length c1_0] 63 ?_; intro gb450 hg w8 hbox hb; have BK450 := A_ (hbox); have GW450 := A_ (sz_ hg (hb1_ HB.out GE449.out)); have GE450 := A_ (sz_ hg (hb1_ HB.out GE449.out)); have NB449_450 := A_ (nl_ hg BK449.out); have NB450_449 := A_ (ng_ hg BK449.out); replace BK449 := A_ (bb_ BK449.out hb); replace HB := A_ (below_step (hb1_ HB.out GE449.out) hb); clear hb hbox hg) | ((with_reducible refine gate_dst (N := 4) rfl ?_); refine be_ 4 #[.slice none 0 0] 63 ?_; intro gb451 hg w9 hbox hb; have BK451 := A_ (hbox); have GW451 := A_ (sz_ hg (hb2_ HB.out GE449.out GE450.out)); have GE451 := A_ (sz_ hg (hb2_ HB.out GE449.out GE450.out)); have NB449_451 := A_ (nl_ hg BK449.out); have NB451_449 := A_ (ng_ hg BK449.out); have NB450_451 := A_ (nl_ hg BK450.out); have NB451_450 := A_ (ng_ hg BK450.out); replace BK449 := A_ (bb_ BK449.out hb); replace BK450 := A_ (bb_ BK450.out hb); replace HB := A_ (below_step (hb2_ HB.out GE449.out GE450.out) hb); clear hb hbox hg; have hnb10 := NB449_450.out; have hnc10 := NB450_449.out; have hnb11 := NB449_451.out; have hnc11 := NB451_449.out; have hcz12_0 := bv_ BK449.out 0; have hfz12_0 := blk_frozen BK449.out 0; have hnb13 := NB450_451.out; have hnc13 := NB451_450.out; have hcz14_0 := bv_ BK450.out 0; have hfz14_0 := blk_frozen BK450.out 0) | ((with_reducible refine gate_callee (f := 115) rfl ?_); refine gl_ (some 11) Try.func115 #[.agg #[.slice A0_0 l0_0.length c0_0], .agg #[.slice A1_0 l1_0.length c1_0]] ?_; (with_reducible refine (r1_Div.calls k (fun k_ => k_ < w.heap.size) _ _ l0_0 _ _ l1_0 t452 t455 _ ?side1 ?side2 ?side3 A3.out).mono ?_); (case side1 => exact Kd.V_mk HC0_0.out (Kd.F_below (Kd.C_F (Kd.heap_int .u64) HR0_0.out) (hb3_ HB.out GE449.out GE450.out GE451.out))); (case side2 => exact cs_ ((Kd.C_below HR1_0.out HB.out))); (case side3 => exact HC1_0.out); rintro e w15 ⟨v453, v456, rfl, ho0, ho1, hb⟩; refine ⟨_, rfl, ?_⟩; have HO454 := A_ (Kd.R_lower (Kd.R_mono (ok' := fun k_ => True) ho0 (fun _ hk_ => trivial)) (below_size (hb3_ HB.out GE449.out GE450.out GE451.out))); have HO457 := A_ (Kd.V_lower (Kd.V_mono (ok' := fun k_ => some k_ ≠ (v453 : Value).ownBlock ∧ k_ ≠ gb449 ∧ k_ ≠ gb450 ∧ k_ ≠ gb451) ho1 (fun k_ hk_ => ⟨hk_.2, Or.elim hk_.1 (fun hs_ => fun e_ => Nat.not_le.2 hs_ (by rw [e_]; exact GW449.out)) (fun hn_ => (Kd.freshB (g := gb449) (o := .cells #[.slice A0_0 l0_0.length c0_0] 63 (0, 0)) (bk_ BK449.out) k_ hn_)), Or.elim hk_.1 (fun hs_ => fun e_ => Nat.not_le.2 hs_ (by rw [e_]; exact GW450.out)) (fun hn_ => (Kd.freshB (g := gb450) (o := .cells #[.slice A1_0 l1_0.length c1_0] 63 (0, 0)) (bk_ BK450.out) k_ hn_)), Or.elim hk_.1 (fun hs_ => fun e_ => Nat.not_le.2 hs_ (by rw [e_]; exact GW451.out)) (fun hn_ => (Kd.freshB (g := gb451) (o := .cells #[.slice none 0 0] 63 (0, 0)) (bk_ BK451.out) k_ hn_))⟩)) (below_size (hb3_ HB.out GE449.out GE450.out GE451.out))); replace BK449 := A_ (bb_ BK449.out hb); replace BK450 := A_ (bb_ BK450.out hb); replace BK451 := A_ (bb_ BK451.out hb); replace HB := A_ (below_step (hb3_ HB.out GE449.out GE450.out GE451.out) hb); (try clear hb); (try clear hb2); (try clear hk); (try clear hi); (try clear ho0); (try clear ho1)) | ((with_reducible refine gate_dst (N := 5) rfl ?_); refine be_ 5 #[.slice none 0 0] 63 ?_; intro gb458 hg w16 hbox hb; have BK458 := A_ (hbox); have GW458 := A_ (sz_ hg (hb3_ HB.out GE449.out GE450.out GE451.out)); have GE458 := A_ (sz_ hg (hb3_ HB.out GE449.out GE450.out GE451.out)); have NB449_458 := A_ (nl_ hg BK449.out); have NB458_449 := A_ (ng_ hg BK449.out); have NB450_458 := A_ (nl_ hg BK450.out); have NB458_450 := A_ (ng_ hg BK450.out); have NB451_458 := A_ (nl_ hg BK451.out); have NB458_451 := A_ (ng_ hg BK451.out); replace HO454 := A_ (Kd.R_below (kr_ HO454.out) hb); replace HO457 := A_ (Kd.V_below (Kd.V_elderB (kv_ HO457.out) gb458 (Nat.le_of_eq hg.symm)) hb); replace BK449 := A_ (bb_ BK449.out hb); replace BK450 := A_ (bb_ BK450.out hb); replace BK451 := A_ (bb_ BK451.out hb); replace HB := A_ (below_step (hb3_ HB.out GE449.out GE450.out GE451.out) hb); clear hb hbox hg) | ((with_reducible refine gate_dst (N := 6) rfl ?_); refine be_ 6 #[.slice none 0 0] 63 ?_; intro gb459 hg w17 hbox hb; have BK459 := A_ (hbox); have GW459 := A_ (sz_ hg (hb4_ HB.out GE449.out GE450.out GE451.out GE458.out)); have GE459 := A_ (sz_ hg (hb4_ HB.out GE449.out GE450.out GE451.out GE458.out)); have NB449_459 := A_ (nl_ hg BK449.out); have NB459_449 := A_ (ng_ hg BK449.out); have NB450_459 := A_ (nl_ hg BK450.out); have NB459_450 := A_ (ng_ hg BK450.out); have NB451_459 := A_ (nl_ hg BK451.out); have NB459_451 := A_ (ng_ hg BK451.out); have NB458_459 := A_ (nl_ hg BK458.out); have NB459_458 := A_ (ng_ hg BK458.out); replace HO454 := A_ (Kd.R_below (kr_ HO454.out) hb); replace HO457 := A_ (Kd.V_below (Kd.V_elderB (kv_ HO457.out) gb459 (Nat.le_of_eq hg.symm)) hb); replace BK449 := A_ (bb_ BK449.out hb); replace BK450 := A_ (bb_ BK450.out hb); replace BK451 := A_ (bb_ BK451.out hb); replace BK458 := A_ (bb_ BK458.out hb); replace HB := A_ (below_step (hb4_ HB.out GE449.out GE450.out GE451.out GE458.out) hb); clear hb hbox hg; obtain ⟨Ao18, co18, eo18⟩ := Kd.R_slice HO454.out; subst eo18; have hnb19 := NB458_449.out; have hnc19 := NB449_458.out; have hnb20 := NB458_450.out; have hnc20 := NB450_458.out; have hnb21 := NB458_451.out; have hnc21 := NB451_458.out; have hnb22 := NB458_459.out; have hnc22 := NB459_458.out; have hcz23_0 := bv_ BK458.out 0; have hfz23_0 := blk_frozen BK458.out 0; obtain ⟨Ao24, co24, eo24⟩ := Kd.V_slice HO457.out; subst eo24; have hnb25 := NB459_449.out; have hnc25 := NB449_459.out; have hnb26 := NB459_450.out; have hnc26 := NB450_459.out; have hnb27 := NB459_451.out; have hnc27 := NB451_459.out; have hcz28_0 := bv_ BK459.out 0; have hfz28_0 := blk_frozen BK459.out 0))
 have n0_ : Aside0 (Kd.R (Kd.int .u64) 22 ((w17.setCell ⟨gb458, 0, none⟩ (.slice Ao18 t452.length co18)).setCell ⟨gb459, 0, none⟩ (.slice Ao24 t455.length co24)) w.heap.size (fun _ => True) (.slice Ao18 t452.length co18) t452) := ⟨by (with_reducible repeat (first | apply Kd.R_alloc | apply Kd.R_drewN | apply Kd.R_drew)); exact Kd.R_mono (Kd.R_far (p := ⟨gb459, 0, none⟩) (Kd.R_far (p := ⟨gb458, 0, none⟩) (Kd.R_types (Kd.R_types HO454.out BK458.out (by decide)) BK459.out (by decide)) (fun _ hk => hk.1.2) (.slice Ao18 t452.length co18)) (fun _ hk => hk.2) (.slice Ao24 t455.length co24)) (fun _ hk => trivial)⟩
 have n1_ : Aside0 (Kd.V (Kd.int .u64) 22 ((w17.setCell ⟨gb458, 0, none⟩ (.slice Ao18 t452.length co18)).setCell ⟨gb459, 0, none⟩ (.slice Ao24 t455.length co24)) w.heap.size (fun k_ => some k_ ≠ (.slice Ao18 t452.length co18 : Value).ownBlock ∧ k_ ≠ gb449 ∧ k_ ≠ gb450 ∧ k_ ≠ gb451 ∧ k_ ≠ gb458 ∧ k_ ≠ gb459) (.slice Ao24 t455.length co24) t455) := ⟨by (with_reducible repeat (first | apply Kd.V_alloc | apply Kd.V_drewN | apply Kd.V_drew)); exact Kd.V_mono (Kd.V_far (p := ⟨gb459, 0, none⟩) (Kd.V_far (p := ⟨gb458, 0, none⟩) (Kd.V_mono (Kd.V_mono HO457.out (fun k_ hk => (⟨hk, hk.1.2⟩ : _ ∧ k_ ≠ gb458))) (fun k_ hk => (⟨hk, hk.1.2⟩ : _ ∧ k_ ≠ gb459))) (fun _ hk => hk.1.2) (.slice Ao18 t452.length co18)) (fun _ hk => hk.2) (.slice Ao24 t455.length co24)) (fun _ hk => ⟨hk.1.1.1.1.1, ⟨hk.1.1.1.1.2.1, ⟨hk.1.1.1.1.2.2.1, ⟨hk.1.1.1.1.2.2.2, ⟨hk.1.1.1.2, hk.1.1.2⟩⟩⟩⟩⟩)⟩
 have n2_ : Aside0 (((w17.setCell ⟨gb458, 0, none⟩ (.slice Ao18 t452.length co18)).setCell ⟨gb459, 0, none⟩ (.slice Ao24 t455.length co24)).heap[gb449]? = some (.cells #[.slice A0_0 l0_0.length c0_0] 63 (0, 0))) := ⟨bf2_ BK449.out NB449_459.out NB449_458.out⟩
 have n3_ : Aside0 (((w17.setCell ⟨gb458, 0, none⟩ (.slice Ao18 t452.length co18)).setCell ⟨gb459, 0, none⟩ (.slice Ao24 t455.length co24)).heap[gb450]? = some (.cells #[.slice A1_0 l1_0.length c1_0] 63 (0, 0))) := ⟨bf2_ BK450.out NB450_459.out NB450_458.out⟩
 have n4_ : Aside0 (((w17.setCell ⟨gb458, 0, none⟩ (.slice Ao18 t452.length co18)).setCell ⟨gb459, 0, none⟩ (.slice Ao24 t455.length co24)).heap[gb451]? = some (.cells #[.slice none 0 0] 63 (0, 0))) := ⟨bf2_ BK451.out NB451_459.out NB451_458.out⟩
 have n5_ : Aside0 (((w17.setCell ⟨gb458, 0, none⟩ (.slice Ao18 t452.length co18)).setCell ⟨gb459, 0, none⟩ (.slice Ao24 t455.length co24)).heap[gb458]? = some (.cells #[.slice Ao18 t452.length co18] 63 (0, 0))) := ⟨by (with_reducible repeat (first | refine blk_drewN ?_ _ | refine blk_drew ?_ | refine blk_alloc ?_ _)); refine blk_far ?_ NB458_459.out _; (with_reducible repeat (first | refine blk_drewN ?_ _ | refine blk_drew ?_ | refine blk_alloc ?_ _)); refine blk_put (cs := #[.slice none 0 0]) ?_ 0 _ rfl; (with_reducible repeat (first | refine blk_drewN ?_ _ | refine blk_drew ?_ | refine blk_alloc ?_ _)); exact BK458.out⟩
 have n6_ : Aside0 (((w17.setCell ⟨gb458, 0, none⟩ (.slice Ao18 t452.length co18)).setCell ⟨gb459, 0, none⟩ (.slice Ao24 t455.length co24)).heap[gb459]? = some (.cells #[.slice Ao24 t455.length co24] 63 (0, 0))) := ⟨by (with_reducible repeat (first | refine blk_drewN ?_ _ | refine blk_drew ?_ | refine blk_alloc ?_ _)); refine blk_put (cs := #[.slice none 0 0]) ?_ 0 _ rfl; (with_reducible repeat (first | refine blk_drewN ?_ _ | refine blk_drew ?_ | refine blk_alloc ?_ _)); refine blk_far ?_ NB459_458.out _; (with_reducible repeat (first | refine blk_drewN ?_ _ | refine blk_drew ?_ | refine blk_alloc ?_ _)); exact BK459.out⟩
 have n7_ : Aside0 (Below w.heap.size w ((w17.setCell ⟨gb458, 0, none⟩ (.slice Ao18 t452.length co18)).setCell ⟨gb459, 0, none⟩ (.slice Ao24 t455.length co24))) := ⟨by repeat (first | (with_reducible first | exact HB.out | apply below_alloc | apply pw_below_drewN | apply below_drew1 | refine below_set ?_ GE449.out | refine below_set ?_ GE450.out | refine below_set ?_ GE451.out | refine below_set ?_ GE458.out | refine below_set ?_ GE459.out) | exact HB.out)⟩
 (try clear HO454);(try clear HO457);(try clear BK449);(try clear BK450);(try clear BK451);(try clear BK458);(try clear BK459);(try clear HB)
 generalize ((w17.setCell ⟨gb458, 0, none⟩ (.slice Ao18 t452.length co18)).setCell ⟨gb459, 0, none⟩ (.slice Ao24 t455.length co24)) = w29 at n0_ n1_ n2_ n3_ n4_ n5_ n6_ n7_ ⊢
 have HO454 := n0_;have HO457 := n1_;have BK449 := n2_;have BK450 := n3_;have BK451 := n4_;have BK458 := n5_;have BK459 := n6_;have HB := n7_;clear n0_ n1_ n2_ n3_ n4_ n5_ n6_ n7_
 replace HO454 := A_ (Kd.R_drew HO454.out)
 replace HO457 := A_ (Kd.V_drew HO457.out)
 replace BK449 := A_ (blk_drew BK449.out)
 replace BK450 := A_ (blk_drew BK450.out)
 replace BK451 := A_ (blk_drew BK451.out)
 replace BK458 := A_ (blk_drew BK458.out)
 replace BK459 := A_ (blk_drew BK459.out)
 replace HB := A_ (below_drew1 HB.out)
 refine start_ (n := 5) (S := fun w' => w'.cell? ⟨gb459, 0, none⟩ = some (.slice Ao24 t455.length co24) ∧ w'.cell? ⟨gb450, 0, none⟩ = some (.slice A1_0 l1_0.length c1_0)) (ds := []) #[false, false, false, false, false] (by kernel_rfl) rfl rfl ⟨bc_ BK459.out 0, bc_ BK450.out 0⟩ (fun hHeld => ?_)
 generalize w29.drew = w30 at HO454 HO457 BK449 BK450 BK451 BK458 BK459 HB hHeld ⊢
 refine tk2_ 0 (some 14) #[true, false, false, false, false] rfl rfl (by kernel_rfl) hHeld ?_
 refine tk2_ 2 (some 16) #[true, false, true, false, false] rfl rfl (by kernel_rfl) hHeld ?_
 refine one_ (i := 1) (N := some 15) #[true, true, true, false, false] rfl rfl (by kernel_rfl) (by decide) (fun K hK => ?_)
 refine goes_ Try.func78 (by kernel_rfl) rfl #[.agg #[.slice Ao24 t455.length co24], .int .i64 1] (by rfl) rfl rfl mp_ ?_
 with_reducible refine (r1_Shl.calls k _ _ t455 1 t460 _ ?side1 ?side2 A4.out).mono ?_
 (case side1 => exact cs_ ((Kd.V_reads' HO457.out).2.2))
 (case side2 => exact (Kd.V_reads' HO457.out).2.1)
 rintro e w31 ⟨v461, rfl, ho0, hb⟩
 refine ⟨_, rfl, ?_⟩
 have HO462 := A_ (Kd.R_lower (Kd.R_new' ho0 (Kd.R_lt (kr_ HO454.out))) (below_size (by repeat (first | (with_reducible first | exact HB.out | apply below_alloc | apply pw_below_drewN | apply below_drew1 | refine below_set ?_ GE449.out | refine below_set ?_ GE450.out | refine below_set ?_ GE451.out | refine below_set ?_ GE458.out | refine below_set ?_ GE459.out) | exact HB.out))))
 replace HO454 := A_ (Kd.R_elder' (kr_ HO454.out) (Kd.R_base ho0) hb)
 replace HO457 := A_ (Kd.V_elder' (kv_ HO457.out) (Kd.R_base ho0) hb)
 replace BK449 := A_ (bb_ BK449.out hb)
 replace BK450 := A_ (bb_ BK450.out hb)
 replace BK451 := A_ (bb_ BK451.out hb)
 replace BK458 := A_ (bb_ BK458.out hb)
 replace BK459 := A_ (bb_ BK459.out hb)
 replace HB := A_ (below_step (by repeat (first | (with_reducible first | exact HB.out | apply below_alloc | apply pw_below_drewN | apply below_drew1 | refine below_set ?_ GE449.out | refine below_set ?_ GE450.out | refine below_set ?_ GE451.out | refine below_set ?_ GE458.out | refine below_set ?_ GE459.out) | exact HB.out)) hb);(try clear hb);(try clear hb2);(try clear hk);(try clear hi);(try clear ho0)
 obtain ⟨Ao32, co32, eo32⟩ := Kd.R_slice HO462.out
 (first | subst eo32 | (injection eo32 with f1_ f2_ f3_; have f4_ := f1_.symm; have f5_ := f3_.symm; clear f1_ f2_ f3_; subst f4_; subst f5_))
 refine hK.out _ _ ⟨bc_ BK459.out 0, bc_ BK450.out 0⟩ (fun hHeld => ?_)
 clear hK K
 refine norm_ (a' := ?_) ?_ ?_
 rotate_left
 ·show Act.put _ (some 15) _ = _
  simp only [Act.put, lI_, l0_, lS_, i64_w, i32_w]
  rfl
 refine one_ (i := 3) (N := some 17) #[true, true, true, true, false] rfl rfl (by kernel_rfl) (by decide) (fun K hK => ?_)
 refine goes_ Try.func113 (by kernel_rfl) rfl #[.agg #[.slice Ao32 t460.length co32], .agg #[.slice A1_0 l1_0.length c1_0]] (by rfl) rfl rfl mp_ ?_
 with_reducible refine (r1_Cmp.calls k _ _ t460 _ _ l1_0 t463 _ ?side1 ?side2 ?side3 ?side4 A5.out).mono ?_
 (case side1 => exact cs_ ((Kd.R_reads' HO462.out).2.2))
 (case side2 => exact (Kd.R_reads' HO462.out).2.1)
 (case side3 => exact cs_ ((Kd.C_below HR1_0.out HB.out)))
 (case side4 => exact HC1_0.out)
 rintro e w33 ⟨rfl, hb⟩
 refine ⟨_, rfl, ?_⟩
 replace HO454 := A_ (Kd.R_below (kr_ HO454.out) hb)
 replace HO457 := A_ (Kd.V_below (kv_ HO457.out) hb)
 replace HO462 := A_ (Kd.R_below (kr_ HO462.out) hb)
 replace BK449 := A_ (bb_ BK449.out hb)
 replace BK450 := A_ (bb_ BK450.out hb)
 replace BK451 := A_ (bb_ BK451.out hb)
 replace BK458 := A_ (bb_ BK458.out hb)
 replace BK459 := A_ (bb_ BK459.out hb)
 replace HB := A_ (below_step (by repeat (first | (with_reducible first | exact HB.out | apply below_alloc | apply pw_below_drewN | apply below_drew1 | refine below_set ?_ GE449.out | refine below_set ?_ GE450.out | refine below_set ?_ GE451.out | refine below_set ?_ GE458.out | refine below_set ?_ GE459.out) | exact HB.out)) hb);(try clear hb);(try clear hb2);(try clear hk);(try clear hi)
 refine hK.out _ _ ⟨bc_ BK459.out 0, bc_ BK450.out 0⟩ (fun hHeld => ?_)
 clear hK K
 refine norm_ (a' := ?_) ?_ ?_
 rotate_left
 ·show Act.put _ (some 17) _ = _
  simp only [Act.put, lI_, l0_, lS_, i64_w, i32_w]
  rfl
 refine pu_ 4 (some 7) #[true, true, true, true, true] rfl rfl (by kernel_rfl) ?_
 refine done_ (by kernel_rfl) ?_
 go_upto_region 3 with (fail)
 go_cut [29] (fun v29 wc => ∃ (kq : Nat) (x29_5 : Bool), v29 = .bool x29_5 ∧ Aside0 (r3_Quotient.j0 kq x29_5 t452 = some r) ∧ Aside0 (kq ≤ k) ∧ Aside0 (Kd.R (Kd.int .u64) 22 wc w.heap.size (fun _ => True) (.slice Ao18 t452.length co18) t452) ∧ Aside0 (Kd.V (Kd.int .u64) 22 wc w.heap.size (fun k_ => some k_ ≠ ((.slice Ao18 t452.length co18) : Value).ownBlock ∧ k_ ≠ gb449 ∧ k_ ≠ gb450 ∧ k_ ≠ gb451 ∧ k_ ≠ gb458 ∧ k_ ≠ gb459) (.slice Ao24 t455.length co24) t455) ∧ Aside0 (wc.heap[gb449]? = some (.cells #[(.slice A0_0 l0_0.length c0_0)] 63 (0, 0))) ∧ Aside0 (wc.heap[gb450]? = some (.cells #[(.slice A1_0 l1_0.length c1_0)] 63 (0, 0))) ∧ Aside0 (wc.heap[gb451]? = some (.cells #[(.slice none 0 0)] 63 (0, 0))) ∧ Aside0 (wc.heap[gb458]? = some (.cells #[(.slice Ao18 t452.length co18)] 63 (0, 0))) ∧ Aside0 (wc.heap[gb459]? = some (.cells #[(.slice Ao24 t455.length co24)] 63 (0, 0))) ∧ Aside0 (Below w.heap.size w wc))
 case first =>
  have H := HC6.out
  clear HC6
  by_cases c34 : t463 > 0
  ·rw [if_pos c34] at H
   have c34b0 : decide (0 < t463) = true := decide_eq_true c34
   clear c34
   (first | rw [c34b0] | (simp only [i64_w, i32_w]; rw [c34b0]) | skip)
   have H' := A_ H
   clear H
   go_wp2
   go_meet
   case rel => exact ⟨_, (true), sm_, H', ⟨by first | omega | exact Nat.le_refl _⟩, ⟨by (with_reducible repeat (first | apply Kd.R_alloc | apply Kd.R_drewN | apply Kd.R_drew)); exact Kd.R_mono HO454.out (fun _ hk => trivial)⟩, ⟨by (with_reducible repeat (first | apply Kd.V_alloc | apply Kd.V_drewN | apply Kd.V_drew)); exact Kd.V_mono HO457.out (fun _ hk => ⟨hk.1.1, ⟨hk.1.2.1, ⟨hk.1.2.2.1, ⟨hk.1.2.2.2.1, ⟨hk.1.2.2.2.2.1, hk.1.2.2.2.2.2⟩⟩⟩⟩⟩)⟩, ⟨bk_ BK449.out⟩, ⟨bk_ BK450.out⟩, ⟨bk_ BK451.out⟩, ⟨bk_ BK458.out⟩, ⟨bk_ BK459.out⟩, ⟨by repeat (first | (with_reducible first | exact HB.out | apply below_alloc | apply pw_below_drewN | apply below_drew1 | refine below_set ?_ GE449.out | refine below_set ?_ GE450.out | refine below_set ?_ GE451.out | refine below_set ?_ GE458.out | refine below_set ?_ GE459.out) | exact HB.out)⟩⟩
  ·rw [if_neg c34] at H
   have c34b0 : decide (0 < t463) = false := decide_eq_false c34
   clear c34
   (first | rw [c34b0] | (simp only [i64_w, i32_w]; rw [c34b0]) | skip)
   by_cases c35 : t463 = 0
   ·rw [if_pos c35] at H
    have c35b0 : (t463 == 0) = true := beq_iff_eq.mpr c35
    have c35b1 : (t463 != 0) = false := bne_eq_false_iff_eq.mpr c35
    clear c35
    replace H := ob_ H
    obtain ⟨t464, A360, H⟩ := H
    replace H : (r3_Quotient.j0 k ((Int.tmod t464 2) == 1) t452) = some r := H
    have A36 := A_ A360;clear A360
    have H' := A_ H
    clear H
    have hnb37 := NB458_449.out
    have hnc37 := NB449_458.out
    have hnb38 := NB458_450.out
    have hnc38 := NB450_458.out
    have hnb39 := NB458_451.out
    have hnc39 := NB451_458.out
    have hnb40 := NB458_459.out
    have hnc40 := NB459_458.out
    have hcz41_0 := bv_ BK458.out 0
    have hfz41_0 := blk_frozen BK458.out 0
    go_wp2_with (first | (go_at_call 101; (with_reducible refine (r1_Uint.calls _ _ t452 t464 _ ?side1 ?side2 A36.out).mono ?_); (case side1 => exact cs_ ((Kd.R_reads' HO454.out).2.2)); (case side2 => exact (Kd.R_reads' HO454.out).2.1); rintro e w42 ⟨rfl, hb⟩; replace HO454 := A_ (Kd.R_below (kr_ HO454.out) hb); replace HO457 := A_ (Kd.V_below (kv_ HO457.out) hb); replace HO462 := A_ (Kd.R_below (kr_ HO462.out) hb); replace BK449 := A_ (bb_ BK449.out hb); replace BK450 := A_ (bb_ BK450.out hb); replace BK451 := A_ (bb_ BK451.out hb); replace BK458 := A_ (bb_ BK458.out hb); replace BK459 := A_ (bb_ BK459.out hb); replace HB := A_ (below_step (by repeat (first | (with_reducible first | exact HB.out | apply below_alloc | apply pw_below_drewN | apply below_drew1 | refine below_set ?_ GE449.out | refine below_set ?_ GE450.out | refine below_set ?_ GE451.out | refine below_set ?_ GE458.out | refine below_set ?_ GE459.out) | exact HB.out)) hb); (try clear hb); (try clear hb2); (try clear hk); (try clear hi)))
    go_meet
    case rel => exact ⟨_, (((Int.tmod t464 2) == 1)), sm_, H', ⟨by first | omega | exact Nat.le_refl _⟩, ⟨by (with_reducible repeat (first | apply Kd.R_alloc | apply Kd.R_drewN | apply Kd.R_drew)); exact Kd.R_mono HO454.out (fun _ hk => trivial)⟩, ⟨by (with_reducible repeat (first | apply Kd.V_alloc | apply Kd.V_drewN | apply Kd.V_drew)); exact Kd.V_mono HO457.out (fun _ hk => ⟨hk.1.1, ⟨hk.1.2.1, ⟨hk.1.2.2.1, ⟨hk.1.2.2.2.1, ⟨hk.1.2.2.2.2.1, hk.1.2.2.2.2.2⟩⟩⟩⟩⟩)⟩, ⟨bk_ BK449.out⟩, ⟨bk_ BK450.out⟩, ⟨bk_ BK451.out⟩, ⟨bk_ BK458.out⟩, ⟨bk_ BK459.out⟩, ⟨by repeat (first | (with_reducible first | exact HB.out | apply below_alloc | apply pw_below_drewN | apply below_drew1 | refine below_set ?_ GE449.out | refine below_set ?_ GE450.out | refine below_set ?_ GE451.out | refine below_set ?_ GE458.out | refine below_set ?_ GE459.out) | exact HB.out)⟩⟩
   ·rw [if_neg c35] at H
    have c35b0 : (t463 == 0) = false := beq_eq_false_iff_ne.mpr c35
    have c35b1 : (t463 != 0) = true := bne_iff_ne.mpr c35
    have H' := A_ H
    clear H
    go_wp2
    go_meet
    case rel => exact ⟨_, (false), sm_, H', ⟨by first | omega | exact Nat.le_refl _⟩, ⟨by (with_reducible repeat (first | apply Kd.R_alloc | apply Kd.R_drewN | apply Kd.R_drew)); exact Kd.R_mono HO454.out (fun _ hk => trivial)⟩, ⟨by (with_reducible repeat (first | apply Kd.V_alloc | apply Kd.V_drewN | apply Kd.V_drew)); exact Kd.V_mono HO457.out (fun _ hk => ⟨hk.1.1, ⟨hk.1.2.1, ⟨hk.1.2.2.1, ⟨hk.1.2.2.2.1, ⟨hk.1.2.2.2.2.1, hk.1.2.2.2.2.2⟩⟩⟩⟩⟩)⟩, ⟨bk_ BK449.out⟩, ⟨bk_ BK450.out⟩, ⟨bk_ BK451.out⟩, ⟨bk_ BK458.out⟩, ⟨bk_ BK459.out⟩, ⟨by repeat (first | (with_reducible first | exact HB.out | apply below_alloc | apply pw_below_drewN | apply below_drew1 | refine below_set ?_ GE449.out | refine below_set ?_ GE450.out | refine below_set ?_ GE451.out | refine below_set ?_ GE458.out | refine below_set ?_ GE459.out) | exact HB.out)⟩⟩
 case rest =>
  clear HC6
  try clear c1
  try clear c2
  try clear p2
  try clear c3
  try clear c4
  try clear c7
  try clear c10
  try clear c11
  try clear c13
  try clear c19
  try clear c20
  try clear c21
  try clear c22
  try clear c25
  try clear c26
  try clear c27
  try clear c34
  try clear c34b0
  try clear c35
  try clear c35b0
  try clear c35b1
  try clear c37
  try clear c38
  try clear c39
  try clear c40
  try clear hcz12_0
  try clear hcz14_0
  try clear hcz23_0
  try clear hcz28_0
  try clear hcz41_0
  try clear hfz12_0
  try clear hfz14_0
  try clear hfz23_0
  try clear hfz28_0
  try clear hfz41_0
  obtain ⟨kq, x29_5, rfl, HA, HJ5, HO_459000, HO_460000, BK449, BK450, BK451, BK458, BK459, HB⟩ := hcut
  cases kq with
  | zero => exact absurd HA.out (by simp [r3_Quotient.j0])
  | succ kj5 =>
   have H := HA.out
   clear HA
   simp only [r3_Quotient.j0] at H
   by_cases c43 : x29_5 = true
   ·subst c43
    have H1 : ((r1_Of.f kj5 1).bind fun t465 => ((r1_Add.f kj5 t452 t465).bind fun t468 => (some t468))) = some r := by rw [if_pos rfl] at H; exact H
    clear H;have H := H1;clear H1
    replace H := ob_ H
    obtain ⟨t465, A440, H⟩ := H
    replace H : ((r1_Add.f kj5 t452 t465).bind fun t468 => (some t468)) = some r := H
    have A44 := A_ A440;clear A440
    replace H := ob_ H
    obtain ⟨t468, A450, H⟩ := H
    replace H : (some t468) = some r := H
    have A45 := A_ A450;clear A450
    obtain rfl := Option.some.inj H
    try go_wp2
    replace HO_459000 := A_ (Kd.R_drew HO_459000.out)
    replace HO_460000 := A_ (Kd.V_drew HO_460000.out)
    replace BK449 := A_ (blk_drew BK449.out)
    replace BK450 := A_ (blk_drew BK450.out)
    replace BK451 := A_ (blk_drew BK451.out)
    replace BK458 := A_ (blk_drew BK458.out)
    replace BK459 := A_ (blk_drew BK459.out)
    replace HB := A_ (below_drew1 HB.out)
    refine start_ (n := 4) (S := fun w' => w'.cell? ⟨gb458, 0, none⟩ = some (.slice Ao18 t452.length co18)) (ds := []) #[false, false, false, false] (by kernel_rfl) rfl rfl (bc_ BK458.out 0) (fun hHeld => ?_)
    generalize wc.drew = w46 at HO_459000 HO_460000 BK449 BK450 BK451 BK458 BK459 HB hHeld ⊢
    refine tk1_ 0 (some 30) #[true, false, false, false] rfl rfl (by kernel_rfl) hHeld ?_
    refine one_ (i := 1) (N := some 31) #[true, true, false, false] rfl rfl (by kernel_rfl) (by decide) (fun K hK => ?_)
    refine goes_ Try.func62 (by kernel_rfl) rfl #[.int .u64 1] (by rfl) rfl rfl mp_ ?_
    with_reducible refine (r1_Of.calls kj5 1 t465 _ A44.out).mono ?_
    rintro e w47 ⟨v466, rfl, ho0, hb⟩
    refine ⟨_, rfl, ?_⟩
    have HO467 := A_ (Kd.R_lower (Kd.R_new' ho0 (Kd.R_lt (kr_ HO_459000.out))) (below_size (by repeat (first | (with_reducible first | exact HB.out | apply below_alloc | apply pw_below_drewN | apply below_drew1 | refine below_set ?_ GE449.out | refine below_set ?_ GE450.out | refine below_set ?_ GE451.out | refine below_set ?_ GE458.out | refine below_set ?_ GE459.out) | exact HB.out))))
    replace HO_459000 := A_ (Kd.R_elder' (kr_ HO_459000.out) (Kd.R_base ho0) hb)
    replace HO_460000 := A_ (Kd.V_elder' (kv_ HO_460000.out) (Kd.R_base ho0) hb)
    replace BK449 := A_ (bb_ BK449.out hb)
    replace BK450 := A_ (bb_ BK450.out hb)
    replace BK451 := A_ (bb_ BK451.out hb)
    replace BK458 := A_ (bb_ BK458.out hb)
    replace BK459 := A_ (bb_ BK459.out hb)
    replace HB := A_ (below_step (by repeat (first | (with_reducible first | exact HB.out | apply below_alloc | apply pw_below_drewN | apply below_drew1 | refine below_set ?_ GE449.out | refine below_set ?_ GE450.out | refine below_set ?_ GE451.out | refine below_set ?_ GE458.out | refine below_set ?_ GE459.out) | exact HB.out)) hb);(try clear hb);(try clear hb2);(try clear hk);(try clear hi);(try clear ho0)
    obtain ⟨Ao48, co48, eo48⟩ := Kd.R_slice HO467.out
    (first | subst eo48 | (injection eo48 with f1_ f2_ f3_; have f4_ := f1_.symm; have f5_ := f3_.symm; clear f1_ f2_ f3_; subst f4_; subst f5_))
    refine hK.out _ _ (bc_ BK458.out 0) (fun hHeld => ?_)
    clear hK K
    refine norm_ (a' := ?_) ?_ ?_
    rotate_left
    ·show Act.put _ (some 31) _ = _
     simp only [Act.put, lI_, l0_, lS_, i64_w, i32_w]
     rfl
    refine one_ (i := 2) (N := some 32) #[true, true, true, false] rfl rfl (by kernel_rfl) (by decide) (fun K hK => ?_)
    refine goes_ Try.func80 (by kernel_rfl) rfl #[.agg #[.slice Ao18 t452.length co18], .agg #[.slice Ao48 t465.length co48]] (by rfl) rfl rfl mp_ ?_
    with_reducible refine (r1_Add.calls kj5 _ _ t452 _ _ t465 t468 _ ?side1 ?side2 ?side3 ?side4 A45.out).mono ?_
    (case side1 => exact cs_ ((Kd.R_reads' HO_459000.out).2.2))
    (case side2 => exact (Kd.R_reads' HO_459000.out).2.1)
    (case side3 => exact cs_ ((Kd.R_reads' HO467.out).2.2))
    (case side4 => exact (Kd.R_reads' HO467.out).2.1)
    rintro e w49 ⟨v469, rfl, ho0, hb⟩
    refine ⟨_, rfl, ?_⟩
    have HO470 := A_ (Kd.R_lower (Kd.R_new' (Kd.R_new' ho0 (Kd.R_lt (kr_ HO_459000.out))) (Kd.R_lt (kr_ HO467.out))) (below_size (by repeat (first | (with_reducible first | exact HB.out | apply below_alloc | apply pw_below_drewN | apply below_drew1 | refine below_set ?_ GE449.out | refine below_set ?_ GE450.out | refine below_set ?_ GE451.out | refine below_set ?_ GE458.out | refine below_set ?_ GE459.out) | exact HB.out))))
    replace HO_459000 := A_ (Kd.R_elder' (kr_ HO_459000.out) (Kd.R_base ho0) hb)
    replace HO_460000 := A_ (Kd.V_elder' (kv_ HO_460000.out) (Kd.R_base ho0) hb)
    replace HO467 := A_ (Kd.R_elder' (kr_ HO467.out) (Kd.R_base ho0) hb)
    replace BK449 := A_ (bb_ BK449.out hb)
    replace BK450 := A_ (bb_ BK450.out hb)
    replace BK451 := A_ (bb_ BK451.out hb)
    replace BK458 := A_ (bb_ BK458.out hb)
    replace BK459 := A_ (bb_ BK459.out hb)
    replace HB := A_ (below_step (by repeat (first | (with_reducible first | exact HB.out | apply below_alloc | apply pw_below_drewN | apply below_drew1 | refine below_set ?_ GE449.out | refine below_set ?_ GE450.out | refine below_set ?_ GE451.out | refine below_set ?_ GE458.out | refine below_set ?_ GE459.out) | exact HB.out)) hb);(try clear hb);(try clear hb2);(try clear hk);(try clear hi);(try clear ho0)
    obtain ⟨Ao50, co50, eo50⟩ := Kd.R_slice HO470.out
    (first | subst eo50 | (injection eo50 with f1_ f2_ f3_; have f4_ := f1_.symm; have f5_ := f3_.symm; clear f1_ f2_ f3_; subst f4_; subst f5_))
    refine hK.out _ _ (bc_ BK458.out 0) (fun hHeld => ?_)
    clear hK K
    refine norm_ (a' := ?_) ?_ ?_
    rotate_left
    ·show Act.put _ (some 32) _ = _
     simp only [Act.put, lI_, l0_, lS_, i64_w, i32_w]
     rfl
    refine one_ (i := 3) (N := none) #[true, true, true, true] rfl rfl (by kernel_rfl) (by decide) (fun K hK => ?_)
    have hs51 : w49.cell? ⟨gb451, 0, none⟩ = some (.slice none 0 0) := bc_ BK451.out 0
    have hfs51 := blk_frozen BK451.out 0
    have hns51_0 := NB449_451.out
    have hns51_1 := NB450_451.out
    have hns51_3 := NB458_451.out
    have hns51_4 := NB459_451.out
    have hms51_0 := NB451_449.out
    have hms51_1 := NB451_450.out
    have hms51_3 := NB451_458.out
    have hms51_4 := NB451_459.out
    refine skip_ (w1 := ?_) (by rfl) rfl ?_ ?_
    rotate_left
    ·go_simp
     rfl
    refine hK.out _ _ (((cell_far (p := ⟨gb451, _, none⟩) NB458_451.out _).trans (hHeld))) (fun hHeld => ?_)
    clear hK K
    refine done_ (by kernel_rfl) ?_
    try go_wp2
    refine bodyPost_ret (results_cell_row rfl _ _ gb451 63 #[.slice Ao50 t468.length co50] (0, 0) _ rfl (by (with_reducible repeat (first | refine blk_drewN ?_ _ | refine blk_drew ?_ | refine blk_alloc ?_ _)); refine blk_put (cs := #[.slice none 0 0]) ?_ 0 _ rfl; (with_reducible repeat (first | refine blk_drewN ?_ _ | refine blk_drew ?_ | refine blk_alloc ?_ _)); exact BK451.out) Try.underlying63 rfl (by kernel_rfl)) rfl ?_
    exact ⟨_, by first | rfl | (simp [errW_none, errW_some] <;> rfl) | (simp [*, errW_none, errW_some] <;> rfl), by (with_reducible repeat (first | apply Kd.R_alloc | apply Kd.R_drewN | apply Kd.R_drew)); exact Kd.R_mono (Kd.R_far (p := ⟨gb451, 0, none⟩) (Kd.R_types HO470.out BK451.out (by decide)) (fun _ hk => hk.2) (.slice Ao50 t468.length co50)) (fun _ hk => trivial), by repeat (first | (with_reducible first | exact HB.out | apply below_alloc | apply pw_below_drewN | apply below_drew1 | refine below_set ?_ GE449.out | refine below_set ?_ GE450.out | refine below_set ?_ GE451.out | refine below_set ?_ GE458.out | refine below_set ?_ GE459.out) | exact HB.out)⟩
   ·replace c43 := Bool.eq_false_iff.mpr c43
    subst c43
    have H1 : (some t452) = some r := by rw [if_neg (show ¬ (false = true) by decide)] at H; exact H
    clear H;have H := H1;clear H1
    obtain rfl := Option.some.inj H
    have hnb52 := NB458_449.out
    have hnc52 := NB449_458.out
    have hnb53 := NB458_450.out
    have hnc53 := NB450_458.out
    have hnb54 := NB458_451.out
    have hnc54 := NB451_458.out
    have hnb55 := NB458_459.out
    have hnc55 := NB459_458.out
    have hcz56_0 := bv_ BK458.out 0
    have hfz56_0 := blk_frozen BK458.out 0
    have hnb57 := NB451_449.out
    have hnc57 := NB449_451.out
    have hnb58 := NB451_450.out
    have hnc58 := NB450_451.out
    have hnb59 := NB451_459.out
    have hnc59 := NB459_451.out
    have hcz60_0 := bv_ BK451.out 0
    have hfz60_0 := blk_frozen BK451.out 0
    go_wp2
    refine bodyPost_ret (results_cell_row rfl _ _ gb451 63 #[.slice Ao18 t452.length co18] (0, 0) _ rfl (by (with_reducible repeat (first | refine blk_drewN ?_ _ | refine blk_drew ?_ | refine blk_alloc ?_ _)); refine blk_put (cs := #[.slice none 0 0]) ?_ 0 _ rfl; (with_reducible repeat (first | refine blk_drewN ?_ _ | refine blk_drew ?_ | refine blk_alloc ?_ _)); exact BK451.out) Try.underlying63 rfl (by kernel_rfl)) rfl ?_
    exact ⟨_, by first | rfl | (simp [errW_none, errW_some] <;> rfl) | (simp [*, errW_none, errW_some] <;> rfl), by (with_reducible repeat (first | apply Kd.R_alloc | apply Kd.R_drewN | apply Kd.R_drew)); exact Kd.R_mono (Kd.R_far (p := ⟨gb451, 0, none⟩) (Kd.R_types HO_459000.out BK451.out (by decide)) (fun _ hk => hk.2) (.slice Ao18 t452.length co18)) (fun _ hk => trivial), by repeat (first | (with_reducible first | exact HB.out | apply below_alloc | apply pw_below_drewN | apply below_drew1 | refine below_set ?_ GE449.out | refine below_set ?_ GE450.out | refine below_set ?_ GE451.out | refine below_set ?_ GE458.out | refine below_set ?_ GE459.out) | exact HB.out)⟩
def r3_grain.f (k : Nat) (l0_0 : List Int) (l1_0 : List Int) (a2 : Int) : Option (List Int) := if a2 ≥ 0 then ((r1_Shl.f k l0_0 a2).bind fun t474 => ((r3_Quotient.f k t474 l1_0).bind fun t477 => (some t477))) else ((r1_Shl.f k l1_0 (wrap64 (-a2))).bind fun t480 => ((r3_Quotient.f k l0_0 t480).bind fun t483 => (some t483)))
theorem r3_grain.mono : ∀ a0 a1 a2 k, LeO (r3_grain.f k a0 a1 a2) (r3_grain.f (k + 1) a0 a1 a2) := by
 intro a0 a1 a2 k
 unfold r3_grain.f
 repeat' first
   | (with_reducible exact r1_Shl.mono _ _ _)
   | (with_reducible exact r3_Quotient.mono _ _ _)
   | (with_reducible exact LeO.refl _)
   | (with_reducible exact LeO.none _)
   | (with_reducible refine LeO.ite ?_ ?_)
   | (with_reducible refine LeO.bind ?_ (fun _ => ?_))
   | exact r1_Shl.mono _ _ _
   | exact r3_Quotient.mono _ _ _
   | exact LeO.none _
   | refine LeO.ite ?_ ?_
   | refine LeO.bind ?_ (fun _ => ?_)
theorem r3_grain.calls (k : Nat) (A0_0 : Option Addr) (c0_0 : Nat) (l0_0 : List Int) (A1_0 : Option Addr) (c1_0 : Nat) (l1_0 : List Int) (a2 : Int) (r : List Int) (w : World) (hr0_0 : Kd.C (Kd.int .u64) w A0_0 l0_0.length l0_0) (hc0_0 : l0_0.length ≤ c0_0) (hr1_0 : Kd.C (Kd.int .u64) w A1_0 l1_0.length l1_0) (hc1_0 : l1_0.length ≤ c1_0) (h : r3_grain.f k l0_0 l1_0 a2 = some r) :
  Calls Try.prog 99 #[.agg #[.slice A0_0 l0_0.length c0_0], .agg #[.slice A1_0 l1_0.length c1_0], .int .i64 a2] w fun e w' => ∃ v0_ : Value, e = .returned (.agg #[v0_]) ∧ Kd.R (Kd.int .u64) 22 w' w.heap.size (fun _ => True) v0_ r ∧ Below w.heap.size w w' := by
 have hu63 := Try.underlying63
 have HR0_0 := A_ hr0_0;have HC0_0 := A_ hc0_0;clear hr0_0 hc0_0;have HR1_0 := A_ hr1_0;have HC1_0 := A_ hc1_0;clear hr1_0 hc1_0
 have HB := A_ (Below.refl w.heap.size w)
 have H : (if a2 ≥ 0 then ((r1_Shl.f k l0_0 a2).bind fun t474 => ((r3_Quotient.f k t474 l1_0).bind fun t477 => (some t477))) else ((r1_Shl.f k l1_0 (wrap64 (-a2))).bind fun t480 => ((r3_Quotient.f k l0_0 t480).bind fun t483 => (some t483)))) = some r := h
 clear h
 by_cases c4 : a2 ≥ 0
 ·rw [if_pos c4] at H
  have c4b0 : decide (0 ≤ a2) = true := decide_eq_true c4
  clear c4
  replace H := ob_ H
  obtain ⟨t474, A50, H⟩ := H
  replace H : ((r3_Quotient.f k t474 l1_0).bind fun t477 => (some t477)) = some r := H
  have A5 := A_ A50;clear A50
  replace H := ob_ H
  obtain ⟨t477, A60, H⟩ := H
  replace H : (some t477) = some r := H
  have A6 := A_ A60;clear A60
  obtain rfl := Option.some.inj H
  go_enter Try.func99, Try.ntmps99
  try go_wp2_with (first | ((with_reducible refine gate_dst (N := 3) rfl ?_); refine be_ 3 #[.slice A0_0 l0_0.length c0_0] 63 ?_; intro gb471 hg w7 hbox hb; have BK471 := A_ (hbox); have GW471 := A_ (sz_ hg (hb_ HB.out)); have GE471 := A_ (sz_ hg (hb_ HB.out)); replace HB := A_ (below_step (hb_ HB.out) hb); clear hb hbox hg) | ((with_reducible refine gate_dst (N := 4) rfl ?_); refine be_ 4 #[.slice A1_0 l1_0.length c1_0] 63 ?_; intro gb472 hg w8 hbox hb; have BK472 := A_ (hbox); have GW472 := A_ (sz_ hg (hb1_ HB.out GE471.out)); have GE472 := A_ (sz_ hg (hb1_ HB.out GE471.out)); have NB471_472 := A_ (nl_ hg BK471.out); have NB472_471 := A_ (ng_ hg BK471.out); replace BK471 := A_ (bb_ BK471.out hb); replace HB := A_ (below_step (hb1_ HB.out GE471.out) hb); clear hb hbox hg) | ((with_reducible refine gate_dst (N := 6) rfl ?_); refine be_ 6 #[.slice none 0 0] 63 ?_; intro gb473 hg w9 hbox hb; have BK473 := A_ (hbox); have GW473 := A_ (sz_ hg (hb2_ HB.out GE471.out GE472.out)); have GE473 := A_ (sz_ hg (hb2_ HB.out GE471.out GE472.out)); have NB471_473 := A_ (nl_ hg BK471.out); have NB473_471 := A_ (ng_ hg BK471.out); have NB472_473 := A_ (nl_ hg BK472.out); have NB473_472 := A_ (ng_ hg BK472.out); replace BK471 := A_ (bb_ BK471.out hb); replace BK472 := A_ (bb_ BK472.out hb); replace HB := A_ (below_step (hb2_ HB.out GE471.out GE472.out) hb); clear hb hbox hg))
  replace BK471 := A_ (blk_drew BK471.out)
  replace BK472 := A_ (blk_drew BK472.out)
  replace BK473 := A_ (blk_drew BK473.out)
  replace HB := A_ (below_drew1 HB.out)
  refine start_ (n := 6) (S := fun w' => w'.cell? ⟨gb471, 0, none⟩ = some (.slice A0_0 l0_0.length c0_0) ∧ w'.cell? ⟨gb472, 0, none⟩ = some (.slice A1_0 l1_0.length c1_0)) (ds := []) #[false, false, false, false, false, false] (by kernel_rfl) rfl rfl ⟨bc_ BK471.out 0, bc_ BK472.out 0⟩ (fun hHeld => ?_)
  generalize w9.drew = w10 at BK471 BK472 BK473 HB hHeld ⊢
  refine pu_ 1 (some 10) #[false, true, false, false, false, false] rfl rfl (by kernel_rfl) ?_
  refine tk2_ 0 (some 9) #[true, true, false, false, false, false] rfl rfl (by kernel_rfl) hHeld ?_
  refine tk2_ 3 (some 12) #[true, true, false, true, false, false] rfl rfl (by kernel_rfl) hHeld ?_
  refine one_ (i := 2) (N := some 11) #[true, true, true, true, false, false] rfl rfl (by kernel_rfl) (by decide) (fun K hK => ?_)
  refine goes_ Try.func78 (by kernel_rfl) rfl #[.agg #[.slice A0_0 l0_0.length c0_0], .int .i64 a2] (by rfl) rfl rfl mp_ ?_
  with_reducible refine (r1_Shl.calls k _ _ l0_0 a2 t474 _ ?side1 ?side2 A5.out).mono ?_
  (case side1 => exact cs_ ((Kd.C_below HR0_0.out HB.out)))
  (case side2 => exact HC0_0.out)
  rintro e w11 ⟨v475, rfl, ho0, hb⟩
  refine ⟨_, rfl, ?_⟩
  have HO476 := A_ (Kd.R_lower ho0 (below_size (hb3_ HB.out GE471.out GE472.out GE473.out)))
  replace BK471 := A_ (bb_ BK471.out hb)
  replace BK472 := A_ (bb_ BK472.out hb)
  replace BK473 := A_ (bb_ BK473.out hb)
  replace HB := A_ (below_step (hb3_ HB.out GE471.out GE472.out GE473.out) hb);(try clear hb);(try clear hb2);(try clear hk);(try clear hi);(try clear ho0)
  obtain ⟨Ao12, co12, eo12⟩ := Kd.R_slice HO476.out
  (first | subst eo12 | (injection eo12 with f1_ f2_ f3_; have f4_ := f1_.symm; have f5_ := f3_.symm; clear f1_ f2_ f3_; subst f4_; subst f5_))
  refine hK.out _ _ ⟨bc_ BK471.out 0, bc_ BK472.out 0⟩ (fun hHeld => ?_)
  clear hK K
  refine norm_ (a' := ?_) ?_ ?_
  rotate_left
  ·show Act.put _ (some 11) _ = _
   simp only [Act.put, lI_, l0_, lS_, i64_w, i32_w]
   rfl
  refine one_ (i := 4) (N := some 13) #[true, true, true, true, true, false] rfl rfl (by kernel_rfl) (by decide) (fun K hK => ?_)
  refine goes_ Try.func114 (by kernel_rfl) rfl #[.agg #[.slice Ao12 t474.length co12], .agg #[.slice A1_0 l1_0.length c1_0]] (by rfl) rfl rfl mp_ ?_
  with_reducible refine (r3_Quotient.calls k _ _ t474 _ _ l1_0 t477 _ ?side1 ?side2 ?side3 ?side4 A6.out).mono ?_
  (case side1 => exact cs_ ((Kd.R_reads' HO476.out).2.2))
  (case side2 => exact (Kd.R_reads' HO476.out).2.1)
  (case side3 => exact cs_ ((Kd.C_below HR1_0.out HB.out)))
  (case side4 => exact HC1_0.out)
  rintro e w13 ⟨v478, rfl, ho0, hb⟩
  refine ⟨_, rfl, ?_⟩
  have HO479 := A_ (Kd.R_lower (Kd.R_new' ho0 (Kd.R_lt (kr_ HO476.out))) (below_size (hb3_ HB.out GE471.out GE472.out GE473.out)))
  replace HO476 := A_ (Kd.R_elder' (kr_ HO476.out) (Kd.R_base ho0) hb)
  replace BK471 := A_ (bb_ BK471.out hb)
  replace BK472 := A_ (bb_ BK472.out hb)
  replace BK473 := A_ (bb_ BK473.out hb)
  replace HB := A_ (below_step (hb3_ HB.out GE471.out GE472.out GE473.out) hb);(try clear hb);(try clear hb2);(try clear hk);(try clear hi);(try clear ho0)
  obtain ⟨Ao14, co14, eo14⟩ := Kd.R_slice HO479.out
  (first | subst eo14 | (injection eo14 with f1_ f2_ f3_; have f4_ := f1_.symm; have f5_ := f3_.symm; clear f1_ f2_ f3_; subst f4_; subst f5_))
  refine hK.out _ _ ⟨bc_ BK471.out 0, bc_ BK472.out 0⟩ (fun hHeld => ?_)
  clear hK K
  refine norm_ (a' := ?_) ?_ ?_
  rotate_left
  ·show Act.put _ (some 13) _ = _
   simp only [Act.put, lI_, l0_, lS_, i64_w, i32_w]
   rfl
  refine one_ (i := 5) (N := none) #[true, true, true, true, true, true] rfl rfl (by kernel_rfl) (by decide) (fun K hK => ?_)
  have hs15 : w13.cell? ⟨gb473, 0, none⟩ = some (.slice none 0 0) := bc_ BK473.out 0
  have hfs15 := blk_frozen BK473.out 0
  have hns15_0 := NB471_473.out
  have hns15_1 := NB472_473.out
  have hms15_0 := NB473_471.out
  have hms15_1 := NB473_472.out
  refine skip_ (w1 := ?_) (by rfl) rfl ?_ ?_
  rotate_left
  ·go_simp
   rfl
  refine hK.out _ _ ⟨((cell_far (p := ⟨gb473, _, none⟩) NB471_473.out _).trans (hHeld.1)), ((cell_far (p := ⟨gb473, _, none⟩) NB472_473.out _).trans (hHeld.2))⟩ (fun hHeld => ?_)
  clear hK K
  refine done_ (by kernel_rfl) ?_
  try go_wp2
  refine bodyPost_ret (results_cell_row rfl _ _ gb473 63 #[.slice Ao14 t477.length co14] (0, 0) _ rfl (by (with_reducible repeat (first | refine blk_drewN ?_ _ | refine blk_drew ?_ | refine blk_alloc ?_ _)); refine blk_put (cs := #[.slice none 0 0]) ?_ 0 _ rfl; (with_reducible repeat (first | refine blk_drewN ?_ _ | refine blk_drew ?_ | refine blk_alloc ?_ _)); exact BK473.out) Try.underlying63 rfl (by kernel_rfl)) rfl ?_
  exact ⟨_, by first | rfl | (simp [errW_none, errW_some] <;> rfl) | (simp [*, errW_none, errW_some] <;> rfl), by (with_reducible repeat (first | apply Kd.R_alloc | apply Kd.R_drewN | apply Kd.R_drew)); exact Kd.R_mono (Kd.R_far (p := ⟨gb473, 0, none⟩) (Kd.R_types HO479.out BK473.out (by decide)) (fun _ hk => hk.2) (.slice Ao14 t477.length co14)) (fun _ hk => trivial), hb3_ HB.out GE471.out GE472.out GE473.out⟩
 ·rw [if_neg c4] at H
  have c4b0 : decide (0 ≤ a2) = false := decide_eq_false c4
  clear c4
  replace H := ob_ H
  obtain ⟨t480, A160, H⟩ := H
  replace H : ((r3_Quotient.f k l0_0 t480).bind fun t483 => (some t483)) = some r := H
  have A16 := A_ A160;clear A160
  replace H := ob_ H
  obtain ⟨t483, A170, H⟩ := H
  replace H : (some t483) = some r := H
  have A17 := A_ A170;clear A170
  obtain rfl := Option.some.inj H
  go_enter Try.func99, Try.ntmps99
  try go_wp2_with (first | ((with_reducible refine gate_dst (N := 3) rfl ?_); refine be_ 3 #[.slice A0_0 l0_0.length c0_0] 63 ?_; intro gb471 hg w18 hbox hb; have BK471 := A_ (hbox); have GW471 := A_ (sz_ hg (hb_ HB.out)); have GE471 := A_ (sz_ hg (hb_ HB.out)); replace HB := A_ (below_step (hb_ HB.out) hb); clear hb hbox hg) | ((with_reducible refine gate_dst (N := 4) rfl ?_); refine be_ 4 #[.slice A1_0 l1_0.length c1_0] 63 ?_; intro gb472 hg w19 hbox hb; have BK472 := A_ (hbox); have GW472 := A_ (sz_ hg (hb1_ HB.out GE471.out)); have GE472 := A_ (sz_ hg (hb1_ HB.out GE471.out)); have NB471_472 := A_ (nl_ hg BK471.out); have NB472_471 := A_ (ng_ hg BK471.out); replace BK471 := A_ (bb_ BK471.out hb); replace HB := A_ (below_step (hb1_ HB.out GE471.out) hb); clear hb hbox hg) | ((with_reducible refine gate_dst (N := 6) rfl ?_); refine be_ 6 #[.slice none 0 0] 63 ?_; intro gb473 hg w20 hbox hb; have BK473 := A_ (hbox); have GW473 := A_ (sz_ hg (hb2_ HB.out GE471.out GE472.out)); have GE473 := A_ (sz_ hg (hb2_ HB.out GE471.out GE472.out)); have NB471_473 := A_ (nl_ hg BK471.out); have NB473_471 := A_ (ng_ hg BK471.out); have NB472_473 := A_ (nl_ hg BK472.out); have NB473_472 := A_ (ng_ hg BK472.out); replace BK471 := A_ (bb_ BK471.out hb); replace BK472 := A_ (bb_ BK472.out hb); replace HB := A_ (below_step (hb2_ HB.out GE471.out GE472.out) hb); clear hb hbox hg))
  replace BK471 := A_ (blk_drew BK471.out)
  replace BK472 := A_ (blk_drew BK472.out)
  replace BK473 := A_ (blk_drew BK473.out)
  replace HB := A_ (below_drew1 HB.out)
  refine start_ (n := 7) (S := fun w' => w'.cell? ⟨gb471, 0, none⟩ = some (.slice A0_0 l0_0.length c0_0) ∧ w'.cell? ⟨gb472, 0, none⟩ = some (.slice A1_0 l1_0.length c1_0)) (ds := []) #[false, false, false, false, false, false, false] (by kernel_rfl) rfl rfl ⟨bc_ BK471.out 0, bc_ BK472.out 0⟩ (fun hHeld => ?_)
  generalize w20.drew = w21 at BK471 BK472 BK473 HB hHeld ⊢
  refine pu_ 2 (some 16) #[false, false, true, false, false, false, false] rfl rfl (by kernel_rfl) ?_
  refine pu_ 3 (some 17) #[false, false, true, true, false, false, false] rfl rfl (by kernel_rfl) ?_
  refine tk2_ 0 (some 14) #[true, false, true, true, false, false, false] rfl rfl (by kernel_rfl) hHeld ?_
  refine tk2_ 1 (some 15) #[true, true, true, true, false, false, false] rfl rfl (by kernel_rfl) hHeld ?_
  refine one_ (i := 4) (N := some 18) #[true, true, true, true, true, false, false] rfl rfl (by kernel_rfl) (by decide) (fun K hK => ?_)
  refine goes_ Try.func78 (by kernel_rfl) rfl #[.agg #[.slice A1_0 l1_0.length c1_0], .int .i64 (wrap64 (-a2))] (by rfl) rfl rfl mp_ ?_
  with_reducible refine (r1_Shl.calls k _ _ l1_0 (wrap64 (-a2)) t480 _ ?side1 ?side2 A16.out).mono ?_
  (case side1 => exact cs_ ((Kd.C_below HR1_0.out HB.out)))
  (case side2 => exact HC1_0.out)
  rintro e w22 ⟨v481, rfl, ho0, hb⟩
  refine ⟨_, rfl, ?_⟩
  have HO482 := A_ (Kd.R_lower ho0 (below_size (hb3_ HB.out GE471.out GE472.out GE473.out)))
  replace BK471 := A_ (bb_ BK471.out hb)
  replace BK472 := A_ (bb_ BK472.out hb)
  replace BK473 := A_ (bb_ BK473.out hb)
  replace HB := A_ (below_step (hb3_ HB.out GE471.out GE472.out GE473.out) hb);(try clear hb);(try clear hb2);(try clear hk);(try clear hi);(try clear ho0)
  obtain ⟨Ao23, co23, eo23⟩ := Kd.R_slice HO482.out
  (first | subst eo23 | (injection eo23 with f1_ f2_ f3_; have f4_ := f1_.symm; have f5_ := f3_.symm; clear f1_ f2_ f3_; subst f4_; subst f5_))
  refine hK.out _ _ ⟨bc_ BK471.out 0, bc_ BK472.out 0⟩ (fun hHeld => ?_)
  clear hK K
  refine norm_ (a' := ?_) ?_ ?_
  rotate_left
  ·show Act.put _ (some 18) _ = _
   simp only [Act.put, lI_, l0_, lS_, i64_w, i32_w]
   rfl
  refine one_ (i := 5) (N := some 19) #[true, true, true, true, true, true, false] rfl rfl (by kernel_rfl) (by decide) (fun K hK => ?_)
  refine goes_ Try.func114 (by kernel_rfl) rfl #[.agg #[.slice A0_0 l0_0.length c0_0], .agg #[.slice Ao23 t480.length co23]] (by rfl) rfl rfl mp_ ?_
  with_reducible refine (r3_Quotient.calls k _ _ l0_0 _ _ t480 t483 _ ?side1 ?side2 ?side3 ?side4 A17.out).mono ?_
  (case side1 => exact cs_ ((Kd.C_below HR0_0.out HB.out)))
  (case side2 => exact HC0_0.out)
  (case side3 => exact cs_ ((Kd.R_reads' HO482.out).2.2))
  (case side4 => exact (Kd.R_reads' HO482.out).2.1)
  rintro e w24 ⟨v484, rfl, ho0, hb⟩
  refine ⟨_, rfl, ?_⟩
  have HO485 := A_ (Kd.R_lower (Kd.R_new' ho0 (Kd.R_lt (kr_ HO482.out))) (below_size (hb3_ HB.out GE471.out GE472.out GE473.out)))
  replace HO482 := A_ (Kd.R_elder' (kr_ HO482.out) (Kd.R_base ho0) hb)
  replace BK471 := A_ (bb_ BK471.out hb)
  replace BK472 := A_ (bb_ BK472.out hb)
  replace BK473 := A_ (bb_ BK473.out hb)
  replace HB := A_ (below_step (hb3_ HB.out GE471.out GE472.out GE473.out) hb);(try clear hb);(try clear hb2);(try clear hk);(try clear hi);(try clear ho0)
  obtain ⟨Ao25, co25, eo25⟩ := Kd.R_slice HO485.out
  (first | subst eo25 | (injection eo25 with f1_ f2_ f3_; have f4_ := f1_.symm; have f5_ := f3_.symm; clear f1_ f2_ f3_; subst f4_; subst f5_))
  refine hK.out _ _ ⟨bc_ BK471.out 0, bc_ BK472.out 0⟩ (fun hHeld => ?_)
  clear hK K
  refine norm_ (a' := ?_) ?_ ?_
  rotate_left
  ·show Act.put _ (some 19) _ = _
   simp only [Act.put, lI_, l0_, lS_, i64_w, i32_w]
   rfl
  refine one_ (i := 6) (N := none) #[true, true, true, true, true, true, true] rfl rfl (by kernel_rfl) (by decide) (fun K hK => ?_)
  have hs26 : w24.cell? ⟨gb473, 0, none⟩ = some (.slice none 0 0) := bc_ BK473.out 0
  have hfs26 := blk_frozen BK473.out 0
  have hns26_0 := NB471_473.out
  have hns26_1 := NB472_473.out
  have hms26_0 := NB473_471.out
  have hms26_1 := NB473_472.out
  refine skip_ (w1 := ?_) (by rfl) rfl ?_ ?_
  rotate_left
  ·go_simp
   rfl
  refine hK.out _ _ ⟨((cell_far (p := ⟨gb473, _, none⟩) NB471_473.out _).trans (hHeld.1)), ((cell_far (p := ⟨gb473, _, none⟩) NB472_473.out _).trans (hHeld.2))⟩ (fun hHeld => ?_)
  clear hK K
  refine done_ (by kernel_rfl) ?_
  try go_wp2
  refine bodyPost_ret (results_cell_row rfl _ _ gb473 63 #[.slice Ao25 t483.length co25] (0, 0) _ rfl (by (with_reducible repeat (first | refine blk_drewN ?_ _ | refine blk_drew ?_ | refine blk_alloc ?_ _)); refine blk_put (cs := #[.slice none 0 0]) ?_ 0 _ rfl; (with_reducible repeat (first | refine blk_drewN ?_ _ | refine blk_drew ?_ | refine blk_alloc ?_ _)); exact BK473.out) Try.underlying63 rfl (by kernel_rfl)) rfl ?_
  exact ⟨_, by first | rfl | (simp [errW_none, errW_some] <;> rfl) | (simp [*, errW_none, errW_some] <;> rfl), by (with_reducible repeat (first | apply Kd.R_alloc | apply Kd.R_drewN | apply Kd.R_drew)); exact Kd.R_mono (Kd.R_far (p := ⟨gb473, 0, none⟩) (Kd.R_types HO485.out BK473.out (by decide)) (fun _ hk => hk.2) (.slice Ao25 t483.length co25)) (fun _ hk => trivial), hb3_ HB.out GE471.out GE472.out GE473.out⟩
def r3_under.f (k : Nat) (l0_0 : List Int) (l1_0 : List Int) (a2 : Int) : Option (Bool) := if a2 ≥ 0 then ((r1_Shl.f k l0_0 a2).bind fun t391 => ((r1_Cmp.f k t391 l1_0).bind fun t394 => (some (decide (t394 < 0))))) else ((r1_Shl.f k l1_0 (wrap64 (-a2))).bind fun t395 => ((r1_Cmp.f k l0_0 t395).bind fun t398 => (some (decide (t398 < 0)))))
theorem r3_under.mono : ∀ a0 a1 a2 k, LeO (r3_under.f k a0 a1 a2) (r3_under.f (k + 1) a0 a1 a2) := by
 intro a0 a1 a2 k
 unfold r3_under.f
 repeat' first
   | (with_reducible exact r1_Cmp.mono _ _ _)
   | (with_reducible exact r1_Shl.mono _ _ _)
   | (with_reducible exact LeO.refl _)
   | (with_reducible exact LeO.none _)
   | (with_reducible refine LeO.ite ?_ ?_)
   | (with_reducible refine LeO.bind ?_ (fun _ => ?_))
   | exact r1_Cmp.mono _ _ _
   | exact r1_Shl.mono _ _ _
   | exact LeO.none _
   | refine LeO.ite ?_ ?_
   | refine LeO.bind ?_ (fun _ => ?_)
def r3_under.T3 : Bool × List (List Nat × List Nat) := (true, [([], []), ([], []), ([], []), ([2], [2]), ([1, 3], [1, 3]), ([0, 4, 4], [0, 4]), ([5], [5]), ([6, 5, 0, 1, 2, 3, 4, 5, 6], [6])])
def r3_under.B3 : List Nat := [0, 0, 0, 4, 14, 31, 63, 127]
theorem r3_under.tab3 : rtab .any (opsOf Try.f98 3) = r3_under.T3 := by kernel_rfl
theorem r3_under.bits3 : waitsOk r3_under.T3.2 r3_under.B3 = true := by kernel_rfl
theorem r3_under.calls (k : Nat) (A0_0 : Option Addr) (c0_0 : Nat) (l0_0 : List Int) (A1_0 : Option Addr) (c1_0 : Nat) (l1_0 : List Int) (a2 : Int) (r : Bool) (w : World) (hr0_0 : Kd.C (Kd.int .u64) w A0_0 l0_0.length l0_0) (hc0_0 : l0_0.length ≤ c0_0) (hr1_0 : Kd.C (Kd.int .u64) w A1_0 l1_0.length l1_0) (hc1_0 : l1_0.length ≤ c1_0) (h : r3_under.f k l0_0 l1_0 a2 = some r) :
  Calls Try.prog 98 #[.agg #[.slice A0_0 l0_0.length c0_0], .agg #[.slice A1_0 l1_0.length c1_0], .int .i64 a2] w fun e w' => e = .returned (.bool r) ∧ Below w.heap.size w w' := by
 have hu63 := Try.underlying63
 have HR0_0 := A_ hr0_0;have HC0_0 := A_ hc0_0;clear hr0_0 hc0_0;have HR1_0 := A_ hr1_0;have HC1_0 := A_ hc1_0;clear hr1_0 hc1_0
 have HB := A_ (Below.refl w.heap.size w)
 have H : (if a2 ≥ 0 then ((r1_Shl.f k l0_0 a2).bind fun t391 => ((r1_Cmp.f k t391 l1_0).bind fun t394 => (some (decide (t394 < 0))))) else ((r1_Shl.f k l1_0 (wrap64 (-a2))).bind fun t395 => ((r1_Cmp.f k l0_0 t395).bind fun t398 => (some (decide (t398 < 0)))))) = some r := h
 clear h
 by_cases c4 : a2 ≥ 0
 ·rw [if_pos c4] at H
  have c4b0 : decide (0 ≤ a2) = true := decide_eq_true c4
  clear c4
  replace H := ob_ H
  obtain ⟨t391, A50, H⟩ := H
  replace H : ((r1_Cmp.f k t391 l1_0).bind fun t394 => (some (decide (t394 < 0)))) = some r := H
  have A5 := A_ A50;clear A50
  replace H := ob_ H
  obtain ⟨t394, A60, H⟩ := H
  replace H : (some (decide (t394 < 0))) = some r := H
  have A6 := A_ A60;clear A60
  obtain rfl := Option.some.inj H
  go_enter Try.func98, Try.ntmps98
  try go_wp2_with (first | ((with_reducible refine gate_dst (N := 3) rfl ?_); refine be_ 3 #[.slice A0_0 l0_0.length c0_0] 63 ?_; intro gb389 hg w7 hbox hb; have BK389 := A_ (hbox); have GW389 := A_ (sz_ hg (hb_ HB.out)); have GE389 := A_ (sz_ hg (hb_ HB.out)); replace HB := A_ (below_step (hb_ HB.out) hb); clear hb hbox hg) | ((with_reducible refine gate_dst (N := 4) rfl ?_); refine be_ 4 #[.slice A1_0 l1_0.length c1_0] 63 ?_; intro gb390 hg w8 hbox hb; have BK390 := A_ (hbox); have GW390 := A_ (sz_ hg (hb1_ HB.out GE389.out)); have GE390 := A_ (sz_ hg (hb1_ HB.out GE389.out)); have NB389_390 := A_ (nl_ hg BK389.out); have NB390_389 := A_ (ng_ hg BK389.out); replace BK389 := A_ (bb_ BK389.out hb); replace HB := A_ (below_step (hb1_ HB.out GE389.out) hb); clear hb hbox hg))
  replace BK389 := A_ (blk_drew BK389.out)
  replace BK390 := A_ (blk_drew BK390.out)
  replace HB := A_ (below_drew1 HB.out)
  refine start_ (n := 7) (S := fun w' => w'.cell? ⟨gb389, 0, none⟩ = some (.slice A0_0 l0_0.length c0_0) ∧ w'.cell? ⟨gb390, 0, none⟩ = some (.slice A1_0 l1_0.length c1_0)) (ds := []) #[false, false, false, false, false, false, false] (by kernel_rfl) rfl rfl ⟨bc_ BK389.out 0, bc_ BK390.out 0⟩ (fun hHeld => ?_)
  generalize w8.drew = w9 at BK389 BK390 HB hHeld ⊢
  refine pu_ 1 (some 10) #[false, true, false, false, false, false, false] rfl rfl (by kernel_rfl) ?_
  refine tk2_ 0 (some 9) #[true, true, false, false, false, false, false] rfl rfl (by kernel_rfl) hHeld ?_
  refine tk2_ 3 (some 12) #[true, true, false, true, false, false, false] rfl rfl (by kernel_rfl) hHeld ?_
  refine one_ (i := 2) (N := some 11) #[true, true, true, true, false, false, false] rfl rfl (by kernel_rfl) (by decide) (fun K hK => ?_)
  refine goes_ Try.func78 (by kernel_rfl) rfl #[.agg #[.slice A0_0 l0_0.length c0_0], .int .i64 a2] (by rfl) rfl rfl mp_ ?_
  with_reducible refine (r1_Shl.calls k _ _ l0_0 a2 t391 _ ?side1 ?side2 A5.out).mono ?_
  (case side1 => exact cs_ ((Kd.C_below HR0_0.out HB.out)))
  (case side2 => exact HC0_0.out)
  rintro e w10 ⟨v392, rfl, ho0, hb⟩
  refine ⟨_, rfl, ?_⟩
  have HO393 := A_ (Kd.R_lower ho0 (below_size (hb2_ HB.out GE389.out GE390.out)))
  replace BK389 := A_ (bb_ BK389.out hb)
  replace BK390 := A_ (bb_ BK390.out hb)
  replace HB := A_ (below_step (hb2_ HB.out GE389.out GE390.out) hb);(try clear hb);(try clear hb2);(try clear hk);(try clear hi);(try clear ho0)
  obtain ⟨Ao11, co11, eo11⟩ := Kd.R_slice HO393.out
  (first | subst eo11 | (injection eo11 with f1_ f2_ f3_; have f4_ := f1_.symm; have f5_ := f3_.symm; clear f1_ f2_ f3_; subst f4_; subst f5_))
  refine hK.out _ _ ⟨bc_ BK389.out 0, bc_ BK390.out 0⟩ (fun hHeld => ?_)
  clear hK K
  refine norm_ (a' := ?_) ?_ ?_
  rotate_left
  ·show Act.put _ (some 11) _ = _
   simp only [Act.put, lI_, l0_, lS_, i64_w, i32_w]
   rfl
  refine one_ (i := 4) (N := some 13) #[true, true, true, true, true, false, false] rfl rfl (by kernel_rfl) (by decide) (fun K hK => ?_)
  refine goes_ Try.func113 (by kernel_rfl) rfl #[.agg #[.slice Ao11 t391.length co11], .agg #[.slice A1_0 l1_0.length c1_0]] (by rfl) rfl rfl mp_ ?_
  with_reducible refine (r1_Cmp.calls k _ _ t391 _ _ l1_0 t394 _ ?side1 ?side2 ?side3 ?side4 A6.out).mono ?_
  (case side1 => exact cs_ ((Kd.R_reads' HO393.out).2.2))
  (case side2 => exact (Kd.R_reads' HO393.out).2.1)
  (case side3 => exact cs_ ((Kd.C_below HR1_0.out HB.out)))
  (case side4 => exact HC1_0.out)
  rintro e w12 ⟨rfl, hb⟩
  refine ⟨_, rfl, ?_⟩
  replace HO393 := A_ (Kd.R_below (kr_ HO393.out) hb)
  replace BK389 := A_ (bb_ BK389.out hb)
  replace BK390 := A_ (bb_ BK390.out hb)
  replace HB := A_ (below_step (hb2_ HB.out GE389.out GE390.out) hb);(try clear hb);(try clear hb2);(try clear hk);(try clear hi)
  refine hK.out _ _ ⟨bc_ BK389.out 0, bc_ BK390.out 0⟩ (fun hHeld => ?_)
  clear hK K
  refine norm_ (a' := ?_) ?_ ?_
  rotate_left
  ·show Act.put _ (some 13) _ = _
   simp only [Act.put, lI_, l0_, lS_, i64_w, i32_w]
   rfl
  refine pu_ 5 (some 14) #[true, true, true, true, true, true, false] rfl rfl (by kernel_rfl) ?_
  refine pu_ 6 (some 6) #[true, true, true, true, true, true, true] rfl rfl (by kernel_rfl) ?_
  refine done_ (by kernel_rfl) ?_
  try go_wp2
  go_ret
  exact ⟨er_, hb2_ HB.out GE389.out GE390.out⟩
 ·rw [if_neg c4] at H
  have c4b0 : decide (0 ≤ a2) = false := decide_eq_false c4
  clear c4
  replace H := ob_ H
  obtain ⟨t395, A130, H⟩ := H
  replace H : ((r1_Cmp.f k l0_0 t395).bind fun t398 => (some (decide (t398 < 0)))) = some r := H
  have A13 := A_ A130;clear A130
  replace H := ob_ H
  obtain ⟨t398, A140, H⟩ := H
  replace H : (some (decide (t398 < 0))) = some r := H
  have A14 := A_ A140;clear A140
  obtain rfl := Option.some.inj H
  go_enter Try.func98, Try.ntmps98
  try go_wp2_with (first | ((with_reducible refine gate_dst (N := 3) rfl ?_); refine be_ 3 #[.slice A0_0 l0_0.length c0_0] 63 ?_; intro gb389 hg w15 hbox hb; have BK389 := A_ (hbox); have GW389 := A_ (sz_ hg (hb_ HB.out)); have GE389 := A_ (sz_ hg (hb_ HB.out)); replace HB := A_ (below_step (hb_ HB.out) hb); clear hb hbox hg) | ((with_reducible refine gate_dst (N := 4) rfl ?_); refine be_ 4 #[.slice A1_0 l1_0.length c1_0] 63 ?_; intro gb390 hg w16 hbox hb; have BK390 := A_ (hbox); have GW390 := A_ (sz_ hg (hb1_ HB.out GE389.out)); have GE390 := A_ (sz_ hg (hb1_ HB.out GE389.out)); have NB389_390 := A_ (nl_ hg BK389.out); have NB390_389 := A_ (ng_ hg BK389.out); replace BK389 := A_ (bb_ BK389.out hb); replace HB := A_ (below_step (hb1_ HB.out GE389.out) hb); clear hb hbox hg))
  replace BK389 := A_ (blk_drew BK389.out)
  replace BK390 := A_ (blk_drew BK390.out)
  replace HB := A_ (below_drew1 HB.out)
  refine start_ (n := 8) (S := fun w' => w'.cell? ⟨gb389, 0, none⟩ = some (.slice A0_0 l0_0.length c0_0) ∧ w'.cell? ⟨gb390, 0, none⟩ = some (.slice A1_0 l1_0.length c1_0)) (ds := []) #[false, false, false, false, false, false, false, false] (by kernel_rfl) rfl rfl ⟨bc_ BK389.out 0, bc_ BK390.out 0⟩ (fun hHeld => ?_); refine with_tabW r3_under.tab3 r3_under.bits3 (fun HT_ HW_ => ?_)
  generalize w16.drew = w17 at BK389 BK390 HB hHeld ⊢
  refine pu_ 2 (some 17) #[false, false, true, false, false, false, false, false] rfl rfl (any_of HT_.out (by kernel_rfl)) ?_
  refine pu_ 3 (some 18) #[false, false, true, true, false, false, false, false] rfl rfl (any_of HT_.out (by kernel_rfl)) ?_
  refine tk2_ 0 (some 15) #[true, false, true, true, false, false, false, false] rfl rfl (take_ofW HT_.out HW_.out (by kernel_rfl)) hHeld ?_
  refine tk2_ 1 (some 16) #[true, true, true, true, false, false, false, false] rfl rfl (take_ofW HT_.out HW_.out (by kernel_rfl)) hHeld ?_
  refine one_ (i := 4) (N := some 19) #[true, true, true, true, true, false, false, false] rfl rfl (one_of HT_.out (by kernel_rfl)) (by decide) (fun K hK => ?_)
  refine goes_ Try.func78 (by kernel_rfl) rfl #[.agg #[.slice A1_0 l1_0.length c1_0], .int .i64 (wrap64 (-a2))] (by rfl) rfl rfl mp_ ?_
  with_reducible refine (r1_Shl.calls k _ _ l1_0 (wrap64 (-a2)) t395 _ ?side1 ?side2 A13.out).mono ?_
  (case side1 => exact cs_ ((Kd.C_below HR1_0.out HB.out)))
  (case side2 => exact HC1_0.out)
  rintro e w18 ⟨v396, rfl, ho0, hb⟩
  refine ⟨_, rfl, ?_⟩
  have HO397 := A_ (Kd.R_lower ho0 (below_size (hb2_ HB.out GE389.out GE390.out)))
  replace BK389 := A_ (bb_ BK389.out hb)
  replace BK390 := A_ (bb_ BK390.out hb)
  replace HB := A_ (below_step (hb2_ HB.out GE389.out GE390.out) hb);(try clear hb);(try clear hb2);(try clear hk);(try clear hi);(try clear ho0)
  obtain ⟨Ao19, co19, eo19⟩ := Kd.R_slice HO397.out
  (first | subst eo19 | (injection eo19 with f1_ f2_ f3_; have f4_ := f1_.symm; have f5_ := f3_.symm; clear f1_ f2_ f3_; subst f4_; subst f5_))
  refine hK.out _ _ ⟨bc_ BK389.out 0, bc_ BK390.out 0⟩ (fun hHeld => ?_)
  clear hK K
  refine norm_ (a' := ?_) ?_ ?_
  rotate_left
  ·show Act.put _ (some 19) _ = _
   simp only [Act.put, lI_, l0_, lS_, i64_w, i32_w]
   rfl
  refine one_ (i := 5) (N := some 20) #[true, true, true, true, true, true, false, false] rfl rfl (one_of HT_.out (by kernel_rfl)) (by decide) (fun K hK => ?_)
  refine goes_ Try.func113 (by kernel_rfl) rfl #[.agg #[.slice A0_0 l0_0.length c0_0], .agg #[.slice Ao19 t395.length co19]] (by rfl) rfl rfl mp_ ?_
  with_reducible refine (r1_Cmp.calls k _ _ l0_0 _ _ t395 t398 _ ?side1 ?side2 ?side3 ?side4 A14.out).mono ?_
  (case side1 => exact cs_ ((Kd.C_below HR0_0.out HB.out)))
  (case side2 => exact HC0_0.out)
  (case side3 => exact cs_ ((Kd.R_reads' HO397.out).2.2))
  (case side4 => exact (Kd.R_reads' HO397.out).2.1)
  rintro e w20 ⟨rfl, hb⟩
  refine ⟨_, rfl, ?_⟩
  replace HO397 := A_ (Kd.R_below (kr_ HO397.out) hb)
  replace BK389 := A_ (bb_ BK389.out hb)
  replace BK390 := A_ (bb_ BK390.out hb)
  replace HB := A_ (below_step (hb2_ HB.out GE389.out GE390.out) hb);(try clear hb);(try clear hb2);(try clear hk);(try clear hi)
  refine hK.out _ _ ⟨bc_ BK389.out 0, bc_ BK390.out 0⟩ (fun hHeld => ?_)
  clear hK K
  refine norm_ (a' := ?_) ?_ ?_
  rotate_left
  ·show Act.put _ (some 20) _ = _
   simp only [Act.put, lI_, l0_, lS_, i64_w, i32_w]
   rfl
  refine pu_ 6 (some 21) #[true, true, true, true, true, true, true, false] rfl rfl (any_of HT_.out (by kernel_rfl)) ?_
  refine pu_ 7 (some 6) #[true, true, true, true, true, true, true, true] rfl rfl (any_of HT_.out (by kernel_rfl)) ?_
  refine done_ (done_of HT_.out (by kernel_rfl)) ?_
  try go_wp2
  go_ret
  exact ⟨er_, hb2_ HB.out GE389.out GE390.out⟩
end Go.Proofs.Ytbpmnmceajmmcaa.PA
