/- What the Go functions that the statement CastMakes reaches compute, and the mathematics on it, in the order in which one leans on the other; for every input. -/
import Derived.Test.YthdeeoallfbjmaaDoorVCastMakes1
import Derived.Test.YthdeeoallfbjmaaDoorMCastMakes0
import Derived.Test.YthdeeoallfbjmaaDoorMCastMakes4
import Derived.Test.YthdeeoallfbjmaaDoorMCastMakes5
import Derived.Test.YthdeeoallfbjmaaDoorMCastMakes8
namespace Go.Proofs.YthdeeoallfbjmaaDoor.PA
open Go.RowKit Go.Proofs.YthdeeoallfbjmaaDoorW.PrintWords Go.Proofs.YthdeeoallfbjmaaDoorW.PrintLast Go.Proofs.YthdeeoallfbjmaaDoorW.PrintMore
attribute [local go_sem] max2_int min2_int max_two min_two max_three min_three max_four min_four   -- for this text's walks alone
set_option linter.unusedVariables false
set_option linter.unusedSimpArgs false
set_option maxHeartbeats 8000000
set_option maxRecDepth 100000
def r3_Quotient.j0 : Nat → Bool → List Int → Option (List Int)
 | 0, _, _ => none
 | k + 1, x29, x457000 => if x29 = true then ((r1_Of.f k 1).bind fun t463 => ((r1_Add.f k x457000 t463).bind fun t466 => (some t466))) else (some x457000)
def r3_Quotient.f (k : Nat) (l0_0 : List Int) (l1_0 : List Int) : Option (List Int) := (r1_Div.f k l0_0 l1_0).bind fun bt450 => ((r1_Shl.f k bt450.2 1).bind fun t458 => ((r1_Cmp.f k t458 l1_0).bind fun t461 => (if t461 > 0 then (r3_Quotient.j0 k true bt450.1) else (if t461 = 0 then ((r1_Uint.f bt450.1).bind fun t462 => (r3_Quotient.j0 k ((Int.tmod t462 2) == 1) bt450.1)) else (r3_Quotient.j0 k false bt450.1)))))
theorem r3_Quotient.mono_l : ∀ k, (∀ y0 y1, LeO (r3_Quotient.j0 k y0 y1) (r3_Quotient.j0 (k + 1) y0 y1))
 | 0 => fun _ _ r h => by simp [r3_Quotient.j0] at h
 | k + 1 => by
  have ih0 := r3_Quotient.mono_l k
  ·intro y0 y1
   unfold r3_Quotient.j0
   repeat' first
   | (with_reducible exact ih0 _ _)
   | (with_reducible exact r1_Add.mono _ _ _)
   | (with_reducible exact r1_Cmp.mono _ _ _)
   | (with_reducible exact r1_Div.mono _ _ _)
   | (with_reducible exact r1_Of.mono _ _)
   | (with_reducible exact r1_Shl.mono _ _ _)
   | (with_reducible exact LeO.refl _)
   | (with_reducible exact LeO.none _)
   | (with_reducible refine LeO.ite ?_ ?_)
   | (with_reducible refine LeO.bind ?_ (fun _ => ?_))
   | exact ih0 _ _
   | exact r1_Add.mono _ _ _
   | exact r1_Cmp.mono _ _ _
   | exact r1_Div.mono _ _ _
   | exact r1_Of.mono _ _
   | exact r1_Shl.mono _ _ _
   | exact LeO.none _
   | refine LeO.ite ?_ ?_
   | refine LeO.bind ?_ (fun _ => ?_)
theorem r3_Quotient.mono : ∀ a0 a1 k, LeO (r3_Quotient.f k a0 a1) (r3_Quotient.f (k + 1) a0 a1) := by
 intro a0 a1 k
 have ih0 := r3_Quotient.mono_l k
 unfold r3_Quotient.f
 repeat' first
   | (with_reducible exact ih0 _ _)
   | (with_reducible exact r1_Add.mono _ _ _)
   | (with_reducible exact r1_Cmp.mono _ _ _)
   | (with_reducible exact r1_Div.mono _ _ _)
   | (with_reducible exact r1_Of.mono _ _)
   | (with_reducible exact r1_Shl.mono _ _ _)
   | (with_reducible exact LeO.refl _)
   | (with_reducible exact LeO.none _)
   | (with_reducible refine LeO.ite ?_ ?_)
   | (with_reducible refine LeO.bind ?_ (fun _ => ?_))
   | exact ih0 _ _
   | exact r1_Add.mono _ _ _
   | exact r1_Cmp.mono _ _ _
   | exact r1_Div.mono _ _ _
   | exact r1_Of.mono _ _
   | exact r1_Shl.mono _ _ _
   | exact LeO.none _
   | refine LeO.ite ?_ ?_
   | refine LeO.bind ?_ (fun _ => ?_)
theorem r3_Quotient.calls (k : Nat) (A0_0 : Option Addr) (c0_0 : Nat) (l0_0 : List Int) (A1_0 : Option Addr) (c1_0 : Nat) (l1_0 : List Int) (r : List Int) (w : World) (hr0_0 : Kd.C (Kd.int .u64) w A0_0 l0_0.length l0_0) (hc0_0 : l0_0.length ≤ c0_0) (hr1_0 : Kd.C (Kd.int .u64) w A1_0 l1_0.length l1_0) (hc1_0 : l1_0.length ≤ c1_0) (h : r3_Quotient.f k l0_0 l1_0 = some r) :
  Calls Tryd.prog 109 #[.agg #[.slice A0_0 l0_0.length c0_0], .agg #[.slice A1_0 l1_0.length c1_0]] w fun e w' => ∃ v0_ : Value, e = .returned (.agg #[v0_]) ∧ Kd.R (Kd.int .u64) 22 w' w.heap.size (fun _ => True) v0_ r ∧ Below w.heap.size w w' := by
 have hu67 := Tryd.underlying67
 have HR0_0 := A_ hr0_0;have HC0_0 := A_ hc0_0;clear hr0_0 hc0_0;have HR1_0 := A_ hr1_0;have HC1_0 := A_ hc1_0;clear hr1_0 hc1_0
 have HB := A_ (Below.refl w.heap.size w)
 have H : ((r1_Div.f k l0_0 l1_0).bind fun bt450 => ((r1_Shl.f k bt450.2 1).bind fun t458 => ((r1_Cmp.f k t458 l1_0).bind fun t461 => (if t461 > 0 then (r3_Quotient.j0 k true bt450.1) else (if t461 = 0 then ((r1_Uint.f bt450.1).bind fun t462 => (r3_Quotient.j0 k ((Int.tmod t462 2) == 1) bt450.1)) else (r3_Quotient.j0 k false bt450.1)))))) = some r := h
 clear h
 replace H := ob_ H
 obtain ⟨⟨t450, t453⟩, A30, H⟩ := H
 replace H : ((r1_Shl.f k t453 1).bind fun t458 => ((r1_Cmp.f k t458 l1_0).bind fun t461 => (if t461 > 0 then (r3_Quotient.j0 k true t450) else (if t461 = 0 then ((r1_Uint.f t450).bind fun t462 => (r3_Quotient.j0 k ((Int.tmod t462 2) == 1) t450)) else (r3_Quotient.j0 k false t450))))) = some r := H
 have A3 := A_ A30;clear A30
 replace H := ob_ H
 obtain ⟨t458, A40, H⟩ := H
 replace H : ((r1_Cmp.f k t458 l1_0).bind fun t461 => (if t461 > 0 then (r3_Quotient.j0 k true t450) else (if t461 = 0 then ((r1_Uint.f t450).bind fun t462 => (r3_Quotient.j0 k ((Int.tmod t462 2) == 1) t450)) else (r3_Quotient.j0 k false t450)))) = some r := H
 have A4 := A_ A40;clear A40
 replace H := ob_ H
 obtain ⟨t461, A50, H⟩ := H
 replace H : (if t461 > 0 then (r3_Quotient.j0 k true t450) else (if t461 = 0 then ((r1_Uint.f t450).bind fun t462 => (r3_Quotient.j0 k ((Int.tmod t462 2) == 1) t450)) else (r3_Quotient.j0 k false t450))) = some r := H
 have A5 := A_ A50;clear A50;have HC6 := A_ H;clear H
 go_enter Tryd.func109, Tryd.ntmps109
 try go_wp2_with (first | ((with_reducible refine gate_dst (N := 2) rfl ?_); refine be_ 2 #[.slice A0_0 l0_0.length c0_0] 67 ?_; intro gb447 hg w7 hbox hb; have BK447 := A_ (hbox); have GW447 := A_ (sz_ hg (hb_ HB.out)); have GE447 := A_ (sz_ hg (hb_ HB.out)); replace HB := A_ (below_step (hb_ HB.out) hb); clear hb hbox hg) | ((with_reducible refine gate_dst (N := 3) rfl ?_); refine be_ 3 #[.slice A1_0 l1_0.length c1_0] 67 ?_; intro gb448 hg w8 hbox hb; have BK448 := A_ (hbox); have GW448 := A_ (sz_ hg (hb1_ HB.out GE447.out)); have GE448 := A_ (sz_ hg (hb1_ HB.out GE447.out)); have NB447_448 := A_ (nl_ hg BK447.out); have NB448_447 := A_ (ng_ hg BK447.out); replace BK447 := A_ (bb_ BK447.out hb); replace HB := A_ (below_step (hb1_ HB.out GE447.out) hb); clear hb hbox hg) | ((with_reducible refine gate_dst (N := 4) rfl ?_); refine be_ 4 #[.slice none 0 0] 67 ?_; intro gb449 hg w9 hbox hb; have BK449 := A_ (hbox); have GW449 := A_ (sz_ hg (hb2_ HB.out GE447.out GE448.out)); have GE449 := A_ (sz_ hg (hb2_ HB.out GE447.out GE448.out)); have NB447_449 := A_ (nl_ hg BK447.out); have NB449_447 := A_ (ng_ hg BK447.out); have NB448_449 := A_ (nl_ hg BK448.out); have NB449_448 := A_ (ng_ hg BK448.out); replace BK447 := A_ (bb_ BK447.out hb); replace BK448 := A_ (bb_ BK448.out hb); replace HB := A_ (below_step (hb2_ HB.out GE447.out GE448.out) hb); clear hb hbox hg; have hnb10 := NB447_448.out; have hnc10 := NB448_447.out; have hnb11 := NB447_449.out; have hnc11 := NB449_447.out; have hcz12_0 := bv_ BK447.out 0; have hfz12_0 := blk_frozen BK447.out 0; have hnb13 := NB448_449.out; have hnc13 := NB449_448.out; have hcz14_0 := bv_ BK448.out 0; have hfz14_0 := blk_frozen BK448.out 0) | ((with_reducible refine gate_callee (f := 110) rfl ?_); refine goesL_ (some 11) rfl rfl Tryd.func110 (by kernel_rfl) rfl #[.agg #[.slice A0_0 l0_0.length c0_0], .agg #[.slice A1_0 l1_0.length c1_0]] rfl mp_ ?_; (with_reducible refine (r1_Div.calls k (fun k_ => k_ < w.heap.size) _ _ l0_0 _ _ l1_0 t450 t453 _ ?side1 ?side2 ?side3 A3.out).mono ?_); (case side1 => exact Kd.V_mk HC0_0.out (Kd.F_below (Kd.C_F (Kd.heap_int .u64) HR0_0.out) (hb3_ HB.out GE447.out GE448.out GE449.out))); (case side2 => exact cs_ ((Kd.C_below HR1_0.out HB.out))); (case side3 => exact HC1_0.out); rintro e w15 ⟨v451, v454, rfl, ho0, ho1, hb⟩; refine ⟨_, rfl, ?_⟩; have HO452 := A_ (Kd.R_lower (Kd.R_mono (ok' := fun k_ => True) ho0 (fun _ hk_ => trivial)) (below_size (hb3_ HB.out GE447.out GE448.out GE449.out))); have HO455 := A_ (Kd.V_lower (Kd.V_mono (ok' := fun k_ => some k_ ≠ (v451 : Value).ownBlock ∧ k_ ≠ gb447 ∧ k_ ≠ gb448 ∧ k_ ≠ gb449) ho1 (fun k_ hk_ => ⟨hk_.2, Or.elim hk_.1 (fun hs_ => fun e_ => Nat.not_le.2 hs_ (by rw [e_]; exact GW447.out)) (fun hn_ => (Kd.freshB (g := gb447) (o := .cells #[.slice A0_0 l0_0.length c0_0] 67 (0, 0)) (bk_ BK447.out) k_ hn_)), Or.elim hk_.1 (fun hs_ => fun e_ => Nat.not_le.2 hs_ (by rw [e_]; exact GW448.out)) (fun hn_ => (Kd.freshB (g := gb448) (o := .cells #[.slice A1_0 l1_0.length c1_0] 67 (0, 0)) (bk_ BK448.out) k_ hn_)), Or.elim hk_.1 (fun hs_ => fun e_ => Nat.not_le.2 hs_ (by rw [e_]; exact GW449.out)) (fun hn_ => (Kd.freshB (g := gb449) (o := .cells #[.slice none 0 0] 67 (0, 0)) (bk_ BK449.out) k_ hn_))⟩)) (below_size (hb3_ HB.out GE447.out GE448.out GE449.out))); replace BK447 := A_ (bb_ BK447.out hb); replace BK448 := A_ (bb_ BK448.out hb); replace BK449 := A_ (bb_ BK449.out hb); replace HB := A_ (below_step (hb3_ HB.out GE447.out GE448.out GE449.out) hb); (try clear hb); (try clear hb2); (try clear hk); (try clear hi); (try clear ho0); (try clear ho1)) | ((with_reducible refine gate_dst (N := 5) rfl ?_); refine be_ 5 #[.slice none 0 0] 67 ?_; intro gb456 hg w16 hbox hb; have BK456 := A_ (hbox); have GW456 := A_ (sz_ hg (hb3_ HB.out GE447.out GE448.out GE449.out)); have GE456 := A_ (sz_ hg (hb3_ HB.out GE447.out GE448.out GE449.out)); have NB447_456 := A_ (nl_ hg BK447.out); have NB456_447 := A_ (ng_ hg BK447.out); have NB448_456 := A_ (nl_ hg BK448.out); have NB456_448 := A_ (ng_ hg BK448.out); have NB449_456 := A_ (nl_ hg BK449.out); have NB456_449 := A_ (ng_ hg BK449.out); replace HO452 := A_ (Kd.R_below (kr_ HO452.out) hb); replace HO455 := A_ (Kd.V_below (Kd.V_elderB (kv_ HO455.out) gb456 (Nat.le_of_eq hg.symm)) hb); replace BK447 := A_ (bb_ BK447.out hb); replace BK448 := A_ (bb_ BK448.out hb); replace BK449 := A_ (bb_ BK449.out hb); replace HB := A_ (below_step (hb3_ HB.out GE447.out GE448.out GE449.out) hb); clear hb hbox hg) | ((with_reducible refine gate_dst (N := 6) rfl ?_); refine be_ 6 #[.slice none 0 0] 67 ?_; intro gb457 hg w17 hbox hb; have BK457 := A_ (hbox); have GW457 := A_ (sz_ hg (hb4_ HB.out GE447.out GE448.out GE449.out GE456.out)); have GE457 := A_ (sz_ hg (hb4_ HB.out GE447.out GE448.out GE449.out GE456.out)); have NB447_457 := A_ (nl_ hg BK447.out); have NB457_447 := A_ (ng_ hg BK447.out); have NB448_457 := A_ (nl_ hg BK448.out); have NB457_448 := A_ (ng_ hg BK448.out); have NB449_457 := A_ (nl_ hg BK449.out); have NB457_449 := A_ (ng_ hg BK449.out); have NB456_457 := A_ (nl_ hg BK456.out); have NB457_456 := A_ (ng_ hg BK456.out); replace HO452 := A_ (Kd.R_below (kr_ HO452.out) hb); replace HO455 := A_ (Kd.V_below (Kd.V_elderB (kv_ HO455.out) gb457 (Nat.le_of_eq hg.symm)) hb); replace BK447 := A_ (bb_ BK447.out hb); replace BK448 := A_ (bb_ BK448.out hb); replace BK449 := A_ (bb_ BK449.out hb); replace BK456 := A_ (bb_ BK456.out hb); replace HB := A_ (below_step (hb4_ HB.out GE447.out GE448.out GE449.out GE456.out) hb); clear hb hbox hg; obtain ⟨Ao18, co18, eo18⟩ := Kd.R_slice HO452.out; subst eo18; have hnb19 := NB456_447.out; have hnc19 := NB447_456.out; have hnb20 := NB456_448.out; have hnc20 := NB448_456.out; have hnb21 := NB456_449.out; have hnc21 := NB449_456.out; have hnb22 := NB456_457.out; have hnc22 := NB457_456.out; have hcz23_0 := bv_ BK456.out 0; have hfz23_0 := blk_frozen BK456.out 0; obtain ⟨Ao24, co24, eo24⟩ := Kd.V_slice HO455.out; subst eo24; have hnb25 := NB457_447.out; have hnc25 := NB447_457.out; have hnb26 := NB457_448.out; have hnc26 := NB448_457.out; have hnb27 := NB457_449.out; have hnc27 := NB449_457.out; have hcz28_0 := bv_ BK457.out 0; have hfz28_0 := blk_frozen BK457.out 0))
 have n0_ : Aside0 (Kd.R (Kd.int .u64) 22 ((w17.setCell ⟨gb456, 0, none⟩ (.slice Ao18 t450.length co18)).setCell ⟨gb457, 0, none⟩ (.slice Ao24 t453.length co24)) w.heap.size (fun _ => True) (.slice Ao18 t450.length co18) t450) := ⟨by (with_reducible repeat (first | apply Kd.R_alloc | apply Kd.R_drewN | apply Kd.R_drew)); exact Kd.R_mono (Kd.R_far (p := ⟨gb457, 0, none⟩) (Kd.R_far (p := ⟨gb456, 0, none⟩) (Kd.R_types (Kd.R_types HO452.out BK456.out (by decide)) BK457.out (by decide)) (fun _ hk => hk.1.2) (.slice Ao18 t450.length co18)) (fun _ hk => hk.2) (.slice Ao24 t453.length co24)) (fun _ hk => trivial)⟩
 have n1_ : Aside0 (Kd.V (Kd.int .u64) 22 ((w17.setCell ⟨gb456, 0, none⟩ (.slice Ao18 t450.length co18)).setCell ⟨gb457, 0, none⟩ (.slice Ao24 t453.length co24)) w.heap.size (fun k_ => some k_ ≠ (.slice Ao18 t450.length co18 : Value).ownBlock ∧ k_ ≠ gb447 ∧ k_ ≠ gb448 ∧ k_ ≠ gb449 ∧ k_ ≠ gb456 ∧ k_ ≠ gb457) (.slice Ao24 t453.length co24) t453) := ⟨by (with_reducible repeat (first | apply Kd.V_alloc | apply Kd.V_drewN | apply Kd.V_drew)); exact Kd.V_mono (Kd.V_far (p := ⟨gb457, 0, none⟩) (Kd.V_far (p := ⟨gb456, 0, none⟩) (Kd.V_mono (Kd.V_mono HO455.out (fun k_ hk => (⟨hk, hk.1.2⟩ : _ ∧ k_ ≠ gb456))) (fun k_ hk => (⟨hk, hk.1.2⟩ : _ ∧ k_ ≠ gb457))) (fun _ hk => hk.1.2) (.slice Ao18 t450.length co18)) (fun _ hk => hk.2) (.slice Ao24 t453.length co24)) (fun _ hk => ⟨hk.1.1.1.1.1, ⟨hk.1.1.1.1.2.1, ⟨hk.1.1.1.1.2.2.1, ⟨hk.1.1.1.1.2.2.2, ⟨hk.1.1.1.2, hk.1.1.2⟩⟩⟩⟩⟩)⟩
 have n2_ : Aside0 (((w17.setCell ⟨gb456, 0, none⟩ (.slice Ao18 t450.length co18)).setCell ⟨gb457, 0, none⟩ (.slice Ao24 t453.length co24)).heap[gb447]? = some (.cells #[.slice A0_0 l0_0.length c0_0] 67 (0, 0))) := ⟨bf2_ BK447.out NB447_457.out NB447_456.out⟩
 have n3_ : Aside0 (((w17.setCell ⟨gb456, 0, none⟩ (.slice Ao18 t450.length co18)).setCell ⟨gb457, 0, none⟩ (.slice Ao24 t453.length co24)).heap[gb448]? = some (.cells #[.slice A1_0 l1_0.length c1_0] 67 (0, 0))) := ⟨bf2_ BK448.out NB448_457.out NB448_456.out⟩
 have n4_ : Aside0 (((w17.setCell ⟨gb456, 0, none⟩ (.slice Ao18 t450.length co18)).setCell ⟨gb457, 0, none⟩ (.slice Ao24 t453.length co24)).heap[gb449]? = some (.cells #[.slice none 0 0] 67 (0, 0))) := ⟨bf2_ BK449.out NB449_457.out NB449_456.out⟩
 have n5_ : Aside0 (((w17.setCell ⟨gb456, 0, none⟩ (.slice Ao18 t450.length co18)).setCell ⟨gb457, 0, none⟩ (.slice Ao24 t453.length co24)).heap[gb456]? = some (.cells #[.slice Ao18 t450.length co18] 67 (0, 0))) := ⟨by (with_reducible repeat (first | refine blk_drewN ?_ _ | refine blk_drew ?_ | refine blk_alloc ?_ _)); refine blk_far ?_ NB456_457.out _; (with_reducible repeat (first | refine blk_drewN ?_ _ | refine blk_drew ?_ | refine blk_alloc ?_ _)); refine blk_put (cs := #[.slice none 0 0]) ?_ 0 _ rfl; (with_reducible repeat (first | refine blk_drewN ?_ _ | refine blk_drew ?_ | refine blk_alloc ?_ _)); exact BK456.out⟩
 have n6_ : Aside0 (((w17.setCell ⟨gb456, 0, none⟩ (.slice Ao18 t450.length co18)).setCell ⟨gb457, 0, none⟩ (.slice Ao24 t453.length co24)).heap[gb457]? = some (.cells #[.slice Ao24 t453.length co24] 67 (0, 0))) := ⟨by (with_reducible repeat (first | refine blk_drewN ?_ _ | refine blk_drew ?_ | refine blk_alloc ?_ _)); refine blk_put (cs := #[.slice none 0 0]) ?_ 0 _ rfl; (with_reducible repeat (first | refine blk_drewN ?_ _ | refine blk_drew ?_ | refine blk_alloc ?_ _)); refine blk_far ?_ NB457_456.out _; (with_reducible repeat (first | refine blk_drewN ?_ _ | refine blk_drew ?_ | refine blk_alloc ?_ _)); exact BK457.out⟩
 have n7_ : Aside0 (Below w.heap.size w ((w17.setCell ⟨gb456, 0, none⟩ (.slice Ao18 t450.length co18)).setCell ⟨gb457, 0, none⟩ (.slice Ao24 t453.length co24))) := ⟨by repeat (first | (with_reducible first | exact HB.out | apply below_alloc | apply pw_below_drewN | apply below_drew1 | refine below_set ?_ GE447.out | refine below_set ?_ GE448.out | refine below_set ?_ GE449.out | refine below_set ?_ GE456.out | refine below_set ?_ GE457.out) | exact HB.out)⟩
 (try clear HO452);(try clear HO455);(try clear BK447);(try clear BK448);(try clear BK449);(try clear BK456);(try clear BK457);(try clear HB)
 generalize ((w17.setCell ⟨gb456, 0, none⟩ (.slice Ao18 t450.length co18)).setCell ⟨gb457, 0, none⟩ (.slice Ao24 t453.length co24)) = w29 at n0_ n1_ n2_ n3_ n4_ n5_ n6_ n7_ ⊢
 have HO452 := n0_;have HO455 := n1_;have BK447 := n2_;have BK448 := n3_;have BK449 := n4_;have BK456 := n5_;have BK457 := n6_;have HB := n7_;clear n0_ n1_ n2_ n3_ n4_ n5_ n6_ n7_
 replace HO452 := A_ (Kd.R_drew HO452.out)
 replace HO455 := A_ (Kd.V_drew HO455.out)
 replace BK447 := A_ (blk_drew BK447.out)
 replace BK448 := A_ (blk_drew BK448.out)
 replace BK449 := A_ (blk_drew BK449.out)
 replace BK456 := A_ (blk_drew BK456.out)
 replace BK457 := A_ (blk_drew BK457.out)
 replace HB := A_ (below_drew1 HB.out)
 refine start_ (n := 5) (S := fun w' => w'.cell? ⟨gb457, 0, none⟩ = some (.slice Ao24 t453.length co24) ∧ w'.cell? ⟨gb448, 0, none⟩ = some (.slice A1_0 l1_0.length c1_0)) (ds := []) #[false, false, false, false, false] (by kernel_rfl) rfl rfl ⟨bc_ BK457.out 0, bc_ BK448.out 0⟩ (fun hHeld => ?_)
 generalize w29.drew = w30 at HO452 HO455 BK447 BK448 BK449 BK456 BK457 HB hHeld ⊢
 refine tk2_ 0 (some 14) #[true, false, false, false, false] rfl rfl (by kernel_rfl) hHeld ?_
 refine tk2_ 2 (some 16) #[true, false, true, false, false] rfl rfl (by kernel_rfl) hHeld ?_
 refine one_ (i := 1) (N := some 15) #[true, true, true, false, false] rfl rfl (by kernel_rfl) (by decide) (fun K hK => ?_)
 refine goes_ Tryd.func60 (by kernel_rfl) rfl #[.agg #[.slice Ao24 t453.length co24], .int .i64 1] (by rfl) rfl rfl mp_ ?_
 with_reducible refine (r1_Shl.calls k _ _ t453 1 t458 _ ?side1 ?side2 A4.out).mono ?_
 (case side1 => exact cs_ ((Kd.V_reads' HO455.out).2.2))
 (case side2 => exact (Kd.V_reads' HO455.out).2.1)
 rintro e w31 ⟨v459, rfl, ho0, hb⟩
 refine ⟨_, rfl, ?_⟩
 have HO460 := A_ (Kd.R_lower (Kd.R_new' ho0 (Kd.R_lt (kr_ HO452.out))) (below_size (by repeat (first | (with_reducible first | exact HB.out | apply below_alloc | apply pw_below_drewN | apply below_drew1 | refine below_set ?_ GE447.out | refine below_set ?_ GE448.out | refine below_set ?_ GE449.out | refine below_set ?_ GE456.out | refine below_set ?_ GE457.out) | exact HB.out))))
 replace HO452 := A_ (Kd.R_elder' (kr_ HO452.out) (Kd.R_base ho0) hb)
 replace HO455 := A_ (Kd.V_elder' (kv_ HO455.out) (Kd.R_base ho0) hb)
 replace BK447 := A_ (bb_ BK447.out hb)
 replace BK448 := A_ (bb_ BK448.out hb)
 replace BK449 := A_ (bb_ BK449.out hb)
 replace BK456 := A_ (bb_ BK456.out hb)
 replace BK457 := A_ (bb_ BK457.out hb)
 replace HB := A_ (below_step (by repeat (first | (with_reducible first | exact HB.out | apply below_alloc | apply pw_below_drewN | apply below_drew1 | refine below_set ?_ GE447.out | refine below_set ?_ GE448.out | refine below_set ?_ GE449.out | refine below_set ?_ GE456.out | refine below_set ?_ GE457.out) | exact HB.out)) hb);(try clear hb);(try clear hb2);(try clear hk);(try clear hi);(try clear ho0)
 obtain ⟨Ao32, co32, eo32⟩ := Kd.R_slice HO460.out
 (first | subst eo32 | (injection eo32 with f1_ f2_ f3_; have f4_ := f1_.symm; have f5_ := f3_.symm; clear f1_ f2_ f3_; subst f4_; subst f5_))
 refine hK.out _ _ ⟨bc_ BK457.out 0, bc_ BK448.out 0⟩ (fun hHeld => ?_)
 clear hK K
 refine norm_ (a' := ?_) ?_ ?_
 rotate_left
 ·show Act.put _ (some 15) _ = _
  simp only [Act.put, lI_, l0_, lS_, i64_w, i32_w]
  rfl
 refine one_ (i := 3) (N := some 17) #[true, true, true, true, false] rfl rfl (by kernel_rfl) (by decide) (fun K hK => ?_)
 refine goes_ Tryd.func59 (by kernel_rfl) rfl #[.agg #[.slice Ao32 t458.length co32], .agg #[.slice A1_0 l1_0.length c1_0]] (by rfl) rfl rfl mp_ ?_
 with_reducible refine (r1_Cmp.calls k _ _ t458 _ _ l1_0 t461 _ ?side1 ?side2 ?side3 ?side4 A5.out).mono ?_
 (case side1 => exact cs_ ((Kd.R_reads' HO460.out).2.2))
 (case side2 => exact (Kd.R_reads' HO460.out).2.1)
 (case side3 => exact cs_ ((Kd.C_below HR1_0.out HB.out)))
 (case side4 => exact HC1_0.out)
 rintro e w33 ⟨rfl, hb⟩
 refine ⟨_, rfl, ?_⟩
 replace HO452 := A_ (Kd.R_below (kr_ HO452.out) hb)
 replace HO455 := A_ (Kd.V_below (kv_ HO455.out) hb)
 replace HO460 := A_ (Kd.R_below (kr_ HO460.out) hb)
 replace BK447 := A_ (bb_ BK447.out hb)
 replace BK448 := A_ (bb_ BK448.out hb)
 replace BK449 := A_ (bb_ BK449.out hb)
 replace BK456 := A_ (bb_ BK456.out hb)
 replace BK457 := A_ (bb_ BK457.out hb)
 replace HB := A_ (below_step (by repeat (first | (with_reducible first | exact HB.out | apply below_alloc | apply pw_below_drewN | apply below_drew1 | refine below_set ?_ GE447.out | refine below_set ?_ GE448.out | refine below_set ?_ GE449.out | refine below_set ?_ GE456.out | refine below_set ?_ GE457.out) | exact HB.out)) hb);(try clear hb);(try clear hb2);(try clear hk);(try clear hi)
 refine hK.out _ _ ⟨bc_ BK457.out 0, bc_ BK448.out 0⟩ (fun hHeld => ?_)
 clear hK K
 refine norm_ (a' := ?_) ?_ ?_
 rotate_left
 ·show Act.put _ (some 17) _ = _
  simp only [Act.put, lI_, l0_, lS_, i64_w, i32_w]
  rfl
 refine pu_ 4 (some 7) #[true, true, true, true, true] rfl rfl (by kernel_rfl) ?_
 refine done_ (by kernel_rfl) ?_
 go_upto_region 3 with (fail)
 go_cut [29] (fun v29 wc => ∃ (kq : Nat) (x29_5 : Bool), v29 = .bool x29_5 ∧ Aside0 (r3_Quotient.j0 kq x29_5 t450 = some r) ∧ Aside0 (kq ≤ k) ∧ Aside0 (Kd.R (Kd.int .u64) 22 wc w.heap.size (fun _ => True) (.slice Ao18 t450.length co18) t450) ∧ Aside0 (Kd.V (Kd.int .u64) 22 wc w.heap.size (fun k_ => some k_ ≠ ((.slice Ao18 t450.length co18) : Value).ownBlock ∧ k_ ≠ gb447 ∧ k_ ≠ gb448 ∧ k_ ≠ gb449 ∧ k_ ≠ gb456 ∧ k_ ≠ gb457) (.slice Ao24 t453.length co24) t453) ∧ Aside0 (wc.heap[gb447]? = some (.cells #[(.slice A0_0 l0_0.length c0_0)] 67 (0, 0))) ∧ Aside0 (wc.heap[gb448]? = some (.cells #[(.slice A1_0 l1_0.length c1_0)] 67 (0, 0))) ∧ Aside0 (wc.heap[gb449]? = some (.cells #[(.slice none 0 0)] 67 (0, 0))) ∧ Aside0 (wc.heap[gb456]? = some (.cells #[(.slice Ao18 t450.length co18)] 67 (0, 0))) ∧ Aside0 (wc.heap[gb457]? = some (.cells #[(.slice Ao24 t453.length co24)] 67 (0, 0))) ∧ Aside0 (Below w.heap.size w wc))
 case first =>
  have H := HC6.out
  clear HC6
  by_cases c34 : t461 > 0
  ·rw [if_pos c34] at H
   have c34b0 : decide (0 < t461) = true := decide_eq_true c34
   clear c34
   (first | rw [c34b0] | (simp only [i64_w, i32_w]; rw [c34b0]) | skip)
   have H' := A_ H
   clear H
   go_wp2
   go_meet
   case rel => exact ⟨_, (true), sm_, H', ⟨by first | omega | exact Nat.le_refl _⟩, ⟨by (with_reducible repeat (first | apply Kd.R_alloc | apply Kd.R_drewN | apply Kd.R_drew)); exact Kd.R_mono HO452.out (fun _ hk => trivial)⟩, ⟨by (with_reducible repeat (first | apply Kd.V_alloc | apply Kd.V_drewN | apply Kd.V_drew)); exact Kd.V_mono HO455.out (fun _ hk => ⟨hk.1.1, ⟨hk.1.2.1, ⟨hk.1.2.2.1, ⟨hk.1.2.2.2.1, ⟨hk.1.2.2.2.2.1, hk.1.2.2.2.2.2⟩⟩⟩⟩⟩)⟩, ⟨bk_ BK447.out⟩, ⟨bk_ BK448.out⟩, ⟨bk_ BK449.out⟩, ⟨bk_ BK456.out⟩, ⟨bk_ BK457.out⟩, ⟨by repeat (first | (with_reducible first | exact HB.out | apply below_alloc | apply pw_below_drewN | apply below_drew1 | refine below_set ?_ GE447.out | refine below_set ?_ GE448.out | refine below_set ?_ GE449.out | refine below_set ?_ GE456.out | refine below_set ?_ GE457.out) | exact HB.out)⟩⟩
  ·rw [if_neg c34] at H
   have c34b0 : decide (0 < t461) = false := decide_eq_false c34
   clear c34
   (first | rw [c34b0] | (simp only [i64_w, i32_w]; rw [c34b0]) | skip)
   by_cases c35 : t461 = 0
   ·rw [if_pos c35] at H
    have c35b0 : (t461 == 0) = true := beq_iff_eq.mpr c35
    have c35b1 : (t461 != 0) = false := bne_eq_false_iff_eq.mpr c35
    clear c35
    replace H := ob_ H
    obtain ⟨t462, A360, H⟩ := H
    replace H : (r3_Quotient.j0 k ((Int.tmod t462 2) == 1) t450) = some r := H
    have A36 := A_ A360;clear A360
    have H' := A_ H
    clear H
    have hnb37 := NB456_447.out
    have hnc37 := NB447_456.out
    have hnb38 := NB456_448.out
    have hnc38 := NB448_456.out
    have hnb39 := NB456_449.out
    have hnc39 := NB449_456.out
    have hnb40 := NB456_457.out
    have hnc40 := NB457_456.out
    have hcz41_0 := bv_ BK456.out 0
    have hfz41_0 := blk_frozen BK456.out 0
    go_wp2_with (first | (go_at_call 99; (with_reducible refine (r1_Uint.calls _ _ t450 t462 _ ?side1 ?side2 A36.out).mono ?_); (case side1 => exact cs_ ((Kd.R_reads' HO452.out).2.2)); (case side2 => exact (Kd.R_reads' HO452.out).2.1); rintro e w42 ⟨rfl, hb⟩; replace HO452 := A_ (Kd.R_below (kr_ HO452.out) hb); replace HO455 := A_ (Kd.V_below (kv_ HO455.out) hb); replace HO460 := A_ (Kd.R_below (kr_ HO460.out) hb); replace BK447 := A_ (bb_ BK447.out hb); replace BK448 := A_ (bb_ BK448.out hb); replace BK449 := A_ (bb_ BK449.out hb); replace BK456 := A_ (bb_ BK456.out hb); replace BK457 := A_ (bb_ BK457.out hb); replace HB := A_ (below_step (by repeat (first | (with_reducible first | exact HB.out | apply below_alloc | apply pw_below_drewN | apply below_drew1 | refine below_set ?_ GE447.out | refine below_set ?_ GE448.out | refine below_set ?_ GE449.out | refine below_set ?_ GE456.out | refine below_set ?_ GE457.out) | exact HB.out)) hb); (try clear hb); (try clear hb2); (try clear hk); (try clear hi)))
    go_meet
    case rel => exact ⟨_, (((Int.tmod t462 2) == 1)), sm_, H', ⟨by first | omega | exact Nat.le_refl _⟩, ⟨by (with_reducible repeat (first | apply Kd.R_alloc | apply Kd.R_drewN | apply Kd.R_drew)); exact Kd.R_mono HO452.out (fun _ hk => trivial)⟩, ⟨by (with_reducible repeat (first | apply Kd.V_alloc | apply Kd.V_drewN | apply Kd.V_drew)); exact Kd.V_mono HO455.out (fun _ hk => ⟨hk.1.1, ⟨hk.1.2.1, ⟨hk.1.2.2.1, ⟨hk.1.2.2.2.1, ⟨hk.1.2.2.2.2.1, hk.1.2.2.2.2.2⟩⟩⟩⟩⟩)⟩, ⟨bk_ BK447.out⟩, ⟨bk_ BK448.out⟩, ⟨bk_ BK449.out⟩, ⟨bk_ BK456.out⟩, ⟨bk_ BK457.out⟩, ⟨by repeat (first | (with_reducible first | exact HB.out | apply below_alloc | apply pw_below_drewN | apply below_drew1 | refine below_set ?_ GE447.out | refine below_set ?_ GE448.out | refine below_set ?_ GE449.out | refine below_set ?_ GE456.out | refine below_set ?_ GE457.out) | exact HB.out)⟩⟩
   ·rw [if_neg c35] at H
    have c35b0 : (t461 == 0) = false := beq_eq_false_iff_ne.mpr c35
    have c35b1 : (t461 != 0) = true := bne_iff_ne.mpr c35
    have H' := A_ H
    clear H
    go_wp2
    go_meet
    case rel => exact ⟨_, (false), sm_, H', ⟨by first | omega | exact Nat.le_refl _⟩, ⟨by (with_reducible repeat (first | apply Kd.R_alloc | apply Kd.R_drewN | apply Kd.R_drew)); exact Kd.R_mono HO452.out (fun _ hk => trivial)⟩, ⟨by (with_reducible repeat (first | apply Kd.V_alloc | apply Kd.V_drewN | apply Kd.V_drew)); exact Kd.V_mono HO455.out (fun _ hk => ⟨hk.1.1, ⟨hk.1.2.1, ⟨hk.1.2.2.1, ⟨hk.1.2.2.2.1, ⟨hk.1.2.2.2.2.1, hk.1.2.2.2.2.2⟩⟩⟩⟩⟩)⟩, ⟨bk_ BK447.out⟩, ⟨bk_ BK448.out⟩, ⟨bk_ BK449.out⟩, ⟨bk_ BK456.out⟩, ⟨bk_ BK457.out⟩, ⟨by repeat (first | (with_reducible first | exact HB.out | apply below_alloc | apply pw_below_drewN | apply below_drew1 | refine below_set ?_ GE447.out | refine below_set ?_ GE448.out | refine below_set ?_ GE449.out | refine below_set ?_ GE456.out | refine below_set ?_ GE457.out) | exact HB.out)⟩⟩
 case rest =>
  clear HC6
  try clear c1
  try clear c2
  try clear p2
  try clear c3
  try clear c4
  try clear c5
  try clear c6
  try clear c10
  try clear c11
  try clear c13
  try clear c19
  try clear c20
  try clear c21
  try clear c22
  try clear c25
  try clear c26
  try clear c27
  try clear c34
  try clear c34b0
  try clear c35
  try clear c35b0
  try clear c35b1
  try clear c37
  try clear c38
  try clear c39
  try clear c40
  try clear hcz12_0
  try clear hcz14_0
  try clear hcz23_0
  try clear hcz28_0
  try clear hcz41_0
  try clear hfz12_0
  try clear hfz14_0
  try clear hfz23_0
  try clear hfz28_0
  try clear hfz41_0
  obtain ⟨kq, x29_5, rfl, HA, HJ5, HO_457000, HO_458000, BK447, BK448, BK449, BK456, BK457, HB⟩ := hcut
  cases kq with
  | zero => exact absurd HA.out (by simp [r3_Quotient.j0])
  | succ kj5 =>
   have H := HA.out
   clear HA
   simp only [r3_Quotient.j0] at H
   by_cases c43 : x29_5 = true
   ·subst c43
    have H1 : ((r1_Of.f kj5 1).bind fun t463 => ((r1_Add.f kj5 t450 t463).bind fun t466 => (some t466))) = some r := by rw [if_pos rfl] at H; exact H
    clear H;have H := H1;clear H1
    replace H := ob_ H
    obtain ⟨t463, A440, H⟩ := H
    replace H : ((r1_Add.f kj5 t450 t463).bind fun t466 => (some t466)) = some r := H
    have A44 := A_ A440;clear A440
    replace H := ob_ H
    obtain ⟨t466, A450, H⟩ := H
    replace H : (some t466) = some r := H
    have A45 := A_ A450;clear A450
    obtain rfl := Option.some.inj H
    try go_wp2
    replace HO_457000 := A_ (Kd.R_drew HO_457000.out)
    replace HO_458000 := A_ (Kd.V_drew HO_458000.out)
    replace BK447 := A_ (blk_drew BK447.out)
    replace BK448 := A_ (blk_drew BK448.out)
    replace BK449 := A_ (blk_drew BK449.out)
    replace BK456 := A_ (blk_drew BK456.out)
    replace BK457 := A_ (blk_drew BK457.out)
    replace HB := A_ (below_drew1 HB.out)
    refine start_ (n := 4) (S := fun w' => w'.cell? ⟨gb456, 0, none⟩ = some (.slice Ao18 t450.length co18)) (ds := []) #[false, false, false, false] (by kernel_rfl) rfl rfl (bc_ BK456.out 0) (fun hHeld => ?_)
    generalize wc.drew = w46 at HO_457000 HO_458000 BK447 BK448 BK449 BK456 BK457 HB hHeld ⊢
    refine tk1_ 0 (some 30) #[true, false, false, false] rfl rfl (by kernel_rfl) hHeld ?_
    refine one_ (i := 1) (N := some 31) #[true, true, false, false] rfl rfl (by kernel_rfl) (by decide) (fun K hK => ?_)
    refine goes_ Tryd.func57 (by kernel_rfl) rfl #[.int .u64 1] (by rfl) rfl rfl mp_ ?_
    with_reducible refine (r1_Of.calls kj5 1 t463 _ A44.out).mono ?_
    rintro e w47 ⟨v464, rfl, ho0, hb⟩
    refine ⟨_, rfl, ?_⟩
    have HO465 := A_ (Kd.R_lower (Kd.R_new' ho0 (Kd.R_lt (kr_ HO_457000.out))) (below_size (by repeat (first | (with_reducible first | exact HB.out | apply below_alloc | apply pw_below_drewN | apply below_drew1 | refine below_set ?_ GE447.out | refine below_set ?_ GE448.out | refine below_set ?_ GE449.out | refine below_set ?_ GE456.out | refine below_set ?_ GE457.out) | exact HB.out))))
    replace HO_457000 := A_ (Kd.R_elder' (kr_ HO_457000.out) (Kd.R_base ho0) hb)
    replace HO_458000 := A_ (Kd.V_elder' (kv_ HO_458000.out) (Kd.R_base ho0) hb)
    replace BK447 := A_ (bb_ BK447.out hb)
    replace BK448 := A_ (bb_ BK448.out hb)
    replace BK449 := A_ (bb_ BK449.out hb)
    replace BK456 := A_ (bb_ BK456.out hb)
    replace BK457 := A_ (bb_ BK457.out hb)
    replace HB := A_ (below_step (by repeat (first | (with_reducible first | exact HB.out | apply below_alloc | apply pw_below_drewN | apply below_drew1 | refine below_set ?_ GE447.out | refine below_set ?_ GE448.out | refine below_set ?_ GE449.out | refine below_set ?_ GE456.out | refine below_set ?_ GE457.out) | exact HB.out)) hb);(try clear hb);(try clear hb2);(try clear hk);(try clear hi);(try clear ho0)
    obtain ⟨Ao48, co48, eo48⟩ := Kd.R_slice HO465.out
    (first | subst eo48 | (injection eo48 with f1_ f2_ f3_; have f4_ := f1_.symm; have f5_ := f3_.symm; clear f1_ f2_ f3_; subst f4_; subst f5_))
    refine hK.out _ _ (bc_ BK456.out 0) (fun hHeld => ?_)
    clear hK K
    refine norm_ (a' := ?_) ?_ ?_
    rotate_left
    ·show Act.put _ (some 31) _ = _
     simp only [Act.put, lI_, l0_, lS_, i64_w, i32_w]
     rfl
    refine one_ (i := 2) (N := some 32) #[true, true, true, false] rfl rfl (by kernel_rfl) (by decide) (fun K hK => ?_)
    refine goes_ Tryd.func116 (by kernel_rfl) rfl #[.agg #[.slice Ao18 t450.length co18], .agg #[.slice Ao48 t463.length co48]] (by rfl) rfl rfl mp_ ?_
    with_reducible refine (r1_Add.calls kj5 _ _ t450 _ _ t463 t466 _ ?side1 ?side2 ?side3 ?side4 A45.out).mono ?_
    (case side1 => exact cs_ ((Kd.R_reads' HO_457000.out).2.2))
    (case side2 => exact (Kd.R_reads' HO_457000.out).2.1)
    (case side3 => exact cs_ ((Kd.R_reads' HO465.out).2.2))
    (case side4 => exact (Kd.R_reads' HO465.out).2.1)
    rintro e w49 ⟨v467, rfl, ho0, hb⟩
    refine ⟨_, rfl, ?_⟩
    have HO468 := A_ (Kd.R_lower (Kd.R_new' (Kd.R_new' ho0 (Kd.R_lt (kr_ HO_457000.out))) (Kd.R_lt (kr_ HO465.out))) (below_size (by repeat (first | (with_reducible first | exact HB.out | apply below_alloc | apply pw_below_drewN | apply below_drew1 | refine below_set ?_ GE447.out | refine below_set ?_ GE448.out | refine below_set ?_ GE449.out | refine below_set ?_ GE456.out | refine below_set ?_ GE457.out) | exact HB.out))))
    replace HO_457000 := A_ (Kd.R_elder' (kr_ HO_457000.out) (Kd.R_base ho0) hb)
    replace HO_458000 := A_ (Kd.V_elder' (kv_ HO_458000.out) (Kd.R_base ho0) hb)
    replace HO465 := A_ (Kd.R_elder' (kr_ HO465.out) (Kd.R_base ho0) hb)
    replace BK447 := A_ (bb_ BK447.out hb)
    replace BK448 := A_ (bb_ BK448.out hb)
    replace BK449 := A_ (bb_ BK449.out hb)
    replace BK456 := A_ (bb_ BK456.out hb)
    replace BK457 := A_ (bb_ BK457.out hb)
    replace HB := A_ (below_step (by repeat (first | (with_reducible first | exact HB.out | apply below_alloc | apply pw_below_drewN | apply below_drew1 | refine below_set ?_ GE447.out | refine below_set ?_ GE448.out | refine below_set ?_ GE449.out | refine below_set ?_ GE456.out | refine below_set ?_ GE457.out) | exact HB.out)) hb);(try clear hb);(try clear hb2);(try clear hk);(try clear hi);(try clear ho0)
    obtain ⟨Ao50, co50, eo50⟩ := Kd.R_slice HO468.out
    (first | subst eo50 | (injection eo50 with f1_ f2_ f3_; have f4_ := f1_.symm; have f5_ := f3_.symm; clear f1_ f2_ f3_; subst f4_; subst f5_))
    refine hK.out _ _ (bc_ BK456.out 0) (fun hHeld => ?_)
    clear hK K
    refine norm_ (a' := ?_) ?_ ?_
    rotate_left
    ·show Act.put _ (some 32) _ = _
     simp only [Act.put, lI_, l0_, lS_, i64_w, i32_w]
     rfl
    refine one_ (i := 3) (N := none) #[true, true, true, true] rfl rfl (by kernel_rfl) (by decide) (fun K hK => ?_)
    have hs51 : w49.cell? ⟨gb449, 0, none⟩ = some (.slice none 0 0) := bc_ BK449.out 0
    have hfs51 := blk_frozen BK449.out 0
    have hns51_0 := NB447_449.out
    have hns51_1 := NB448_449.out
    have hns51_3 := NB456_449.out
    have hns51_4 := NB457_449.out
    have hms51_0 := NB449_447.out
    have hms51_1 := NB449_448.out
    have hms51_3 := NB449_456.out
    have hms51_4 := NB449_457.out
    refine skip_ (w1 := ?_) (by rfl) rfl ?_ ?_
    rotate_left
    ·go_simp
     rfl
    refine hK.out _ _ (((cell_far (p := ⟨gb449, _, none⟩) NB456_449.out _).trans (hHeld))) (fun hHeld => ?_)
    clear hK K
    refine done_ (by kernel_rfl) ?_
    try go_wp2
    refine bodyPost_ret (results_cell_row rfl _ _ gb449 67 #[.slice Ao50 t466.length co50] (0, 0) _ rfl (by (with_reducible repeat (first | refine blk_drewN ?_ _ | refine blk_drew ?_ | refine blk_alloc ?_ _)); refine blk_put (cs := #[.slice none 0 0]) ?_ 0 _ rfl; (with_reducible repeat (first | refine blk_drewN ?_ _ | refine blk_drew ?_ | refine blk_alloc ?_ _)); exact BK449.out) Tryd.underlying67 rfl (by kernel_rfl)) rfl ?_
    exact ⟨_, by first | rfl | (simp [errW_none, errW_some] <;> rfl) | (simp [*, errW_none, errW_some] <;> rfl), by (with_reducible repeat (first | apply Kd.R_alloc | apply Kd.R_drewN | apply Kd.R_drew)); exact Kd.R_mono (Kd.R_far (p := ⟨gb449, 0, none⟩) (Kd.R_types HO468.out BK449.out (by decide)) (fun _ hk => hk.2) (.slice Ao50 t466.length co50)) (fun _ hk => trivial), by repeat (first | (with_reducible first | exact HB.out | apply below_alloc | apply pw_below_drewN | apply below_drew1 | refine below_set ?_ GE447.out | refine below_set ?_ GE448.out | refine below_set ?_ GE449.out | refine below_set ?_ GE456.out | refine below_set ?_ GE457.out) | exact HB.out)⟩
   ·replace c43 := Bool.eq_false_iff.mpr c43
    subst c43
    have H1 : (some t450) = some r := by rw [if_neg (show ¬ (false = true) by decide)] at H; exact H
    clear H;have H := H1;clear H1
    obtain rfl := Option.some.inj H
    have hnb52 := NB456_447.out
    have hnc52 := NB447_456.out
    have hnb53 := NB456_448.out
    have hnc53 := NB448_456.out
    have hnb54 := NB456_449.out
    have hnc54 := NB449_456.out
    have hnb55 := NB456_457.out
    have hnc55 := NB457_456.out
    have hcz56_0 := bv_ BK456.out 0
    have hfz56_0 := blk_frozen BK456.out 0
    have hnb57 := NB449_447.out
    have hnc57 := NB447_449.out
    have hnb58 := NB449_448.out
    have hnc58 := NB448_449.out
    have hnb59 := NB449_457.out
    have hnc59 := NB457_449.out
    have hcz60_0 := bv_ BK449.out 0
    have hfz60_0 := blk_frozen BK449.out 0
    go_wp2
    refine bodyPost_ret (results_cell_row rfl _ _ gb449 67 #[.slice Ao18 t450.length co18] (0, 0) _ rfl (by (with_reducible repeat (first | refine blk_drewN ?_ _ | refine blk_drew ?_ | refine blk_alloc ?_ _)); refine blk_put (cs := #[.slice none 0 0]) ?_ 0 _ rfl; (with_reducible repeat (first | refine blk_drewN ?_ _ | refine blk_drew ?_ | refine blk_alloc ?_ _)); exact BK449.out) Tryd.underlying67 rfl (by kernel_rfl)) rfl ?_
    exact ⟨_, by first | rfl | (simp [errW_none, errW_some] <;> rfl) | (simp [*, errW_none, errW_some] <;> rfl), by (with_reducible repeat (first | apply Kd.R_alloc | apply Kd.R_drewN | apply Kd.R_drew)); exact Kd.R_mono (Kd.R_far (p := ⟨gb449, 0, none⟩) (Kd.R_types HO_457000.out BK449.out (by decide)) (fun _ hk => hk.2) (.slice Ao18 t450.length co18)) (fun _ hk => trivial), by repeat (first | (with_reducible first | exact HB.out | apply below_alloc | apply pw_below_drewN | apply below_drew1 | refine below_set ?_ GE447.out | refine below_set ?_ GE448.out | refine below_set ?_ GE449.out | refine below_set ?_ GE456.out | refine below_set ?_ GE457.out) | exact HB.out)⟩
def r3_grain.f (k : Nat) (l0_0 : List Int) (l1_0 : List Int) (a2 : Int) : Option (List Int) := if a2 ≥ 0 then ((r1_Shl.f k l0_0 a2).bind fun t472 => ((r3_Quotient.f k t472 l1_0).bind fun t475 => (some t475))) else ((r1_Shl.f k l1_0 (wrap64 (-a2))).bind fun t478 => ((r3_Quotient.f k l0_0 t478).bind fun t481 => (some t481)))
theorem r3_grain.mono : ∀ a0 a1 a2 k, LeO (r3_grain.f k a0 a1 a2) (r3_grain.f (k + 1) a0 a1 a2) := by
 intro a0 a1 a2 k
 unfold r3_grain.f
 repeat' first
   | (with_reducible exact r1_Shl.mono _ _ _)
   | (with_reducible exact r3_Quotient.mono _ _ _)
   | (with_reducible exact LeO.refl _)
   | (with_reducible exact LeO.none _)
   | (with_reducible refine LeO.ite ?_ ?_)
   | (with_reducible refine LeO.bind ?_ (fun _ => ?_))
   | exact r1_Shl.mono _ _ _
   | exact r3_Quotient.mono _ _ _
   | exact LeO.none _
   | refine LeO.ite ?_ ?_
   | refine LeO.bind ?_ (fun _ => ?_)
theorem r3_grain.calls (k : Nat) (A0_0 : Option Addr) (c0_0 : Nat) (l0_0 : List Int) (A1_0 : Option Addr) (c1_0 : Nat) (l1_0 : List Int) (a2 : Int) (r : List Int) (w : World) (hr0_0 : Kd.C (Kd.int .u64) w A0_0 l0_0.length l0_0) (hc0_0 : l0_0.length ≤ c0_0) (hr1_0 : Kd.C (Kd.int .u64) w A1_0 l1_0.length l1_0) (hc1_0 : l1_0.length ≤ c1_0) (h : r3_grain.f k l0_0 l1_0 a2 = some r) :
  Calls Tryd.prog 97 #[.agg #[.slice A0_0 l0_0.length c0_0], .agg #[.slice A1_0 l1_0.length c1_0], .int .i64 a2] w fun e w' => ∃ v0_ : Value, e = .returned (.agg #[v0_]) ∧ Kd.R (Kd.int .u64) 22 w' w.heap.size (fun _ => True) v0_ r ∧ Below w.heap.size w w' := by
 have hu67 := Tryd.underlying67
 have HR0_0 := A_ hr0_0;have HC0_0 := A_ hc0_0;clear hr0_0 hc0_0;have HR1_0 := A_ hr1_0;have HC1_0 := A_ hc1_0;clear hr1_0 hc1_0
 have HB := A_ (Below.refl w.heap.size w)
 have H : (if a2 ≥ 0 then ((r1_Shl.f k l0_0 a2).bind fun t472 => ((r3_Quotient.f k t472 l1_0).bind fun t475 => (some t475))) else ((r1_Shl.f k l1_0 (wrap64 (-a2))).bind fun t478 => ((r3_Quotient.f k l0_0 t478).bind fun t481 => (some t481)))) = some r := h
 clear h
 by_cases c4 : a2 ≥ 0
 ·rw [if_pos c4] at H
  have c4b0 : decide (0 ≤ a2) = true := decide_eq_true c4
  clear c4
  replace H := ob_ H
  obtain ⟨t472, A50, H⟩ := H
  replace H : ((r3_Quotient.f k t472 l1_0).bind fun t475 => (some t475)) = some r := H
  have A5 := A_ A50;clear A50
  replace H := ob_ H
  obtain ⟨t475, A60, H⟩ := H
  replace H : (some t475) = some r := H
  have A6 := A_ A60;clear A60
  obtain rfl := Option.some.inj H
  go_enter Tryd.func97, Tryd.ntmps97
  try go_wp2_with (first | ((with_reducible refine gate_dst (N := 3) rfl ?_); refine be_ 3 #[.slice A0_0 l0_0.length c0_0] 67 ?_; intro gb469 hg w7 hbox hb; have BK469 := A_ (hbox); have GW469 := A_ (sz_ hg (hb_ HB.out)); have GE469 := A_ (sz_ hg (hb_ HB.out)); replace HB := A_ (below_step (hb_ HB.out) hb); clear hb hbox hg) | ((with_reducible refine gate_dst (N := 4) rfl ?_); refine be_ 4 #[.slice A1_0 l1_0.length c1_0] 67 ?_; intro gb470 hg w8 hbox hb; have BK470 := A_ (hbox); have GW470 := A_ (sz_ hg (hb1_ HB.out GE469.out)); have GE470 := A_ (sz_ hg (hb1_ HB.out GE469.out)); have NB469_470 := A_ (nl_ hg BK469.out); have NB470_469 := A_ (ng_ hg BK469.out); replace BK469 := A_ (bb_ BK469.out hb); replace HB := A_ (below_step (hb1_ HB.out GE469.out) hb); clear hb hbox hg) | ((with_reducible refine gate_dst (N := 6) rfl ?_); refine be_ 6 #[.slice none 0 0] 67 ?_; intro gb471 hg w9 hbox hb; have BK471 := A_ (hbox); have GW471 := A_ (sz_ hg (hb2_ HB.out GE469.out GE470.out)); have GE471 := A_ (sz_ hg (hb2_ HB.out GE469.out GE470.out)); have NB469_471 := A_ (nl_ hg BK469.out); have NB471_469 := A_ (ng_ hg BK469.out); have NB470_471 := A_ (nl_ hg BK470.out); have NB471_470 := A_ (ng_ hg BK470.out); replace BK469 := A_ (bb_ BK469.out hb); replace BK470 := A_ (bb_ BK470.out hb); replace HB := A_ (below_step (hb2_ HB.out GE469.out GE470.out) hb); clear hb hbox hg))
  replace BK469 := A_ (blk_drew BK469.out)
  replace BK470 := A_ (blk_drew BK470.out)
  replace BK471 := A_ (blk_drew BK471.out)
  replace HB := A_ (below_drew1 HB.out)
  refine start_ (n := 6) (S := fun w' => w'.cell? ⟨gb469, 0, none⟩ = some (.slice A0_0 l0_0.length c0_0) ∧ w'.cell? ⟨gb470, 0, none⟩ = some (.slice A1_0 l1_0.length c1_0)) (ds := []) #[false, false, false, false, false, false] (by kernel_rfl) rfl rfl ⟨bc_ BK469.out 0, bc_ BK470.out 0⟩ (fun hHeld => ?_)
  generalize w9.drew = w10 at BK469 BK470 BK471 HB hHeld ⊢
  refine pu_ 1 (some 10) #[false, true, false, false, false, false] rfl rfl (by kernel_rfl) ?_
  refine tk2_ 0 (some 9) #[true, true, false, false, false, false] rfl rfl (by kernel_rfl) hHeld ?_
  refine tk2_ 3 (some 12) #[true, true, false, true, false, false] rfl rfl (by kernel_rfl) hHeld ?_
  refine one_ (i := 2) (N := some 11) #[true, true, true, true, false, false] rfl rfl (by kernel_rfl) (by decide) (fun K hK => ?_)
  refine goes_ Tryd.func60 (by kernel_rfl) rfl #[.agg #[.slice A0_0 l0_0.length c0_0], .int .i64 a2] (by rfl) rfl rfl mp_ ?_
  with_reducible refine (r1_Shl.calls k _ _ l0_0 a2 t472 _ ?side1 ?side2 A5.out).mono ?_
  (case side1 => exact cs_ ((Kd.C_below HR0_0.out HB.out)))
  (case side2 => exact HC0_0.out)
  rintro e w11 ⟨v473, rfl, ho0, hb⟩
  refine ⟨_, rfl, ?_⟩
  have HO474 := A_ (Kd.R_lower ho0 (below_size (hb3_ HB.out GE469.out GE470.out GE471.out)))
  replace BK469 := A_ (bb_ BK469.out hb)
  replace BK470 := A_ (bb_ BK470.out hb)
  replace BK471 := A_ (bb_ BK471.out hb)
  replace HB := A_ (below_step (hb3_ HB.out GE469.out GE470.out GE471.out) hb);(try clear hb);(try clear hb2);(try clear hk);(try clear hi);(try clear ho0)
  obtain ⟨Ao12, co12, eo12⟩ := Kd.R_slice HO474.out
  (first | subst eo12 | (injection eo12 with f1_ f2_ f3_; have f4_ := f1_.symm; have f5_ := f3_.symm; clear f1_ f2_ f3_; subst f4_; subst f5_))
  refine hK.out _ _ ⟨bc_ BK469.out 0, bc_ BK470.out 0⟩ (fun hHeld => ?_)
  clear hK K
  refine norm_ (a' := ?_) ?_ ?_
  rotate_left
  ·show Act.put _ (some 11) _ = _
   simp only [Act.put, lI_, l0_, lS_, i64_w, i32_w]
   rfl
  refine one_ (i := 4) (N := some 13) #[true, true, true, true, true, false] rfl rfl (by kernel_rfl) (by decide) (fun K hK => ?_)
  refine goes_ Tryd.func109 (by kernel_rfl) rfl #[.agg #[.slice Ao12 t472.length co12], .agg #[.slice A1_0 l1_0.length c1_0]] (by rfl) rfl rfl mp_ ?_
  with_reducible refine (r3_Quotient.calls k _ _ t472 _ _ l1_0 t475 _ ?side1 ?side2 ?side3 ?side4 A6.out).mono ?_
  (case side1 => exact cs_ ((Kd.R_reads' HO474.out).2.2))
  (case side2 => exact (Kd.R_reads' HO474.out).2.1)
  (case side3 => exact cs_ ((Kd.C_below HR1_0.out HB.out)))
  (case side4 => exact HC1_0.out)
  rintro e w13 ⟨v476, rfl, ho0, hb⟩
  refine ⟨_, rfl, ?_⟩
  have HO477 := A_ (Kd.R_lower (Kd.R_new' ho0 (Kd.R_lt (kr_ HO474.out))) (below_size (hb3_ HB.out GE469.out GE470.out GE471.out)))
  replace HO474 := A_ (Kd.R_elder' (kr_ HO474.out) (Kd.R_base ho0) hb)
  replace BK469 := A_ (bb_ BK469.out hb)
  replace BK470 := A_ (bb_ BK470.out hb)
  replace BK471 := A_ (bb_ BK471.out hb)
  replace HB := A_ (below_step (hb3_ HB.out GE469.out GE470.out GE471.out) hb);(try clear hb);(try clear hb2);(try clear hk);(try clear hi);(try clear ho0)
  obtain ⟨Ao14, co14, eo14⟩ := Kd.R_slice HO477.out
  (first | subst eo14 | (injection eo14 with f1_ f2_ f3_; have f4_ := f1_.symm; have f5_ := f3_.symm; clear f1_ f2_ f3_; subst f4_; subst f5_))
  refine hK.out _ _ ⟨bc_ BK469.out 0, bc_ BK470.out 0⟩ (fun hHeld => ?_)
  clear hK K
  refine norm_ (a' := ?_) ?_ ?_
  rotate_left
  ·show Act.put _ (some 13) _ = _
   simp only [Act.put, lI_, l0_, lS_, i64_w, i32_w]
   rfl
  refine one_ (i := 5) (N := none) #[true, true, true, true, true, true] rfl rfl (by kernel_rfl) (by decide) (fun K hK => ?_)
  have hs15 : w13.cell? ⟨gb471, 0, none⟩ = some (.slice none 0 0) := bc_ BK471.out 0
  have hfs15 := blk_frozen BK471.out 0
  have hns15_0 := NB469_471.out
  have hns15_1 := NB470_471.out
  have hms15_0 := NB471_469.out
  have hms15_1 := NB471_470.out
  refine skip_ (w1 := ?_) (by rfl) rfl ?_ ?_
  rotate_left
  ·go_simp
   rfl
  refine hK.out _ _ ⟨((cell_far (p := ⟨gb471, _, none⟩) NB469_471.out _).trans (hHeld.1)), ((cell_far (p := ⟨gb471, _, none⟩) NB470_471.out _).trans (hHeld.2))⟩ (fun hHeld => ?_)
  clear hK K
  refine done_ (by kernel_rfl) ?_
  try go_wp2
  refine bodyPost_ret (results_cell_row rfl _ _ gb471 67 #[.slice Ao14 t475.length co14] (0, 0) _ rfl (by (with_reducible repeat (first | refine blk_drewN ?_ _ | refine blk_drew ?_ | refine blk_alloc ?_ _)); refine blk_put (cs := #[.slice none 0 0]) ?_ 0 _ rfl; (with_reducible repeat (first | refine blk_drewN ?_ _ | refine blk_drew ?_ | refine blk_alloc ?_ _)); exact BK471.out) Tryd.underlying67 rfl (by kernel_rfl)) rfl ?_
  exact ⟨_, by first | rfl | (simp [errW_none, errW_some] <;> rfl) | (simp [*, errW_none, errW_some] <;> rfl), by (with_reducible repeat (first | apply Kd.R_alloc | apply Kd.R_drewN | apply Kd.R_drew)); exact Kd.R_mono (Kd.R_far (p := ⟨gb471, 0, none⟩) (Kd.R_types HO477.out BK471.out (by decide)) (fun _ hk => hk.2) (.slice Ao14 t475.length co14)) (fun _ hk => trivial), hb3_ HB.out GE469.out GE470.out GE471.out⟩
 ·rw [if_neg c4] at H
  have c4b0 : decide (0 ≤ a2) = false := decide_eq_false c4
  clear c4
  replace H := ob_ H
  obtain ⟨t478, A160, H⟩ := H
  replace H : ((r3_Quotient.f k l0_0 t478).bind fun t481 => (some t481)) = some r := H
  have A16 := A_ A160;clear A160
  replace H := ob_ H
  obtain ⟨t481, A170, H⟩ := H
  replace H : (some t481) = some r := H
  have A17 := A_ A170;clear A170
  obtain rfl := Option.some.inj H
  go_enter Tryd.func97, Tryd.ntmps97
  try go_wp2_with (first | ((with_reducible refine gate_dst (N := 3) rfl ?_); refine be_ 3 #[.slice A0_0 l0_0.length c0_0] 67 ?_; intro gb469 hg w18 hbox hb; have BK469 := A_ (hbox); have GW469 := A_ (sz_ hg (hb_ HB.out)); have GE469 := A_ (sz_ hg (hb_ HB.out)); replace HB := A_ (below_step (hb_ HB.out) hb); clear hb hbox hg) | ((with_reducible refine gate_dst (N := 4) rfl ?_); refine be_ 4 #[.slice A1_0 l1_0.length c1_0] 67 ?_; intro gb470 hg w19 hbox hb; have BK470 := A_ (hbox); have GW470 := A_ (sz_ hg (hb1_ HB.out GE469.out)); have GE470 := A_ (sz_ hg (hb1_ HB.out GE469.out)); have NB469_470 := A_ (nl_ hg BK469.out); have NB470_469 := A_ (ng_ hg BK469.out); replace BK469 := A_ (bb_ BK469.out hb); replace HB := A_ (below_step (hb1_ HB.out GE469.out) hb); clear hb hbox hg) | ((with_reducible refine gate_dst (N := 6) rfl ?_); refine be_ 6 #[.slice none 0 0] 67 ?_; intro gb471 hg w20 hbox hb; have BK471 := A_ (hbox); have GW471 := A_ (sz_ hg (hb2_ HB.out GE469.out GE470.out)); have GE471 := A_ (sz_ hg (hb2_ HB.out GE469.out GE470.out)); have NB469_471 := A_ (nl_ hg BK469.out); have NB471_469 := A_ (ng_ hg BK469.out); have NB470_471 := A_ (nl_ hg BK470.out); have NB471_470 := A_ (ng_ hg BK470.out); replace BK469 := A_ (bb_ BK469.out hb); replace BK470 := A_ (bb_ BK470.out hb); replace HB := A_ (below_step (hb2_ HB.out GE469.out GE470.out) hb); clear hb hbox hg))
  replace BK469 := A_ (blk_drew BK469.out)
  replace BK470 := A_ (blk_drew BK470.out)
  replace BK471 := A_ (blk_drew BK471.out)
  replace HB := A_ (below_drew1 HB.out)
  refine start_ (n := 7) (S := fun w' => w'.cell? ⟨gb469, 0, none⟩ = some (.slice A0_0 l0_0.length c0_0) ∧ w'.cell? ⟨gb470, 0, none⟩ = some (.slice A1_0 l1_0.length c1_0)) (ds := []) #[false, false, false, false, false, false, false] (by kernel_rfl) rfl rfl ⟨bc_ BK469.out 0, bc_ BK470.out 0⟩ (fun hHeld => ?_)
  generalize w20.drew = w21 at BK469 BK470 BK471 HB hHeld ⊢
  refine pu_ 2 (some 16) #[false, false, true, false, false, false, false] rfl rfl (by kernel_rfl) ?_
  refine pu_ 3 (some 17) #[false, false, true, true, false, false, false] rfl rfl (by kernel_rfl) ?_
  refine tk2_ 0 (some 14) #[true, false, true, true, false, false, false] rfl rfl (by kernel_rfl) hHeld ?_
  refine tk2_ 1 (some 15) #[true, true, true, true, false, false, false] rfl rfl (by kernel_rfl) hHeld ?_
  refine one_ (i := 4) (N := some 18) #[true, true, true, true, true, false, false] rfl rfl (by kernel_rfl) (by decide) (fun K hK => ?_)
  refine goes_ Tryd.func60 (by kernel_rfl) rfl #[.agg #[.slice A1_0 l1_0.length c1_0], .int .i64 (wrap64 (-a2))] (by rfl) rfl rfl mp_ ?_
  with_reducible refine (r1_Shl.calls k _ _ l1_0 (wrap64 (-a2)) t478 _ ?side1 ?side2 A16.out).mono ?_
  (case side1 => exact cs_ ((Kd.C_below HR1_0.out HB.out)))
  (case side2 => exact HC1_0.out)
  rintro e w22 ⟨v479, rfl, ho0, hb⟩
  refine ⟨_, rfl, ?_⟩
  have HO480 := A_ (Kd.R_lower ho0 (below_size (hb3_ HB.out GE469.out GE470.out GE471.out)))
  replace BK469 := A_ (bb_ BK469.out hb)
  replace BK470 := A_ (bb_ BK470.out hb)
  replace BK471 := A_ (bb_ BK471.out hb)
  replace HB := A_ (below_step (hb3_ HB.out GE469.out GE470.out GE471.out) hb);(try clear hb);(try clear hb2);(try clear hk);(try clear hi);(try clear ho0)
  obtain ⟨Ao23, co23, eo23⟩ := Kd.R_slice HO480.out
  (first | subst eo23 | (injection eo23 with f1_ f2_ f3_; have f4_ := f1_.symm; have f5_ := f3_.symm; clear f1_ f2_ f3_; subst f4_; subst f5_))
  refine hK.out _ _ ⟨bc_ BK469.out 0, bc_ BK470.out 0⟩ (fun hHeld => ?_)
  clear hK K
  refine norm_ (a' := ?_) ?_ ?_
  rotate_left
  ·show Act.put _ (some 18) _ = _
   simp only [Act.put, lI_, l0_, lS_, i64_w, i32_w]
   rfl
  refine one_ (i := 5) (N := some 19) #[true, true, true, true, true, true, false] rfl rfl (by kernel_rfl) (by decide) (fun K hK => ?_)
  refine goes_ Tryd.func109 (by kernel_rfl) rfl #[.agg #[.slice A0_0 l0_0.length c0_0], .agg #[.slice Ao23 t478.length co23]] (by rfl) rfl rfl mp_ ?_
  with_reducible refine (r3_Quotient.calls k _ _ l0_0 _ _ t478 t481 _ ?side1 ?side2 ?side3 ?side4 A17.out).mono ?_
  (case side1 => exact cs_ ((Kd.C_below HR0_0.out HB.out)))
  (case side2 => exact HC0_0.out)
  (case side3 => exact cs_ ((Kd.R_reads' HO480.out).2.2))
  (case side4 => exact (Kd.R_reads' HO480.out).2.1)
  rintro e w24 ⟨v482, rfl, ho0, hb⟩
  refine ⟨_, rfl, ?_⟩
  have HO483 := A_ (Kd.R_lower (Kd.R_new' ho0 (Kd.R_lt (kr_ HO480.out))) (below_size (hb3_ HB.out GE469.out GE470.out GE471.out)))
  replace HO480 := A_ (Kd.R_elder' (kr_ HO480.out) (Kd.R_base ho0) hb)
  replace BK469 := A_ (bb_ BK469.out hb)
  replace BK470 := A_ (bb_ BK470.out hb)
  replace BK471 := A_ (bb_ BK471.out hb)
  replace HB := A_ (below_step (hb3_ HB.out GE469.out GE470.out GE471.out) hb);(try clear hb);(try clear hb2);(try clear hk);(try clear hi);(try clear ho0)
  obtain ⟨Ao25, co25, eo25⟩ := Kd.R_slice HO483.out
  (first | subst eo25 | (injection eo25 with f1_ f2_ f3_; have f4_ := f1_.symm; have f5_ := f3_.symm; clear f1_ f2_ f3_; subst f4_; subst f5_))
  refine hK.out _ _ ⟨bc_ BK469.out 0, bc_ BK470.out 0⟩ (fun hHeld => ?_)
  clear hK K
  refine norm_ (a' := ?_) ?_ ?_
  rotate_left
  ·show Act.put _ (some 19) _ = _
   simp only [Act.put, lI_, l0_, lS_, i64_w, i32_w]
   rfl
  refine one_ (i := 6) (N := none) #[true, true, true, true, true, true, true] rfl rfl (by kernel_rfl) (by decide) (fun K hK => ?_)
  have hs26 : w24.cell? ⟨gb471, 0, none⟩ = some (.slice none 0 0) := bc_ BK471.out 0
  have hfs26 := blk_frozen BK471.out 0
  have hns26_0 := NB469_471.out
  have hns26_1 := NB470_471.out
  have hms26_0 := NB471_469.out
  have hms26_1 := NB471_470.out
  refine skip_ (w1 := ?_) (by rfl) rfl ?_ ?_
  rotate_left
  ·go_simp
   rfl
  refine hK.out _ _ ⟨((cell_far (p := ⟨gb471, _, none⟩) NB469_471.out _).trans (hHeld.1)), ((cell_far (p := ⟨gb471, _, none⟩) NB470_471.out _).trans (hHeld.2))⟩ (fun hHeld => ?_)
  clear hK K
  refine done_ (by kernel_rfl) ?_
  try go_wp2
  refine bodyPost_ret (results_cell_row rfl _ _ gb471 67 #[.slice Ao25 t481.length co25] (0, 0) _ rfl (by (with_reducible repeat (first | refine blk_drewN ?_ _ | refine blk_drew ?_ | refine blk_alloc ?_ _)); refine blk_put (cs := #[.slice none 0 0]) ?_ 0 _ rfl; (with_reducible repeat (first | refine blk_drewN ?_ _ | refine blk_drew ?_ | refine blk_alloc ?_ _)); exact BK471.out) Tryd.underlying67 rfl (by kernel_rfl)) rfl ?_
  exact ⟨_, by first | rfl | (simp [errW_none, errW_some] <;> rfl) | (simp [*, errW_none, errW_some] <;> rfl), by (with_reducible repeat (first | apply Kd.R_alloc | apply Kd.R_drewN | apply Kd.R_drew)); exact Kd.R_mono (Kd.R_far (p := ⟨gb471, 0, none⟩) (Kd.R_types HO483.out BK471.out (by decide)) (fun _ hk => hk.2) (.slice Ao25 t481.length co25)) (fun _ hk => trivial), hb3_ HB.out GE469.out GE470.out GE471.out⟩
def r3_under.f (k : Nat) (l0_0 : List Int) (l1_0 : List Int) (a2 : Int) : Option (Bool) := if a2 ≥ 0 then ((r1_Shl.f k l0_0 a2).bind fun t389 => ((r1_Cmp.f k t389 l1_0).bind fun t392 => (some (decide (t392 < 0))))) else ((r1_Shl.f k l1_0 (wrap64 (-a2))).bind fun t393 => ((r1_Cmp.f k l0_0 t393).bind fun t396 => (some (decide (t396 < 0)))))
theorem r3_under.mono : ∀ a0 a1 a2 k, LeO (r3_under.f k a0 a1 a2) (r3_under.f (k + 1) a0 a1 a2) := by
 intro a0 a1 a2 k
 unfold r3_under.f
 repeat' first
   | (with_reducible exact r1_Cmp.mono _ _ _)
   | (with_reducible exact r1_Shl.mono _ _ _)
   | (with_reducible exact LeO.refl _)
   | (with_reducible exact LeO.none _)
   | (with_reducible refine LeO.ite ?_ ?_)
   | (with_reducible refine LeO.bind ?_ (fun _ => ?_))
   | exact r1_Cmp.mono _ _ _
   | exact r1_Shl.mono _ _ _
   | exact LeO.none _
   | refine LeO.ite ?_ ?_
   | refine LeO.bind ?_ (fun _ => ?_)
def r3_under.T3 : Bool × List (List Nat × List Nat) := (true, [([], []), ([], []), ([], []), ([2], [2]), ([1, 3], [1, 3]), ([0, 4, 4], [0, 4]), ([5], [5]), ([6, 5, 0, 1, 2, 3, 4, 5, 6], [6])])
def r3_under.B3 : List Nat := [0, 0, 0, 4, 14, 31, 63, 127]
theorem r3_under.tab3 : rtab .any (opsOf Tryd.f96 3) = r3_under.T3 := by kernel_rfl
theorem r3_under.bits3 : waitsOk r3_under.T3.2 r3_under.B3 = true := by kernel_rfl
theorem r3_under.calls (k : Nat) (A0_0 : Option Addr) (c0_0 : Nat) (l0_0 : List Int) (A1_0 : Option Addr) (c1_0 : Nat) (l1_0 : List Int) (a2 : Int) (r : Bool) (w : World) (hr0_0 : Kd.C (Kd.int .u64) w A0_0 l0_0.length l0_0) (hc0_0 : l0_0.length ≤ c0_0) (hr1_0 : Kd.C (Kd.int .u64) w A1_0 l1_0.length l1_0) (hc1_0 : l1_0.length ≤ c1_0) (h : r3_under.f k l0_0 l1_0 a2 = some r) :
  Calls Tryd.prog 96 #[.agg #[.slice A0_0 l0_0.length c0_0], .agg #[.slice A1_0 l1_0.length c1_0], .int .i64 a2] w fun e w' => e = .returned (.bool r) ∧ Below w.heap.size w w' := by
 have hu67 := Tryd.underlying67
 have HR0_0 := A_ hr0_0;have HC0_0 := A_ hc0_0;clear hr0_0 hc0_0;have HR1_0 := A_ hr1_0;have HC1_0 := A_ hc1_0;clear hr1_0 hc1_0
 have HB := A_ (Below.refl w.heap.size w)
 have H : (if a2 ≥ 0 then ((r1_Shl.f k l0_0 a2).bind fun t389 => ((r1_Cmp.f k t389 l1_0).bind fun t392 => (some (decide (t392 < 0))))) else ((r1_Shl.f k l1_0 (wrap64 (-a2))).bind fun t393 => ((r1_Cmp.f k l0_0 t393).bind fun t396 => (some (decide (t396 < 0)))))) = some r := h
 clear h
 by_cases c4 : a2 ≥ 0
 ·rw [if_pos c4] at H
  have c4b0 : decide (0 ≤ a2) = true := decide_eq_true c4
  clear c4
  replace H := ob_ H
  obtain ⟨t389, A50, H⟩ := H
  replace H : ((r1_Cmp.f k t389 l1_0).bind fun t392 => (some (decide (t392 < 0)))) = some r := H
  have A5 := A_ A50;clear A50
  replace H := ob_ H
  obtain ⟨t392, A60, H⟩ := H
  replace H : (some (decide (t392 < 0))) = some r := H
  have A6 := A_ A60;clear A60
  obtain rfl := Option.some.inj H
  go_enter Tryd.func96, Tryd.ntmps96
  try go_wp2_with (first | ((with_reducible refine gate_dst (N := 3) rfl ?_); refine be_ 3 #[.slice A0_0 l0_0.length c0_0] 67 ?_; intro gb387 hg w7 hbox hb; have BK387 := A_ (hbox); have GW387 := A_ (sz_ hg (hb_ HB.out)); have GE387 := A_ (sz_ hg (hb_ HB.out)); replace HB := A_ (below_step (hb_ HB.out) hb); clear hb hbox hg) | ((with_reducible refine gate_dst (N := 4) rfl ?_); refine be_ 4 #[.slice A1_0 l1_0.length c1_0] 67 ?_; intro gb388 hg w8 hbox hb; have BK388 := A_ (hbox); have GW388 := A_ (sz_ hg (hb1_ HB.out GE387.out)); have GE388 := A_ (sz_ hg (hb1_ HB.out GE387.out)); have NB387_388 := A_ (nl_ hg BK387.out); have NB388_387 := A_ (ng_ hg BK387.out); replace BK387 := A_ (bb_ BK387.out hb); replace HB := A_ (below_step (hb1_ HB.out GE387.out) hb); clear hb hbox hg))
  replace BK387 := A_ (blk_drew BK387.out)
  replace BK388 := A_ (blk_drew BK388.out)
  replace HB := A_ (below_drew1 HB.out)
  refine start_ (n := 7) (S := fun w' => w'.cell? ⟨gb387, 0, none⟩ = some (.slice A0_0 l0_0.length c0_0) ∧ w'.cell? ⟨gb388, 0, none⟩ = some (.slice A1_0 l1_0.length c1_0)) (ds := []) #[false, false, false, false, false, false, false] (by kernel_rfl) rfl rfl ⟨bc_ BK387.out 0, bc_ BK388.out 0⟩ (fun hHeld => ?_)
  generalize w8.drew = w9 at BK387 BK388 HB hHeld ⊢
  refine pu_ 1 (some 10) #[false, true, false, false, false, false, false] rfl rfl (by kernel_rfl) ?_
  refine tk2_ 0 (some 9) #[true, true, false, false, false, false, false] rfl rfl (by kernel_rfl) hHeld ?_
  refine tk2_ 3 (some 12) #[true, true, false, true, false, false, false] rfl rfl (by kernel_rfl) hHeld ?_
  refine one_ (i := 2) (N := some 11) #[true, true, true, true, false, false, false] rfl rfl (by kernel_rfl) (by decide) (fun K hK => ?_)
  refine goes_ Tryd.func60 (by kernel_rfl) rfl #[.agg #[.slice A0_0 l0_0.length c0_0], .int .i64 a2] (by rfl) rfl rfl mp_ ?_
  with_reducible refine (r1_Shl.calls k _ _ l0_0 a2 t389 _ ?side1 ?side2 A5.out).mono ?_
  (case side1 => exact cs_ ((Kd.C_below HR0_0.out HB.out)))
  (case side2 => exact HC0_0.out)
  rintro e w10 ⟨v390, rfl, ho0, hb⟩
  refine ⟨_, rfl, ?_⟩
  have HO391 := A_ (Kd.R_lower ho0 (below_size (hb2_ HB.out GE387.out GE388.out)))
  replace BK387 := A_ (bb_ BK387.out hb)
  replace BK388 := A_ (bb_ BK388.out hb)
  replace HB := A_ (below_step (hb2_ HB.out GE387.out GE388.out) hb);(try clear hb);(try clear hb2);(try clear hk);(try clear hi);(try clear ho0)
  obtain ⟨Ao11, co11, eo11⟩ := Kd.R_slice HO391.out
  (first | subst eo11 | (injection eo11 with f1_ f2_ f3_; have f4_ := f1_.symm; have f5_ := f3_.symm; clear f1_ f2_ f3_; subst f4_; subst f5_))
  refine hK.out _ _ ⟨bc_ BK387.out 0, bc_ BK388.out 0⟩ (fun hHeld => ?_)
  clear hK K
  refine norm_ (a' := ?_) ?_ ?_
  rotate_left
  ·show Act.put _ (some 11) _ = _
   simp only [Act.put, lI_, l0_, lS_, i64_w, i32_w]
   rfl
  refine one_ (i := 4) (N := some 13) #[true, true, true, true, true, false, false] rfl rfl (by kernel_rfl) (by decide) (fun K hK => ?_)
  refine goes_ Tryd.func59 (by kernel_rfl) rfl #[.agg #[.slice Ao11 t389.length co11], .agg #[.slice A1_0 l1_0.length c1_0]] (by rfl) rfl rfl mp_ ?_
  with_reducible refine (r1_Cmp.calls k _ _ t389 _ _ l1_0 t392 _ ?side1 ?side2 ?side3 ?side4 A6.out).mono ?_
  (case side1 => exact cs_ ((Kd.R_reads' HO391.out).2.2))
  (case side2 => exact (Kd.R_reads' HO391.out).2.1)
  (case side3 => exact cs_ ((Kd.C_below HR1_0.out HB.out)))
  (case side4 => exact HC1_0.out)
  rintro e w12 ⟨rfl, hb⟩
  refine ⟨_, rfl, ?_⟩
  replace HO391 := A_ (Kd.R_below (kr_ HO391.out) hb)
  replace BK387 := A_ (bb_ BK387.out hb)
  replace BK388 := A_ (bb_ BK388.out hb)
  replace HB := A_ (below_step (hb2_ HB.out GE387.out GE388.out) hb);(try clear hb);(try clear hb2);(try clear hk);(try clear hi)
  refine hK.out _ _ ⟨bc_ BK387.out 0, bc_ BK388.out 0⟩ (fun hHeld => ?_)
  clear hK K
  refine norm_ (a' := ?_) ?_ ?_
  rotate_left
  ·show Act.put _ (some 13) _ = _
   simp only [Act.put, lI_, l0_, lS_, i64_w, i32_w]
   rfl
  refine pu_ 5 (some 14) #[true, true, true, true, true, true, false] rfl rfl (by kernel_rfl) ?_
  refine pu_ 6 (some 6) #[true, true, true, true, true, true, true] rfl rfl (by kernel_rfl) ?_
  refine done_ (by kernel_rfl) ?_
  try go_wp2
  go_ret
  exact ⟨er_, hb2_ HB.out GE387.out GE388.out⟩
 ·rw [if_neg c4] at H
  have c4b0 : decide (0 ≤ a2) = false := decide_eq_false c4
  clear c4
  replace H := ob_ H
  obtain ⟨t393, A130, H⟩ := H
  replace H : ((r1_Cmp.f k l0_0 t393).bind fun t396 => (some (decide (t396 < 0)))) = some r := H
  have A13 := A_ A130;clear A130
  replace H := ob_ H
  obtain ⟨t396, A140, H⟩ := H
  replace H : (some (decide (t396 < 0))) = some r := H
  have A14 := A_ A140;clear A140
  obtain rfl := Option.some.inj H
  go_enter Tryd.func96, Tryd.ntmps96
  try go_wp2_with (first | ((with_reducible refine gate_dst (N := 3) rfl ?_); refine be_ 3 #[.slice A0_0 l0_0.length c0_0] 67 ?_; intro gb387 hg w15 hbox hb; have BK387 := A_ (hbox); have GW387 := A_ (sz_ hg (hb_ HB.out)); have GE387 := A_ (sz_ hg (hb_ HB.out)); replace HB := A_ (below_step (hb_ HB.out) hb); clear hb hbox hg) | ((with_reducible refine gate_dst (N := 4) rfl ?_); refine be_ 4 #[.slice A1_0 l1_0.length c1_0] 67 ?_; intro gb388 hg w16 hbox hb; have BK388 := A_ (hbox); have GW388 := A_ (sz_ hg (hb1_ HB.out GE387.out)); have GE388 := A_ (sz_ hg (hb1_ HB.out GE387.out)); have NB387_388 := A_ (nl_ hg BK387.out); have NB388_387 := A_ (ng_ hg BK387.out); replace BK387 := A_ (bb_ BK387.out hb); replace HB := A_ (below_step (hb1_ HB.out GE387.out) hb); clear hb hbox hg))
  replace BK387 := A_ (blk_drew BK387.out)
  replace BK388 := A_ (blk_drew BK388.out)
  replace HB := A_ (below_drew1 HB.out)
  refine start_ (n := 8) (S := fun w' => w'.cell? ⟨gb387, 0, none⟩ = some (.slice A0_0 l0_0.length c0_0) ∧ w'.cell? ⟨gb388, 0, none⟩ = some (.slice A1_0 l1_0.length c1_0)) (ds := []) #[false, false, false, false, false, false, false, false] (by kernel_rfl) rfl rfl ⟨bc_ BK387.out 0, bc_ BK388.out 0⟩ (fun hHeld => ?_); refine with_tabW r3_under.tab3 r3_under.bits3 (fun HT_ HW_ => ?_)
  generalize w16.drew = w17 at BK387 BK388 HB hHeld ⊢
  refine pu_ 2 (some 17) #[false, false, true, false, false, false, false, false] rfl rfl (any_of HT_.out (by kernel_rfl)) ?_
  refine pu_ 3 (some 18) #[false, false, true, true, false, false, false, false] rfl rfl (any_of HT_.out (by kernel_rfl)) ?_
  refine tk2_ 0 (some 15) #[true, false, true, true, false, false, false, false] rfl rfl (take_ofW HT_.out HW_.out (by kernel_rfl)) hHeld ?_
  refine tk2_ 1 (some 16) #[true, true, true, true, false, false, false, false] rfl rfl (take_ofW HT_.out HW_.out (by kernel_rfl)) hHeld ?_
  refine one_ (i := 4) (N := some 19) #[true, true, true, true, true, false, false, false] rfl rfl (one_of HT_.out (by kernel_rfl)) (by decide) (fun K hK => ?_)
  refine goes_ Tryd.func60 (by kernel_rfl) rfl #[.agg #[.slice A1_0 l1_0.length c1_0], .int .i64 (wrap64 (-a2))] (by rfl) rfl rfl mp_ ?_
  with_reducible refine (r1_Shl.calls k _ _ l1_0 (wrap64 (-a2)) t393 _ ?side1 ?side2 A13.out).mono ?_
  (case side1 => exact cs_ ((Kd.C_below HR1_0.out HB.out)))
  (case side2 => exact HC1_0.out)
  rintro e w18 ⟨v394, rfl, ho0, hb⟩
  refine ⟨_, rfl, ?_⟩
  have HO395 := A_ (Kd.R_lower ho0 (below_size (hb2_ HB.out GE387.out GE388.out)))
  replace BK387 := A_ (bb_ BK387.out hb)
  replace BK388 := A_ (bb_ BK388.out hb)
  replace HB := A_ (below_step (hb2_ HB.out GE387.out GE388.out) hb);(try clear hb);(try clear hb2);(try clear hk);(try clear hi);(try clear ho0)
  obtain ⟨Ao19, co19, eo19⟩ := Kd.R_slice HO395.out
  (first | subst eo19 | (injection eo19 with f1_ f2_ f3_; have f4_ := f1_.symm; have f5_ := f3_.symm; clear f1_ f2_ f3_; subst f4_; subst f5_))
  refine hK.out _ _ ⟨bc_ BK387.out 0, bc_ BK388.out 0⟩ (fun hHeld => ?_)
  clear hK K
  refine norm_ (a' := ?_) ?_ ?_
  rotate_left
  ·show Act.put _ (some 19) _ = _
   simp only [Act.put, lI_, l0_, lS_, i64_w, i32_w]
   rfl
  refine one_ (i := 5) (N := some 20) #[true, true, true, true, true, true, false, false] rfl rfl (one_of HT_.out (by kernel_rfl)) (by decide) (fun K hK => ?_)
  refine goes_ Tryd.func59 (by kernel_rfl) rfl #[.agg #[.slice A0_0 l0_0.length c0_0], .agg #[.slice Ao19 t393.length co19]] (by rfl) rfl rfl mp_ ?_
  with_reducible refine (r1_Cmp.calls k _ _ l0_0 _ _ t393 t396 _ ?side1 ?side2 ?side3 ?side4 A14.out).mono ?_
  (case side1 => exact cs_ ((Kd.C_below HR0_0.out HB.out)))
  (case side2 => exact HC0_0.out)
  (case side3 => exact cs_ ((Kd.R_reads' HO395.out).2.2))
  (case side4 => exact (Kd.R_reads' HO395.out).2.1)
  rintro e w20 ⟨rfl, hb⟩
  refine ⟨_, rfl, ?_⟩
  replace HO395 := A_ (Kd.R_below (kr_ HO395.out) hb)
  replace BK387 := A_ (bb_ BK387.out hb)
  replace BK388 := A_ (bb_ BK388.out hb)
  replace HB := A_ (below_step (hb2_ HB.out GE387.out GE388.out) hb);(try clear hb);(try clear hb2);(try clear hk);(try clear hi)
  refine hK.out _ _ ⟨bc_ BK387.out 0, bc_ BK388.out 0⟩ (fun hHeld => ?_)
  clear hK K
  refine norm_ (a' := ?_) ?_ ?_
  rotate_left
  ·show Act.put _ (some 20) _ = _
   simp only [Act.put, lI_, l0_, lS_, i64_w, i32_w]
   rfl
  refine pu_ 6 (some 21) #[true, true, true, true, true, true, true, false] rfl rfl (any_of HT_.out (by kernel_rfl)) ?_
  refine pu_ 7 (some 6) #[true, true, true, true, true, true, true, true] rfl rfl (any_of HT_.out (by kernel_rfl)) ?_
  refine done_ (done_of HT_.out (by kernel_rfl)) ?_
  try go_wp2
  go_ret
  exact ⟨er_, hb2_ HB.out GE387.out GE388.out⟩
end Go.Proofs.YthdeeoallfbjmaaDoor.PA
