/- What the Go functions that the statement ProductMuls reaches compute, and the mathematics on it, in the order in which one leans on the other; for every input. -/
import Derived.Test.YtgcgheilbngcoaaVProductMuls0
import Derived.Test.YtgcgheilbngcoaaMProductMuls0
import Derived.Test.YtgcgheilbngcoaaMProductMuls1
import Derived.Test.YtgcgheilbngcoaaMProductMuls3
import Derived.Test.YtgcgheilbngcoaaMProductMuls2
import Derived.Test.YtgcgheilbngcoaaRows
import Derived.ProofKit
import Derived.JoinedOf
import Derived.KernelRfl
namespace Go.Proofs.Ytgcgheilbngcoaa.PA
open Go.RowKit Go.Proofs.YtgcgheilbngcoaaW.PrintWords Go.Proofs.YtgcgheilbngcoaaW.PrintLast Go.Proofs.YtgcgheilbngcoaaW.PrintMore
attribute [local go_sem] max2_int min2_int max_two min_two max_three min_three max_four min_four   -- for this text's walks alone
set_option linter.unusedVariables false
set_option linter.unusedSimpArgs false
set_option maxHeartbeats 8000000
set_option maxRecDepth 100000
def r3_Quotient.j0 : Nat → Bool → List Int → Option (List Int)
 | 0, _, _ => none
 | k + 1, x29, x474000 => if x29 = true then ((r1_Of.f k 1).bind fun t480 => ((r1_Add.f k x474000 t480).bind fun t483 => (some t483))) else (some x474000)
def r3_Quotient.f (k : Nat) (l0_0 : List Int) (l1_0 : List Int) : Option (List Int) := (r1_Div.f k l0_0 l1_0).bind fun bt467 => ((r1_Shl.f k bt467.2 1).bind fun t475 => ((r1_Cmp.f k t475 l1_0).bind fun t478 => (if t478 > 0 then (r3_Quotient.j0 k true bt467.1) else (if t478 = 0 then ((r1_Uint.f bt467.1).bind fun t479 => (r3_Quotient.j0 k ((Int.tmod t479 2) == 1) bt467.1)) else (r3_Quotient.j0 k false bt467.1)))))
theorem r3_Quotient.mono_l : ∀ k, (∀ y0 y1, LeO (r3_Quotient.j0 k y0 y1) (r3_Quotient.j0 (k + 1) y0 y1))
 | 0 => fun _ _ r h => by simp [r3_Quotient.j0] at h
 | k + 1 => by
  have ih0 := r3_Quotient.mono_l k
  ·intro y0 y1
   unfold r3_Quotient.j0
   repeat' first
   | (with_reducible exact ih0 _ _)
   | (with_reducible exact r1_Add.mono _ _ _)
   | (with_reducible exact r1_Cmp.mono _ _ _)
   | (with_reducible exact r1_Div.mono _ _ _)
   | (with_reducible exact r1_Of.mono _ _)
   | (with_reducible exact r1_Shl.mono _ _ _)
   | (with_reducible exact LeO.refl _)
   | (with_reducible exact LeO.none _)
   | (with_reducible refine LeO.ite ?_ ?_)
   | (with_reducible refine LeO.bind ?_ (fun _ => ?_))
   | exact ih0 _ _
   | exact r1_Add.mono _ _ _
   | exact r1_Cmp.mono _ _ _
   | exact r1_Div.mono _ _ _
   | exact r1_Of.mono _ _
   | exact r1_Shl.mono _ _ _
   | exact LeO.none _
   | refine LeO.ite ?_ ?_
   | refine LeO.bind ?_ (fun _ => ?_)
theorem r3_Quotient.mono : ∀ a0 a1 k, LeO (r3_Quotient.f k a0 a1) (r3_Quotient.f (k + 1) a0 a1) := by
 intro a0 a1 k
 have ih0 := r3_Quotient.mono_l k
 unfold r3_Quotient.f
 repeat' first
   | (with_reducible exact ih0 _ _)
   | (with_reducible exact r1_Add.mono _ _ _)
   | (with_reducible exact r1_Cmp.mono _ _ _)
   | (with_reducible exact r1_Div.mono _ _ _)
   | (with_reducible exact r1_Of.mono _ _)
   | (with_reducible exact r1_Shl.mono _ _ _)
   | (with_reducible exact LeO.refl _)
   | (with_reducible exact LeO.none _)
   | (with_reducible refine LeO.ite ?_ ?_)
   | (with_reducible refine LeO.bind ?_ (fun _ => ?_))
   | exact ih0 _ _
   | exact r1_Add.mono _ _ _
   | exact r1_Cmp.mono _ _ _
   | exact r1_Div.mono _ _ _
   | exact r1_Of.mono _ _
   | exact r1_Shl.mono _ _ _
   | exact LeO.none _
   | refine LeO.ite ?_ ?_
   | refine LeO.bind ?_ (fun _ => ?_)
theorem r3_Quotient.calls (k : Nat) (A0_0 : Option Addr) (c0_0 : Nat) (l0_0 : List Int) (A1_0 : Option Addr) (c1_0 : Nat) (l1_0 : List Int) (r : List Int) (w : World) (hr0_0 : Kd.C (Kd.int .u64) w A0_0 l0_0.length l0_0) (hc0_0 : l0_0.length ≤ c0_0) (hr1_0 : Kd.C (Kd.int .u64) w A1_0 l1_0.length l1_0) (hc1_0 : l1_0.length ≤ c1_0) (h : r3_Quotient.f k l0_0 l1_0 = some r) :
  Calls Try.prog 175 #[.agg #[.slice A0_0 l0_0.length c0_0], .agg #[.slice A1_0 l1_0.length c1_0]] w fun e w' => ∃ v0_ : Value, e = .returned (.agg #[v0_]) ∧ Kd.R (Kd.int .u64) 24 w' w.heap.size (fun _ => True) v0_ r ∧ Below w.heap.size w w' := by
 have hu56 := Try.underlying56
 have HR0_0 := A_ hr0_0;have HC0_0 := A_ hc0_0;clear hr0_0 hc0_0;have HR1_0 := A_ hr1_0;have HC1_0 := A_ hc1_0;clear hr1_0 hc1_0
 have HB := A_ (Below.refl w.heap.size w)
 have H : ((r1_Div.f k l0_0 l1_0).bind fun bt467 => ((r1_Shl.f k bt467.2 1).bind fun t475 => ((r1_Cmp.f k t475 l1_0).bind fun t478 => (if t478 > 0 then (r3_Quotient.j0 k true bt467.1) else (if t478 = 0 then ((r1_Uint.f bt467.1).bind fun t479 => (r3_Quotient.j0 k ((Int.tmod t479 2) == 1) bt467.1)) else (r3_Quotient.j0 k false bt467.1)))))) = some r := h
 clear h
 replace H := ob_ H
 obtain ⟨⟨t467, t470⟩, A30, H⟩ := H
 replace H : ((r1_Shl.f k t470 1).bind fun t475 => ((r1_Cmp.f k t475 l1_0).bind fun t478 => (if t478 > 0 then (r3_Quotient.j0 k true t467) else (if t478 = 0 then ((r1_Uint.f t467).bind fun t479 => (r3_Quotient.j0 k ((Int.tmod t479 2) == 1) t467)) else (r3_Quotient.j0 k false t467))))) = some r := H
 have A3 := A_ A30;clear A30
 replace H := ob_ H
 obtain ⟨t475, A40, H⟩ := H
 replace H : ((r1_Cmp.f k t475 l1_0).bind fun t478 => (if t478 > 0 then (r3_Quotient.j0 k true t467) else (if t478 = 0 then ((r1_Uint.f t467).bind fun t479 => (r3_Quotient.j0 k ((Int.tmod t479 2) == 1) t467)) else (r3_Quotient.j0 k false t467)))) = some r := H
 have A4 := A_ A40;clear A40
 replace H := ob_ H
 obtain ⟨t478, A50, H⟩ := H
 replace H : (if t478 > 0 then (r3_Quotient.j0 k true t467) else (if t478 = 0 then ((r1_Uint.f t467).bind fun t479 => (r3_Quotient.j0 k ((Int.tmod t479 2) == 1) t467)) else (r3_Quotient.j0 k false t467))) = some r := H
 have A5 := A_ A50;clear A50;have HC6 := A_ H;clear H
 go_enter Try.func175, Try.ntmps175
 try go_wp2_with (first | ((with_reducible refine gate_dst (N := 2) rfl ?_); refine be_ 2 #[.slice A0_0 l0_0.length c0_0] 56 ?_; intro gb464 hg w7 hbox hb; have n0_ := A_ (below_step (hb_ HB.out) hb); have n1_ := A_ (hbox); have n2_ := A_ (sz_ hg (hb_ HB.out)); have n3_ := A_ (sz_ hg (hb_ HB.out)); clear HB; have HB := n0_; have BK464 := n1_; have GW464 := n2_; have GE464 := n3_; clear n0_ n1_ n2_ n3_; clear hb hbox hg) | ((with_reducible refine gate_dst (N := 3) rfl ?_); refine be_ 3 #[.slice A1_0 l1_0.length c1_0] 56 ?_; intro gb465 hg w8 hbox hb; have n0_ := A_ (bb_ BK464.out hb); have n1_ := A_ (below_step (hb1_ HB.out GE464.out) hb); have n2_ := A_ (hbox); have n3_ := A_ (sz_ hg (hb1_ HB.out GE464.out)); have n4_ := A_ (sz_ hg (hb1_ HB.out GE464.out)); have n5_ := A_ (nl_ hg BK464.out); have n6_ := A_ (ng_ hg BK464.out); clear BK464; clear HB; have BK464 := n0_; have HB := n1_; have BK465 := n2_; have GW465 := n3_; have GE465 := n4_; have NB464_465 := n5_; have NB465_464 := n6_; clear n0_ n1_ n2_ n3_ n4_ n5_ n6_; clear hb hbox hg) | ((with_reducible refine gate_dst (N := 4) rfl ?_); refine be_ 4 #[.slice none 0 0] 56 ?_; intro gb466 hg w9 hbox hb; have n0_ := A_ (bb_ BK464.out hb); have n1_ := A_ (bb_ BK465.out hb); have n2_ := A_ (below_step (hb2_ HB.out GE464.out GE465.out) hb); have n3_ := A_ (hbox); have n4_ := A_ (sz_ hg (hb2_ HB.out GE464.out GE465.out)); have n5_ := A_ (sz_ hg (hb2_ HB.out GE464.out GE465.out)); have n6_ := A_ (nl_ hg BK464.out); have n7_ := A_ (ng_ hg BK464.out); have n8_ := A_ (nl_ hg BK465.out); have n9_ := A_ (ng_ hg BK465.out); clear BK464; clear BK465; clear HB; have BK464 := n0_; have BK465 := n1_; have HB := n2_; have BK466 := n3_; have GW466 := n4_; have GE466 := n5_; have NB464_466 := n6_; have NB466_464 := n7_; have NB465_466 := n8_; have NB466_465 := n9_; clear n0_ n1_ n2_ n3_ n4_ n5_ n6_ n7_ n8_ n9_; clear hb hbox hg; have hnb10 := NB464_465.out; have hnc10 := NB465_464.out; have hnb11 := NB464_466.out; have hnc11 := NB466_464.out; have hcz12_0 : w9.cell? ⟨gb464, 0, none⟩ = some (.slice A0_0 l0_0.length c0_0) := bc_ BK464.out 0; have hfz12_0 := blk_frozen BK464.out 0; have hnb13 := NB465_466.out; have hnc13 := NB466_465.out; have hcz14_0 : w9.cell? ⟨gb465, 0, none⟩ = some (.slice A1_0 l1_0.length c1_0) := bc_ BK465.out 0; have hfz14_0 := blk_frozen BK465.out 0) | ((with_reducible refine gate_callee (f := 138) rfl ?_); refine gl_ (some 11) Try.func138 #[.agg #[.slice A0_0 l0_0.length c0_0], .agg #[.slice A1_0 l1_0.length c1_0]] ?_; (with_reducible refine (r1_Div.calls k (fun k_ => k_ < w.heap.size) _ _ l0_0 _ _ l1_0 t467 t470 _ ?side1 ?side2 ?side3 A3.out).mono ?_); (case side1 => exact Kd.V_mk HC0_0.out (Kd.F_below (Kd.C_F (Kd.heap_int .u64) HR0_0.out) (hb3_ HB.out GE464.out GE465.out GE466.out))); (case side2 => repeat (first | exact (Kd.C_below HR1_0.out HB.out) | (with_reducible refine Kd.C_alloc ?_ _) | (with_reducible refine Kd.C_drewN ?_ _) | (with_reducible refine Kd.C_drew ?_))); (case side3 => exact HC1_0.out); rintro e w15 ⟨v468, v471, rfl, ho0, ho1, hb⟩; refine ⟨_, rfl, ?_⟩; have n0_ := A_ (Kd.R_lower (Kd.R_mono (ok' := fun k_ => True) ho0 (fun _ hk_ => trivial)) (below_size (hb3_ HB.out GE464.out GE465.out GE466.out))); have n1_ := A_ (Kd.V_lower (Kd.V_mono (ok' := fun k_ => some k_ ≠ (v468 : Value).ownBlock ∧ k_ ≠ gb464 ∧ k_ ≠ gb465 ∧ k_ ≠ gb466) ho1 (fun k_ hk_ => ⟨hk_.2, Or.elim hk_.1 (fun hs_ => fun e_ => Nat.not_le.2 hs_ (by rw [e_]; exact GW464.out)) (fun hn_ => (Kd.freshB (g := gb464) (o := .cells #[.slice A0_0 l0_0.length c0_0] 56 (0, 0)) (bk_ BK464.out) k_ hn_)), Or.elim hk_.1 (fun hs_ => fun e_ => Nat.not_le.2 hs_ (by rw [e_]; exact GW465.out)) (fun hn_ => (Kd.freshB (g := gb465) (o := .cells #[.slice A1_0 l1_0.length c1_0] 56 (0, 0)) (bk_ BK465.out) k_ hn_)), Or.elim hk_.1 (fun hs_ => fun e_ => Nat.not_le.2 hs_ (by rw [e_]; exact GW466.out)) (fun hn_ => (Kd.freshB (g := gb466) (o := .cells #[.slice none 0 0] 56 (0, 0)) (bk_ BK466.out) k_ hn_))⟩)) (below_size (hb3_ HB.out GE464.out GE465.out GE466.out))); have n2_ := A_ (bb_ BK464.out hb); have n3_ := A_ (bb_ BK465.out hb); have n4_ := A_ (bb_ BK466.out hb); have n5_ := A_ (below_step (hb3_ HB.out GE464.out GE465.out GE466.out) hb); clear BK464; clear BK465; clear BK466; clear HB; have HO469 := n0_; have HO472 := n1_; have BK464 := n2_; have BK465 := n3_; have BK466 := n4_; have HB := n5_; clear n0_ n1_ n2_ n3_ n4_ n5_; (try clear hb); (try clear hb2); (try clear hk); (try clear hi); (try clear ho0); (try clear ho1)) | ((with_reducible refine gate_dst (N := 5) rfl ?_); refine be_ 5 #[.slice none 0 0] 56 ?_; intro gb473 hg w16 hbox hb; have n0_ := A_ (Kd.R_below (kr_ HO469.out) hb); have n1_ := A_ (Kd.V_below (Kd.V_elderB (kv_ HO472.out) gb473 (Nat.le_of_eq hg.symm)) hb); have n2_ := A_ (bb_ BK464.out hb); have n3_ := A_ (bb_ BK465.out hb); have n4_ := A_ (bb_ BK466.out hb); have n5_ := A_ (below_step (hb3_ HB.out GE464.out GE465.out GE466.out) hb); have n6_ := A_ (hbox); have n7_ := A_ (sz_ hg (hb3_ HB.out GE464.out GE465.out GE466.out)); have n8_ := A_ (sz_ hg (hb3_ HB.out GE464.out GE465.out GE466.out)); have n9_ := A_ (nl_ hg BK464.out); have n10_ := A_ (ng_ hg BK464.out); have n11_ := A_ (nl_ hg BK465.out); have n12_ := A_ (ng_ hg BK465.out); have n13_ := A_ (nl_ hg BK466.out); have n14_ := A_ (ng_ hg BK466.out); clear HO469; clear HO472; clear BK464; clear BK465; clear BK466; clear HB; have HO469 := n0_; have HO472 := n1_; have BK464 := n2_; have BK465 := n3_; have BK466 := n4_; have HB := n5_; have BK473 := n6_; have GW473 := n7_; have GE473 := n8_; have NB464_473 := n9_; have NB473_464 := n10_; have NB465_473 := n11_; have NB473_465 := n12_; have NB466_473 := n13_; have NB473_466 := n14_; clear n0_ n1_ n2_ n3_ n4_ n5_ n6_ n7_ n8_ n9_ n10_ n11_ n12_ n13_ n14_; clear hb hbox hg) | ((with_reducible refine gate_dst (N := 6) rfl ?_); refine be_ 6 #[.slice none 0 0] 56 ?_; intro gb474 hg w17 hbox hb; have n0_ := A_ (Kd.R_below (kr_ HO469.out) hb); have n1_ := A_ (Kd.V_below (Kd.V_elderB (kv_ HO472.out) gb474 (Nat.le_of_eq hg.symm)) hb); have n2_ := A_ (bb_ BK464.out hb); have n3_ := A_ (bb_ BK465.out hb); have n4_ := A_ (bb_ BK466.out hb); have n5_ := A_ (bb_ BK473.out hb); have n6_ := A_ (below_step (hb4_ HB.out GE464.out GE465.out GE466.out GE473.out) hb); have n7_ := A_ (hbox); have n8_ := A_ (sz_ hg (hb4_ HB.out GE464.out GE465.out GE466.out GE473.out)); have n9_ := A_ (sz_ hg (hb4_ HB.out GE464.out GE465.out GE466.out GE473.out)); have n10_ := A_ (nl_ hg BK464.out); have n11_ := A_ (ng_ hg BK464.out); have n12_ := A_ (nl_ hg BK465.out); have n13_ := A_ (ng_ hg BK465.out); have n14_ := A_ (nl_ hg BK466.out); have n15_ := A_ (ng_ hg BK466.out); have n16_ := A_ (nl_ hg BK473.out); have n17_ := A_ (ng_ hg BK473.out); clear HO469; clear HO472; clear BK464; clear BK465; clear BK466; clear BK473; clear HB; have HO469 := n0_; have HO472 := n1_; have BK464 := n2_; have BK465 := n3_; have BK466 := n4_; have BK473 := n5_; have HB := n6_; have BK474 := n7_; have GW474 := n8_; have GE474 := n9_; have NB464_474 := n10_; have NB474_464 := n11_; have NB465_474 := n12_; have NB474_465 := n13_; have NB466_474 := n14_; have NB474_466 := n15_; have NB473_474 := n16_; have NB474_473 := n17_; clear n0_ n1_ n2_ n3_ n4_ n5_ n6_ n7_ n8_ n9_ n10_ n11_ n12_ n13_ n14_ n15_ n16_ n17_; clear hb hbox hg; obtain ⟨Ao18, co18, eo18⟩ := Kd.R_slice HO469.out; subst eo18; have hnb19 := NB473_464.out; have hnc19 := NB464_473.out; have hnb20 := NB473_465.out; have hnc20 := NB465_473.out; have hnb21 := NB473_466.out; have hnc21 := NB466_473.out; have hnb22 := NB473_474.out; have hnc22 := NB474_473.out; have hcz23_0 : w17.cell? ⟨gb473, 0, none⟩ = some (.slice none 0 0) := bc_ BK473.out 0; have hfz23_0 := blk_frozen BK473.out 0; obtain ⟨Ao24, co24, eo24⟩ := Kd.V_slice HO472.out; subst eo24; have hnb25 := NB474_464.out; have hnc25 := NB464_474.out; have hnb26 := NB474_465.out; have hnc26 := NB465_474.out; have hnb27 := NB474_466.out; have hnc27 := NB466_474.out; have hcz28_0 : w17.cell? ⟨gb474, 0, none⟩ = some (.slice none 0 0) := bc_ BK474.out 0; have hfz28_0 := blk_frozen BK474.out 0))
 have n0_ : Aside0 (Kd.R (Kd.int .u64) 24 ((w17.setCell ⟨gb473, 0, none⟩ (.slice Ao18 t467.length co18)).setCell ⟨gb474, 0, none⟩ (.slice Ao24 t470.length co24)) w.heap.size (fun _ => True) (.slice Ao18 t467.length co18) t467) := ⟨by (with_reducible repeat (first | apply Kd.R_alloc | apply Kd.R_drewN | apply Kd.R_drew)); exact Kd.R_mono (Kd.R_far (p := ⟨gb474, 0, none⟩) (Kd.R_far (p := ⟨gb473, 0, none⟩) (Kd.R_types (Kd.R_types HO469.out BK473.out (by decide)) BK474.out (by decide)) (fun _ hk => hk.1.2) (.slice Ao18 t467.length co18)) (fun _ hk => hk.2) (.slice Ao24 t470.length co24)) (fun _ hk => trivial)⟩
 have n1_ : Aside0 (Kd.V (Kd.int .u64) 24 ((w17.setCell ⟨gb473, 0, none⟩ (.slice Ao18 t467.length co18)).setCell ⟨gb474, 0, none⟩ (.slice Ao24 t470.length co24)) w.heap.size (fun k_ => some k_ ≠ (.slice Ao18 t467.length co18 : Value).ownBlock ∧ k_ ≠ gb464 ∧ k_ ≠ gb465 ∧ k_ ≠ gb466 ∧ k_ ≠ gb473 ∧ k_ ≠ gb474) (.slice Ao24 t470.length co24) t470) := ⟨by (with_reducible repeat (first | apply Kd.V_alloc | apply Kd.V_drewN | apply Kd.V_drew)); exact Kd.V_mono (Kd.V_far (p := ⟨gb474, 0, none⟩) (Kd.V_far (p := ⟨gb473, 0, none⟩) (Kd.V_mono (Kd.V_mono HO472.out (fun k_ hk => (⟨hk, hk.1.2⟩ : _ ∧ k_ ≠ gb473))) (fun k_ hk => (⟨hk, hk.1.2⟩ : _ ∧ k_ ≠ gb474))) (fun _ hk => hk.1.2) (.slice Ao18 t467.length co18)) (fun _ hk => hk.2) (.slice Ao24 t470.length co24)) (fun _ hk => ⟨hk.1.1.1.1.1, ⟨hk.1.1.1.1.2.1, ⟨hk.1.1.1.1.2.2.1, ⟨hk.1.1.1.1.2.2.2, ⟨hk.1.1.1.2, hk.1.1.2⟩⟩⟩⟩⟩)⟩
 have n2_ : Aside0 (((w17.setCell ⟨gb473, 0, none⟩ (.slice Ao18 t467.length co18)).setCell ⟨gb474, 0, none⟩ (.slice Ao24 t470.length co24)).heap[gb464]? = some (.cells #[.slice A0_0 l0_0.length c0_0] 56 (0, 0))) := ⟨bf2_ BK464.out NB464_474.out NB464_473.out⟩
 have n3_ : Aside0 (((w17.setCell ⟨gb473, 0, none⟩ (.slice Ao18 t467.length co18)).setCell ⟨gb474, 0, none⟩ (.slice Ao24 t470.length co24)).heap[gb465]? = some (.cells #[.slice A1_0 l1_0.length c1_0] 56 (0, 0))) := ⟨bf2_ BK465.out NB465_474.out NB465_473.out⟩
 have n4_ : Aside0 (((w17.setCell ⟨gb473, 0, none⟩ (.slice Ao18 t467.length co18)).setCell ⟨gb474, 0, none⟩ (.slice Ao24 t470.length co24)).heap[gb466]? = some (.cells #[.slice none 0 0] 56 (0, 0))) := ⟨bf2_ BK466.out NB466_474.out NB466_473.out⟩
 have n5_ : Aside0 (((w17.setCell ⟨gb473, 0, none⟩ (.slice Ao18 t467.length co18)).setCell ⟨gb474, 0, none⟩ (.slice Ao24 t470.length co24)).heap[gb473]? = some (.cells #[.slice Ao18 t467.length co18] 56 (0, 0))) := ⟨by (with_reducible repeat (first | refine blk_drewN ?_ _ | refine blk_drew ?_ | refine blk_alloc ?_ _)); refine blk_far ?_ NB473_474.out _; (with_reducible repeat (first | refine blk_drewN ?_ _ | refine blk_drew ?_ | refine blk_alloc ?_ _)); refine blk_put (cs := #[.slice none 0 0]) ?_ 0 _ rfl; (with_reducible repeat (first | refine blk_drewN ?_ _ | refine blk_drew ?_ | refine blk_alloc ?_ _)); exact BK473.out⟩
 have n6_ : Aside0 (((w17.setCell ⟨gb473, 0, none⟩ (.slice Ao18 t467.length co18)).setCell ⟨gb474, 0, none⟩ (.slice Ao24 t470.length co24)).heap[gb474]? = some (.cells #[.slice Ao24 t470.length co24] 56 (0, 0))) := ⟨by (with_reducible repeat (first | refine blk_drewN ?_ _ | refine blk_drew ?_ | refine blk_alloc ?_ _)); refine blk_put (cs := #[.slice none 0 0]) ?_ 0 _ rfl; (with_reducible repeat (first | refine blk_drewN ?_ _ | refine blk_drew ?_ | refine blk_alloc ?_ _)); refine blk_far ?_ NB474_473.out _; (with_reducible repeat (first | refine blk_drewN ?_ _ | refine blk_drew ?_ | refine blk_alloc ?_ _)); exact BK474.out⟩
 have n7_ : Aside0 (Below w.heap.size w ((w17.setCell ⟨gb473, 0, none⟩ (.slice Ao18 t467.length co18)).setCell ⟨gb474, 0, none⟩ (.slice Ao24 t470.length co24))) := ⟨by repeat (first | (with_reducible first | exact HB.out | apply below_alloc | apply pw_below_drewN | apply below_drew1 | refine below_set ?_ GE464.out | refine below_set ?_ GE465.out | refine below_set ?_ GE466.out | refine below_set ?_ GE473.out | refine below_set ?_ GE474.out) | exact HB.out)⟩
 (try clear HO469);(try clear HO472);(try clear BK464);(try clear BK465);(try clear BK466);(try clear BK473);(try clear BK474);(try clear HB)
 generalize ((w17.setCell ⟨gb473, 0, none⟩ (.slice Ao18 t467.length co18)).setCell ⟨gb474, 0, none⟩ (.slice Ao24 t470.length co24)) = w29 at n0_ n1_ n2_ n3_ n4_ n5_ n6_ n7_ ⊢
 have HO469 := n0_;have HO472 := n1_;have BK464 := n2_;have BK465 := n3_;have BK466 := n4_;have BK473 := n5_;have BK474 := n6_;have HB := n7_;clear n0_ n1_ n2_ n3_ n4_ n5_ n6_ n7_
 have n0_ := A_ (Kd.R_drew HO469.out)
 have n1_ := A_ (Kd.V_drew HO472.out)
 have n2_ := A_ (blk_drew BK464.out)
 have n3_ := A_ (blk_drew BK465.out)
 have n4_ := A_ (blk_drew BK466.out)
 have n5_ := A_ (blk_drew BK473.out)
 have n6_ := A_ (blk_drew BK474.out)
 have n7_ := A_ (below_drew1 HB.out)
 clear HO469;clear HO472;clear BK464;clear BK465;clear BK466;clear BK473;clear BK474;clear HB;have HO469 := n0_;have HO472 := n1_;have BK464 := n2_;have BK465 := n3_;have BK466 := n4_;have BK473 := n5_;have BK474 := n6_;have HB := n7_;clear n0_ n1_ n2_ n3_ n4_ n5_ n6_ n7_
 refine start_ (n := 5) (S := fun w' => w'.cell? ⟨gb474, 0, none⟩ = some (.slice Ao24 t470.length co24) ∧ w'.cell? ⟨gb465, 0, none⟩ = some (.slice A1_0 l1_0.length c1_0)) (ds := []) #[false, false, false, false, false] (by kernel_rfl) rfl rfl ⟨bc_ BK474.out 0, bc_ BK465.out 0⟩ (fun hHeld => ?_)
 generalize w29.drew = w30 at HO469 HO472 BK464 BK465 BK466 BK473 BK474 HB hHeld ⊢
 refine tk2_ 0 (some 14) #[true, false, false, false, false] rfl rfl (by kernel_rfl) hHeld ?_
 refine tk2_ 2 (some 16) #[true, false, true, false, false] rfl rfl (by kernel_rfl) hHeld ?_
 refine one_ (i := 1) (N := some 15) #[true, true, true, false, false] rfl rfl (by kernel_rfl) (by decide) (fun K hK => ?_)
 refine goes_ Try.func103 (by kernel_rfl) rfl #[.agg #[.slice Ao24 t470.length co24], .int .i64 1] (by rfl) rfl rfl mp_ ?_
 with_reducible refine (r1_Shl.calls k _ _ t470 1 t475 _ ?side1 ?side2 A4.out).mono ?_
 (case side1 => repeat (first | exact (Kd.V_reads' HO472.out).2.2 | (with_reducible refine Kd.C_alloc ?_ _) | (with_reducible refine Kd.C_drewN ?_ _) | (with_reducible refine Kd.C_drew ?_)))
 (case side2 => exact (Kd.V_reads' HO472.out).2.1)
 rintro e w31 ⟨v476, rfl, ho0, hb⟩
 refine ⟨_, rfl, ?_⟩
 have n0_ := A_ (Kd.R_elder' (kr_ HO469.out) (Kd.R_base ho0) hb)
 have n1_ := A_ (Kd.V_elder' (kv_ HO472.out) (Kd.R_base ho0) hb)
 have n2_ := A_ (Kd.R_lower (Kd.R_new' ho0 (Kd.R_lt (kr_ HO469.out))) (below_size (by repeat (first | (with_reducible first | exact HB.out | apply below_alloc | apply pw_below_drewN | apply below_drew1 | refine below_set ?_ GE464.out | refine below_set ?_ GE465.out | refine below_set ?_ GE466.out | refine below_set ?_ GE473.out | refine below_set ?_ GE474.out) | exact HB.out))))
 have n3_ := A_ (bb_ BK464.out hb)
 have n4_ := A_ (bb_ BK465.out hb)
 have n5_ := A_ (bb_ BK466.out hb)
 have n6_ := A_ (bb_ BK473.out hb)
 have n7_ := A_ (bb_ BK474.out hb)
 have n8_ := A_ (below_step (by repeat (first | (with_reducible first | exact HB.out | apply below_alloc | apply pw_below_drewN | apply below_drew1 | refine below_set ?_ GE464.out | refine below_set ?_ GE465.out | refine below_set ?_ GE466.out | refine below_set ?_ GE473.out | refine below_set ?_ GE474.out) | exact HB.out)) hb)
 clear HO469;clear HO472;clear BK464;clear BK465;clear BK466;clear BK473;clear BK474;clear HB;have HO469 := n0_;have HO472 := n1_;have HO477 := n2_;have BK464 := n3_;have BK465 := n4_;have BK466 := n5_;have BK473 := n6_;have BK474 := n7_;have HB := n8_;clear n0_ n1_ n2_ n3_ n4_ n5_ n6_ n7_ n8_;(try clear hb);(try clear hb2);(try clear hk);(try clear hi);(try clear ho0)
 obtain ⟨Ao32, co32, eo32⟩ := Kd.R_slice HO477.out
 (first | subst eo32 | (injection eo32 with f1_ f2_ f3_; have f4_ := f1_.symm; have f5_ := f3_.symm; clear f1_ f2_ f3_; subst f4_; subst f5_))
 refine hK.out _ _ ⟨bc_ BK474.out 0, bc_ BK465.out 0⟩ (fun hHeld => ?_)
 clear hK K
 refine norm_ (a' := ?_) ?_ ?_
 rotate_left
 ·show Act.put _ (some 15) _ = _
  simp only [Act.put, lI_, l0_, lS_, i64_w, i32_w]
  rfl
 refine one_ (i := 3) (N := some 17) #[true, true, true, true, false] rfl rfl (by kernel_rfl) (by decide) (fun K hK => ?_)
 refine goes_ Try.func100 (by kernel_rfl) rfl #[.agg #[.slice Ao32 t475.length co32], .agg #[.slice A1_0 l1_0.length c1_0]] (by rfl) rfl rfl mp_ ?_
 with_reducible refine (r1_Cmp.calls k _ _ t475 _ _ l1_0 t478 _ ?side1 ?side2 ?side3 ?side4 A5.out).mono ?_
 (case side1 => repeat (first | exact (Kd.R_reads' HO477.out).2.2 | (with_reducible refine Kd.C_alloc ?_ _) | (with_reducible refine Kd.C_drewN ?_ _) | (with_reducible refine Kd.C_drew ?_)))
 (case side2 => exact (Kd.R_reads' HO477.out).2.1)
 (case side3 => repeat (first | exact (Kd.C_below HR1_0.out HB.out) | (with_reducible refine Kd.C_alloc ?_ _) | (with_reducible refine Kd.C_drewN ?_ _) | (with_reducible refine Kd.C_drew ?_)))
 (case side4 => exact HC1_0.out)
 rintro e w33 ⟨rfl, hb⟩
 refine ⟨_, rfl, ?_⟩
 have n0_ := A_ (Kd.R_below (kr_ HO469.out) hb)
 have n1_ := A_ (Kd.V_below (kv_ HO472.out) hb)
 have n2_ := A_ (Kd.R_below (kr_ HO477.out) hb)
 have n3_ := A_ (bb_ BK464.out hb)
 have n4_ := A_ (bb_ BK465.out hb)
 have n5_ := A_ (bb_ BK466.out hb)
 have n6_ := A_ (bb_ BK473.out hb)
 have n7_ := A_ (bb_ BK474.out hb)
 have n8_ := A_ (below_step (by repeat (first | (with_reducible first | exact HB.out | apply below_alloc | apply pw_below_drewN | apply below_drew1 | refine below_set ?_ GE464.out | refine below_set ?_ GE465.out | refine below_set ?_ GE466.out | refine below_set ?_ GE473.out | refine below_set ?_ GE474.out) | exact HB.out)) hb)
 clear HO469;clear HO472;clear HO477;clear BK464;clear BK465;clear BK466;clear BK473;clear BK474;clear HB;have HO469 := n0_;have HO472 := n1_;have HO477 := n2_;have BK464 := n3_;have BK465 := n4_;have BK466 := n5_;have BK473 := n6_;have BK474 := n7_;have HB := n8_;clear n0_ n1_ n2_ n3_ n4_ n5_ n6_ n7_ n8_;(try clear hb);(try clear hb2);(try clear hk);(try clear hi)
 refine hK.out _ _ ⟨bc_ BK474.out 0, bc_ BK465.out 0⟩ (fun hHeld => ?_)
 clear hK K
 refine norm_ (a' := ?_) ?_ ?_
 rotate_left
 ·show Act.put _ (some 17) _ = _
  simp only [Act.put, lI_, l0_, lS_, i64_w, i32_w]
  rfl
 refine pu_ 4 (some 7) #[true, true, true, true, true] rfl rfl (by kernel_rfl) ?_
 refine done_ (by kernel_rfl) ?_
 go_upto_region 3 with (fail)
 go_cut [29] (fun v29 wc => ∃ (kq : Nat) (x29_5 : Bool), v29 = .bool x29_5 ∧ Aside0 (r3_Quotient.j0 kq x29_5 t467 = some r) ∧ Aside0 (kq ≤ k) ∧ Aside0 (Kd.R (Kd.int .u64) 24 wc w.heap.size (fun _ => True) (.slice Ao18 t467.length co18) t467) ∧ Aside0 (Kd.V (Kd.int .u64) 24 wc w.heap.size (fun k_ => some k_ ≠ ((.slice Ao18 t467.length co18) : Value).ownBlock ∧ k_ ≠ gb464 ∧ k_ ≠ gb465 ∧ k_ ≠ gb466 ∧ k_ ≠ gb473 ∧ k_ ≠ gb474) (.slice Ao24 t470.length co24) t470) ∧ Aside0 (wc.heap[gb464]? = some (.cells #[(.slice A0_0 l0_0.length c0_0)] 56 (0, 0))) ∧ Aside0 (wc.heap[gb465]? = some (.cells #[(.slice A1_0 l1_0.length c1_0)] 56 (0, 0))) ∧ Aside0 (wc.heap[gb466]? = some (.cells #[(.slice none 0 0)] 56 (0, 0))) ∧ Aside0 (wc.heap[gb473]? = some (.cells #[(.slice Ao18 t467.length co18)] 56 (0, 0))) ∧ Aside0 (wc.heap[gb474]? = some (.cells #[(.slice Ao24 t470.length co24)] 56 (0, 0))) ∧ Aside0 (Below w.heap.size w wc))
 case first =>
  have H := HC6.out
  clear HC6
  by_cases c34 : t478 > 0
  ·rw [if_pos c34] at H
   have c34b0 : decide (0 < t478) = true := decide_eq_true c34
   clear c34
   (first | rw [c34b0] | (simp only [i64_w, i32_w]; rw [c34b0]) | skip)
   have H' := A_ H
   clear H
   go_wp2
   go_meet
   case rel => exact ⟨_, (true), sm_, H', ⟨by first | omega | exact Nat.le_refl _⟩, ⟨by (with_reducible repeat (first | apply Kd.R_alloc | apply Kd.R_drewN | apply Kd.R_drew)); exact Kd.R_mono HO469.out (fun _ hk => trivial)⟩, ⟨by (with_reducible repeat (first | apply Kd.V_alloc | apply Kd.V_drewN | apply Kd.V_drew)); exact Kd.V_mono HO472.out (fun _ hk => ⟨hk.1.1, ⟨hk.1.2.1, ⟨hk.1.2.2.1, ⟨hk.1.2.2.2.1, ⟨hk.1.2.2.2.2.1, hk.1.2.2.2.2.2⟩⟩⟩⟩⟩)⟩, ⟨bk_ BK464.out⟩, ⟨bk_ BK465.out⟩, ⟨bk_ BK466.out⟩, ⟨bk_ BK473.out⟩, ⟨bk_ BK474.out⟩, ⟨by repeat (first | (with_reducible first | exact HB.out | apply below_alloc | apply pw_below_drewN | apply below_drew1 | refine below_set ?_ GE464.out | refine below_set ?_ GE465.out | refine below_set ?_ GE466.out | refine below_set ?_ GE473.out | refine below_set ?_ GE474.out) | exact HB.out)⟩⟩
  ·rw [if_neg c34] at H
   have c34b0 : decide (0 < t478) = false := decide_eq_false c34
   clear c34
   (first | rw [c34b0] | (simp only [i64_w, i32_w]; rw [c34b0]) | skip)
   by_cases c35 : t478 = 0
   ·rw [if_pos c35] at H
    have c35b0 : (t478 == 0) = true := beq_iff_eq.mpr c35
    have c35b1 : (t478 != 0) = false := bne_eq_false_iff_eq.mpr c35
    clear c35
    replace H := ob_ H
    obtain ⟨t479, A360, H⟩ := H
    replace H : (r3_Quotient.j0 k ((Int.tmod t479 2) == 1) t467) = some r := H
    have A36 := A_ A360;clear A360
    have H' := A_ H
    clear H
    have hnb37 := NB473_464.out
    have hnc37 := NB464_473.out
    have hnb38 := NB473_465.out
    have hnc38 := NB465_473.out
    have hnb39 := NB473_466.out
    have hnc39 := NB466_473.out
    have hnb40 := NB473_474.out
    have hnc40 := NB474_473.out
    have hcz41_0 : w33.cell? ⟨gb473, 0, none⟩ = some (.slice Ao18 t467.length co18) := bc_ BK473.out 0
    have hfz41_0 := blk_frozen BK473.out 0
    go_wp2_with (first | (go_at_call 101; (with_reducible refine (r1_Uint.calls _ _ t467 t479 _ ?side1 ?side2 A36.out).mono ?_); (case side1 => repeat (first | exact (Kd.R_reads' HO469.out).2.2 | (with_reducible refine Kd.C_alloc ?_ _) | (with_reducible refine Kd.C_drewN ?_ _) | (with_reducible refine Kd.C_drew ?_))); (case side2 => exact (Kd.R_reads' HO469.out).2.1); rintro e w42 ⟨rfl, hb⟩; have n0_ := A_ (Kd.R_below (kr_ HO469.out) hb); have n1_ := A_ (Kd.V_below (kv_ HO472.out) hb); have n2_ := A_ (Kd.R_below (kr_ HO477.out) hb); have n3_ := A_ (bb_ BK464.out hb); have n4_ := A_ (bb_ BK465.out hb); have n5_ := A_ (bb_ BK466.out hb); have n6_ := A_ (bb_ BK473.out hb); have n7_ := A_ (bb_ BK474.out hb); have n8_ := A_ (below_step (by repeat (first | (with_reducible first | exact HB.out | apply below_alloc | apply pw_below_drewN | apply below_drew1 | refine below_set ?_ GE464.out | refine below_set ?_ GE465.out | refine below_set ?_ GE466.out | refine below_set ?_ GE473.out | refine below_set ?_ GE474.out) | exact HB.out)) hb); clear HO469; clear HO472; clear HO477; clear BK464; clear BK465; clear BK466; clear BK473; clear BK474; clear HB; have HO469 := n0_; have HO472 := n1_; have HO477 := n2_; have BK464 := n3_; have BK465 := n4_; have BK466 := n5_; have BK473 := n6_; have BK474 := n7_; have HB := n8_; clear n0_ n1_ n2_ n3_ n4_ n5_ n6_ n7_ n8_; (try clear hb); (try clear hb2); (try clear hk); (try clear hi)))
    go_meet
    case rel => exact ⟨_, (((Int.tmod t479 2) == 1)), sm_, H', ⟨by first | omega | exact Nat.le_refl _⟩, ⟨by (with_reducible repeat (first | apply Kd.R_alloc | apply Kd.R_drewN | apply Kd.R_drew)); exact Kd.R_mono HO469.out (fun _ hk => trivial)⟩, ⟨by (with_reducible repeat (first | apply Kd.V_alloc | apply Kd.V_drewN | apply Kd.V_drew)); exact Kd.V_mono HO472.out (fun _ hk => ⟨hk.1.1, ⟨hk.1.2.1, ⟨hk.1.2.2.1, ⟨hk.1.2.2.2.1, ⟨hk.1.2.2.2.2.1, hk.1.2.2.2.2.2⟩⟩⟩⟩⟩)⟩, ⟨bk_ BK464.out⟩, ⟨bk_ BK465.out⟩, ⟨bk_ BK466.out⟩, ⟨bk_ BK473.out⟩, ⟨bk_ BK474.out⟩, ⟨by repeat (first | (with_reducible first | exact HB.out | apply below_alloc | apply pw_below_drewN | apply below_drew1 | refine below_set ?_ GE464.out | refine below_set ?_ GE465.out | refine below_set ?_ GE466.out | refine below_set ?_ GE473.out | refine below_set ?_ GE474.out) | exact HB.out)⟩⟩
   ·rw [if_neg c35] at H
    have c35b0 : (t478 == 0) = false := beq_eq_false_iff_ne.mpr c35
    have c35b1 : (t478 != 0) = true := bne_iff_ne.mpr c35
    have H' := A_ H
    clear H
    go_wp2
    go_meet
    case rel => exact ⟨_, (false), sm_, H', ⟨by first | omega | exact Nat.le_refl _⟩, ⟨by (with_reducible repeat (first | apply Kd.R_alloc | apply Kd.R_drewN | apply Kd.R_drew)); exact Kd.R_mono HO469.out (fun _ hk => trivial)⟩, ⟨by (with_reducible repeat (first | apply Kd.V_alloc | apply Kd.V_drewN | apply Kd.V_drew)); exact Kd.V_mono HO472.out (fun _ hk => ⟨hk.1.1, ⟨hk.1.2.1, ⟨hk.1.2.2.1, ⟨hk.1.2.2.2.1, ⟨hk.1.2.2.2.2.1, hk.1.2.2.2.2.2⟩⟩⟩⟩⟩)⟩, ⟨bk_ BK464.out⟩, ⟨bk_ BK465.out⟩, ⟨bk_ BK466.out⟩, ⟨bk_ BK473.out⟩, ⟨bk_ BK474.out⟩, ⟨by repeat (first | (with_reducible first | exact HB.out | apply below_alloc | apply pw_below_drewN | apply below_drew1 | refine below_set ?_ GE464.out | refine below_set ?_ GE465.out | refine below_set ?_ GE466.out | refine below_set ?_ GE473.out | refine below_set ?_ GE474.out) | exact HB.out)⟩⟩
 case rest =>
  clear HC6
  try clear c1
  try clear c2
  try clear p2
  try clear c3
  try clear c4
  try clear c10
  try clear c11
  try clear c13
  try clear c17
  try clear c19
  try clear c20
  try clear c21
  try clear c22
  try clear c25
  try clear c26
  try clear c27
  try clear c34
  try clear c34b0
  try clear c35
  try clear c35b0
  try clear c35b1
  try clear c37
  try clear c38
  try clear c39
  try clear c40
  try clear hcz12_0
  try clear hcz14_0
  try clear hcz23_0
  try clear hcz28_0
  try clear hcz41_0
  try clear hfz12_0
  try clear hfz14_0
  try clear hfz23_0
  try clear hfz28_0
  try clear hfz41_0
  obtain ⟨kq, x29_5, rfl, HA, HJ5, HO_474000, HO_475000, BK464, BK465, BK466, BK473, BK474, HB⟩ := hcut
  cases kq with
  | zero => exact absurd HA.out (by simp [r3_Quotient.j0])
  | succ kj5 =>
   have H := HA.out
   clear HA
   simp only [r3_Quotient.j0] at H
   by_cases c43 : x29_5 = true
   ·subst c43
    have H1 : ((r1_Of.f kj5 1).bind fun t480 => ((r1_Add.f kj5 t467 t480).bind fun t483 => (some t483))) = some r := by rw [if_pos rfl] at H; exact H
    clear H;have H := H1;clear H1
    replace H := ob_ H
    obtain ⟨t480, A440, H⟩ := H
    replace H : ((r1_Add.f kj5 t467 t480).bind fun t483 => (some t483)) = some r := H
    have A44 := A_ A440;clear A440
    replace H := ob_ H
    obtain ⟨t483, A450, H⟩ := H
    replace H : (some t483) = some r := H
    have A45 := A_ A450;clear A450
    obtain rfl := Option.some.inj H
    try go_wp2
    have n0_ := A_ (Kd.R_drew HO_474000.out)
    have n1_ := A_ (Kd.V_drew HO_475000.out)
    have n2_ := A_ (blk_drew BK464.out)
    have n3_ := A_ (blk_drew BK465.out)
    have n4_ := A_ (blk_drew BK466.out)
    have n5_ := A_ (blk_drew BK473.out)
    have n6_ := A_ (blk_drew BK474.out)
    have n7_ := A_ (below_drew1 HB.out)
    clear HO_474000;clear HO_475000;clear BK464;clear BK465;clear BK466;clear BK473;clear BK474;clear HB;have HO_474000 := n0_;have HO_475000 := n1_;have BK464 := n2_;have BK465 := n3_;have BK466 := n4_;have BK473 := n5_;have BK474 := n6_;have HB := n7_;clear n0_ n1_ n2_ n3_ n4_ n5_ n6_ n7_
    refine start_ (n := 4) (S := fun w' => w'.cell? ⟨gb473, 0, none⟩ = some (.slice Ao18 t467.length co18)) (ds := []) #[false, false, false, false] (by kernel_rfl) rfl rfl (bc_ BK473.out 0) (fun hHeld => ?_)
    generalize wc.drew = w46 at HO_474000 HO_475000 BK464 BK465 BK466 BK473 BK474 HB hHeld ⊢
    refine tk1_ 0 (some 30) #[true, false, false, false] rfl rfl (by kernel_rfl) hHeld ?_
    refine one_ (i := 1) (N := some 31) #[true, true, false, false] rfl rfl (by kernel_rfl) (by decide) (fun K hK => ?_)
    refine goes_ Try.func46 (by kernel_rfl) rfl #[.int .u64 1] (by rfl) rfl rfl mp_ ?_
    with_reducible refine (r1_Of.calls kj5 1 t480 _ A44.out).mono ?_
    rintro e w47 ⟨v481, rfl, ho0, hb⟩
    refine ⟨_, rfl, ?_⟩
    have n0_ := A_ (Kd.R_elder' (kr_ HO_474000.out) (Kd.R_base ho0) hb)
    have n1_ := A_ (Kd.V_elder' (kv_ HO_475000.out) (Kd.R_base ho0) hb)
    have n2_ := A_ (Kd.R_lower (Kd.R_new' ho0 (Kd.R_lt (kr_ HO_474000.out))) (below_size (by repeat (first | (with_reducible first | exact HB.out | apply below_alloc | apply pw_below_drewN | apply below_drew1 | refine below_set ?_ GE464.out | refine below_set ?_ GE465.out | refine below_set ?_ GE466.out | refine below_set ?_ GE473.out | refine below_set ?_ GE474.out) | exact HB.out))))
    have n3_ := A_ (bb_ BK464.out hb)
    have n4_ := A_ (bb_ BK465.out hb)
    have n5_ := A_ (bb_ BK466.out hb)
    have n6_ := A_ (bb_ BK473.out hb)
    have n7_ := A_ (bb_ BK474.out hb)
    have n8_ := A_ (below_step (by repeat (first | (with_reducible first | exact HB.out | apply below_alloc | apply pw_below_drewN | apply below_drew1 | refine below_set ?_ GE464.out | refine below_set ?_ GE465.out | refine below_set ?_ GE466.out | refine below_set ?_ GE473.out | refine below_set ?_ GE474.out) | exact HB.out)) hb)
    clear HO_474000;clear HO_475000;clear BK464;clear BK465;clear BK466;clear BK473;clear BK474;clear HB;have HO_474000 := n0_;have HO_475000 := n1_;have HO482 := n2_;have BK464 := n3_;have BK465 := n4_;have BK466 := n5_;have BK473 := n6_;have BK474 := n7_;have HB := n8_;clear n0_ n1_ n2_ n3_ n4_ n5_ n6_ n7_ n8_;(try clear hb);(try clear hb2);(try clear hk);(try clear hi);(try clear ho0)
    obtain ⟨Ao48, co48, eo48⟩ := Kd.R_slice HO482.out
    (first | subst eo48 | (injection eo48 with f1_ f2_ f3_; have f4_ := f1_.symm; have f5_ := f3_.symm; clear f1_ f2_ f3_; subst f4_; subst f5_))
    refine hK.out _ _ (bc_ BK473.out 0) (fun hHeld => ?_)
    clear hK K
    refine norm_ (a' := ?_) ?_ ?_
    rotate_left
    ·show Act.put _ (some 31) _ = _
     simp only [Act.put, lI_, l0_, lS_, i64_w, i32_w]
     rfl
    refine one_ (i := 2) (N := some 32) #[true, true, true, false] rfl rfl (by kernel_rfl) (by decide) (fun K hK => ?_)
    refine goes_ Try.func110 (by kernel_rfl) rfl #[.agg #[.slice Ao18 t467.length co18], .agg #[.slice Ao48 t480.length co48]] (by rfl) rfl rfl mp_ ?_
    with_reducible refine (r1_Add.calls kj5 _ _ t467 _ _ t480 t483 _ ?side1 ?side2 ?side3 ?side4 A45.out).mono ?_
    (case side1 => repeat (first | exact (Kd.R_reads' HO_474000.out).2.2 | (with_reducible refine Kd.C_alloc ?_ _) | (with_reducible refine Kd.C_drewN ?_ _) | (with_reducible refine Kd.C_drew ?_)))
    (case side2 => exact (Kd.R_reads' HO_474000.out).2.1)
    (case side3 => repeat (first | exact (Kd.R_reads' HO482.out).2.2 | (with_reducible refine Kd.C_alloc ?_ _) | (with_reducible refine Kd.C_drewN ?_ _) | (with_reducible refine Kd.C_drew ?_)))
    (case side4 => exact (Kd.R_reads' HO482.out).2.1)
    rintro e w49 ⟨v484, rfl, ho0, hb⟩
    refine ⟨_, rfl, ?_⟩
    have n0_ := A_ (Kd.R_elder' (kr_ HO_474000.out) (Kd.R_base ho0) hb)
    have n1_ := A_ (Kd.V_elder' (kv_ HO_475000.out) (Kd.R_base ho0) hb)
    have n2_ := A_ (Kd.R_elder' (kr_ HO482.out) (Kd.R_base ho0) hb)
    have n3_ := A_ (Kd.R_lower (Kd.R_new' (Kd.R_new' ho0 (Kd.R_lt (kr_ HO_474000.out))) (Kd.R_lt (kr_ HO482.out))) (below_size (by repeat (first | (with_reducible first | exact HB.out | apply below_alloc | apply pw_below_drewN | apply below_drew1 | refine below_set ?_ GE464.out | refine below_set ?_ GE465.out | refine below_set ?_ GE466.out | refine below_set ?_ GE473.out | refine below_set ?_ GE474.out) | exact HB.out))))
    have n4_ := A_ (bb_ BK464.out hb)
    have n5_ := A_ (bb_ BK465.out hb)
    have n6_ := A_ (bb_ BK466.out hb)
    have n7_ := A_ (bb_ BK473.out hb)
    have n8_ := A_ (bb_ BK474.out hb)
    have n9_ := A_ (below_step (by repeat (first | (with_reducible first | exact HB.out | apply below_alloc | apply pw_below_drewN | apply below_drew1 | refine below_set ?_ GE464.out | refine below_set ?_ GE465.out | refine below_set ?_ GE466.out | refine below_set ?_ GE473.out | refine below_set ?_ GE474.out) | exact HB.out)) hb)
    clear HO_474000;clear HO_475000;clear HO482;clear BK464;clear BK465;clear BK466;clear BK473;clear BK474;clear HB;have HO_474000 := n0_;have HO_475000 := n1_;have HO482 := n2_;have HO485 := n3_;have BK464 := n4_;have BK465 := n5_;have BK466 := n6_;have BK473 := n7_;have BK474 := n8_;have HB := n9_;clear n0_ n1_ n2_ n3_ n4_ n5_ n6_ n7_ n8_ n9_;(try clear hb);(try clear hb2);(try clear hk);(try clear hi);(try clear ho0)
    obtain ⟨Ao50, co50, eo50⟩ := Kd.R_slice HO485.out
    (first | subst eo50 | (injection eo50 with f1_ f2_ f3_; have f4_ := f1_.symm; have f5_ := f3_.symm; clear f1_ f2_ f3_; subst f4_; subst f5_))
    refine hK.out _ _ (bc_ BK473.out 0) (fun hHeld => ?_)
    clear hK K
    refine norm_ (a' := ?_) ?_ ?_
    rotate_left
    ·show Act.put _ (some 32) _ = _
     simp only [Act.put, lI_, l0_, lS_, i64_w, i32_w]
     rfl
    refine one_ (i := 3) (N := none) #[true, true, true, true] rfl rfl (by kernel_rfl) (by decide) (fun K hK => ?_)
    have hs51 : w49.cell? ⟨gb466, 0, none⟩ = some (.slice none 0 0) := bc_ BK466.out 0
    have hfs51 := blk_frozen BK466.out 0
    have hns51_0 := NB464_466.out
    have hns51_1 := NB465_466.out
    have hns51_3 := NB473_466.out
    have hns51_4 := NB474_466.out
    have hms51_0 := NB466_464.out
    have hms51_1 := NB466_465.out
    have hms51_3 := NB466_473.out
    have hms51_4 := NB466_474.out
    refine skip_ (w1 := ?_) (by rfl) rfl ?_ ?_
    rotate_left
    ·go_simp
     rfl
    refine hK.out _ _ (((cell_far (p := ⟨gb466, _, none⟩) NB473_466.out _).trans (hHeld))) (fun hHeld => ?_)
    clear hK K
    refine done_ (by kernel_rfl) ?_
    try go_wp2
    refine bodyPost_ret (results_cell_row rfl _ _ gb466 56 #[.slice Ao50 t483.length co50] (0, 0) _ rfl (by (with_reducible repeat (first | refine blk_drewN ?_ _ | refine blk_drew ?_ | refine blk_alloc ?_ _)); refine blk_put (cs := #[.slice none 0 0]) ?_ 0 _ rfl; (with_reducible repeat (first | refine blk_drewN ?_ _ | refine blk_drew ?_ | refine blk_alloc ?_ _)); exact BK466.out) Try.underlying56 rfl (by kernel_rfl)) rfl ?_
    exact ⟨_, by first | rfl | (simp [errW_none, errW_some] <;> rfl) | (simp [*, errW_none, errW_some] <;> rfl), by (with_reducible repeat (first | apply Kd.R_alloc | apply Kd.R_drewN | apply Kd.R_drew)); exact Kd.R_mono (Kd.R_far (p := ⟨gb466, 0, none⟩) (Kd.R_types HO485.out BK466.out (by decide)) (fun _ hk => hk.2) (.slice Ao50 t483.length co50)) (fun _ hk => trivial), by repeat (first | (with_reducible first | exact HB.out | apply below_alloc | apply pw_below_drewN | apply below_drew1 | refine below_set ?_ GE464.out | refine below_set ?_ GE465.out | refine below_set ?_ GE466.out | refine below_set ?_ GE473.out | refine below_set ?_ GE474.out) | exact HB.out)⟩
   ·replace c43 := Bool.eq_false_iff.mpr c43
    subst c43
    have H1 : (some t467) = some r := by rw [if_neg (show ¬ (false = true) by decide)] at H; exact H
    clear H;have H := H1;clear H1
    obtain rfl := Option.some.inj H
    have hnb52 := NB473_464.out
    have hnc52 := NB464_473.out
    have hnb53 := NB473_465.out
    have hnc53 := NB465_473.out
    have hnb54 := NB473_466.out
    have hnc54 := NB466_473.out
    have hnb55 := NB473_474.out
    have hnc55 := NB474_473.out
    have hcz56_0 : wc.cell? ⟨gb473, 0, none⟩ = some (.slice Ao18 t467.length co18) := bc_ BK473.out 0
    have hfz56_0 := blk_frozen BK473.out 0
    have hnb57 := NB466_464.out
    have hnc57 := NB464_466.out
    have hnb58 := NB466_465.out
    have hnc58 := NB465_466.out
    have hnb59 := NB466_474.out
    have hnc59 := NB474_466.out
    have hcz60_0 : wc.cell? ⟨gb466, 0, none⟩ = some (.slice none 0 0) := bc_ BK466.out 0
    have hfz60_0 := blk_frozen BK466.out 0
    go_wp2
    refine bodyPost_ret (results_cell_row rfl _ _ gb466 56 #[.slice Ao18 t467.length co18] (0, 0) _ rfl (by (with_reducible repeat (first | refine blk_drewN ?_ _ | refine blk_drew ?_ | refine blk_alloc ?_ _)); refine blk_put (cs := #[.slice none 0 0]) ?_ 0 _ rfl; (with_reducible repeat (first | refine blk_drewN ?_ _ | refine blk_drew ?_ | refine blk_alloc ?_ _)); exact BK466.out) Try.underlying56 rfl (by kernel_rfl)) rfl ?_
    exact ⟨_, by first | rfl | (simp [errW_none, errW_some] <;> rfl) | (simp [*, errW_none, errW_some] <;> rfl), by (with_reducible repeat (first | apply Kd.R_alloc | apply Kd.R_drewN | apply Kd.R_drew)); exact Kd.R_mono (Kd.R_far (p := ⟨gb466, 0, none⟩) (Kd.R_types HO_474000.out BK466.out (by decide)) (fun _ hk => hk.2) (.slice Ao18 t467.length co18)) (fun _ hk => trivial), by repeat (first | (with_reducible first | exact HB.out | apply below_alloc | apply pw_below_drewN | apply below_drew1 | refine below_set ?_ GE464.out | refine below_set ?_ GE465.out | refine below_set ?_ GE466.out | refine below_set ?_ GE473.out | refine below_set ?_ GE474.out) | exact HB.out)⟩
def r3_grain.f (k : Nat) (l0_0 : List Int) (l1_0 : List Int) (a2 : Int) : Option (List Int) := if a2 ≥ 0 then ((r1_Shl.f k l0_0 a2).bind fun t489 => ((r3_Quotient.f k t489 l1_0).bind fun t492 => (some t492))) else ((r1_Shl.f k l1_0 (wrap64 (-a2))).bind fun t495 => ((r3_Quotient.f k l0_0 t495).bind fun t498 => (some t498)))
theorem r3_grain.mono : ∀ a0 a1 a2 k, LeO (r3_grain.f k a0 a1 a2) (r3_grain.f (k + 1) a0 a1 a2) := by
 intro a0 a1 a2 k
 unfold r3_grain.f
 repeat' first
   | (with_reducible exact r1_Shl.mono _ _ _)
   | (with_reducible exact r3_Quotient.mono _ _ _)
   | (with_reducible exact LeO.refl _)
   | (with_reducible exact LeO.none _)
   | (with_reducible refine LeO.ite ?_ ?_)
   | (with_reducible refine LeO.bind ?_ (fun _ => ?_))
   | exact r1_Shl.mono _ _ _
   | exact r3_Quotient.mono _ _ _
   | exact LeO.none _
   | refine LeO.ite ?_ ?_
   | refine LeO.bind ?_ (fun _ => ?_)
theorem r3_grain.calls (k : Nat) (A0_0 : Option Addr) (c0_0 : Nat) (l0_0 : List Int) (A1_0 : Option Addr) (c1_0 : Nat) (l1_0 : List Int) (a2 : Int) (r : List Int) (w : World) (hr0_0 : Kd.C (Kd.int .u64) w A0_0 l0_0.length l0_0) (hc0_0 : l0_0.length ≤ c0_0) (hr1_0 : Kd.C (Kd.int .u64) w A1_0 l1_0.length l1_0) (hc1_0 : l1_0.length ≤ c1_0) (h : r3_grain.f k l0_0 l1_0 a2 = some r) :
  Calls Try.prog 159 #[.agg #[.slice A0_0 l0_0.length c0_0], .agg #[.slice A1_0 l1_0.length c1_0], .int .i64 a2] w fun e w' => ∃ v0_ : Value, e = .returned (.agg #[v0_]) ∧ Kd.R (Kd.int .u64) 24 w' w.heap.size (fun _ => True) v0_ r ∧ Below w.heap.size w w' := by
 have hu56 := Try.underlying56
 have HR0_0 := A_ hr0_0;have HC0_0 := A_ hc0_0;clear hr0_0 hc0_0;have HR1_0 := A_ hr1_0;have HC1_0 := A_ hc1_0;clear hr1_0 hc1_0
 have HB := A_ (Below.refl w.heap.size w)
 have H : (if a2 ≥ 0 then ((r1_Shl.f k l0_0 a2).bind fun t489 => ((r3_Quotient.f k t489 l1_0).bind fun t492 => (some t492))) else ((r1_Shl.f k l1_0 (wrap64 (-a2))).bind fun t495 => ((r3_Quotient.f k l0_0 t495).bind fun t498 => (some t498)))) = some r := h
 clear h
 by_cases c4 : a2 ≥ 0
 ·rw [if_pos c4] at H
  have c4b0 : decide (0 ≤ a2) = true := decide_eq_true c4
  clear c4
  replace H := ob_ H
  obtain ⟨t489, A50, H⟩ := H
  replace H : ((r3_Quotient.f k t489 l1_0).bind fun t492 => (some t492)) = some r := H
  have A5 := A_ A50;clear A50
  replace H := ob_ H
  obtain ⟨t492, A60, H⟩ := H
  replace H : (some t492) = some r := H
  have A6 := A_ A60;clear A60
  obtain rfl := Option.some.inj H
  go_enter Try.func159, Try.ntmps159
  try go_wp2_with (first | ((with_reducible refine gate_dst (N := 3) rfl ?_); refine be_ 3 #[.slice A0_0 l0_0.length c0_0] 56 ?_; intro gb486 hg w7 hbox hb; have n0_ := A_ (below_step (hb_ HB.out) hb); have n1_ := A_ (hbox); have n2_ := A_ (sz_ hg (hb_ HB.out)); have n3_ := A_ (sz_ hg (hb_ HB.out)); clear HB; have HB := n0_; have BK486 := n1_; have GW486 := n2_; have GE486 := n3_; clear n0_ n1_ n2_ n3_; clear hb hbox hg) | ((with_reducible refine gate_dst (N := 4) rfl ?_); refine be_ 4 #[.slice A1_0 l1_0.length c1_0] 56 ?_; intro gb487 hg w8 hbox hb; have n0_ := A_ (bb_ BK486.out hb); have n1_ := A_ (below_step (hb1_ HB.out GE486.out) hb); have n2_ := A_ (hbox); have n3_ := A_ (sz_ hg (hb1_ HB.out GE486.out)); have n4_ := A_ (sz_ hg (hb1_ HB.out GE486.out)); have n5_ := A_ (nl_ hg BK486.out); have n6_ := A_ (ng_ hg BK486.out); clear BK486; clear HB; have BK486 := n0_; have HB := n1_; have BK487 := n2_; have GW487 := n3_; have GE487 := n4_; have NB486_487 := n5_; have NB487_486 := n6_; clear n0_ n1_ n2_ n3_ n4_ n5_ n6_; clear hb hbox hg) | ((with_reducible refine gate_dst (N := 6) rfl ?_); refine be_ 6 #[.slice none 0 0] 56 ?_; intro gb488 hg w9 hbox hb; have n0_ := A_ (bb_ BK486.out hb); have n1_ := A_ (bb_ BK487.out hb); have n2_ := A_ (below_step (hb2_ HB.out GE486.out GE487.out) hb); have n3_ := A_ (hbox); have n4_ := A_ (sz_ hg (hb2_ HB.out GE486.out GE487.out)); have n5_ := A_ (sz_ hg (hb2_ HB.out GE486.out GE487.out)); have n6_ := A_ (nl_ hg BK486.out); have n7_ := A_ (ng_ hg BK486.out); have n8_ := A_ (nl_ hg BK487.out); have n9_ := A_ (ng_ hg BK487.out); clear BK486; clear BK487; clear HB; have BK486 := n0_; have BK487 := n1_; have HB := n2_; have BK488 := n3_; have GW488 := n4_; have GE488 := n5_; have NB486_488 := n6_; have NB488_486 := n7_; have NB487_488 := n8_; have NB488_487 := n9_; clear n0_ n1_ n2_ n3_ n4_ n5_ n6_ n7_ n8_ n9_; clear hb hbox hg))
  have n0_ := A_ (blk_drew BK486.out)
  have n1_ := A_ (blk_drew BK487.out)
  have n2_ := A_ (blk_drew BK488.out)
  have n3_ := A_ (below_drew1 HB.out)
  clear BK486;clear BK487;clear BK488;clear HB;have BK486 := n0_;have BK487 := n1_;have BK488 := n2_;have HB := n3_;clear n0_ n1_ n2_ n3_
  refine start_ (n := 6) (S := fun w' => w'.cell? ⟨gb486, 0, none⟩ = some (.slice A0_0 l0_0.length c0_0) ∧ w'.cell? ⟨gb487, 0, none⟩ = some (.slice A1_0 l1_0.length c1_0)) (ds := []) #[false, false, false, false, false, false] (by kernel_rfl) rfl rfl ⟨bc_ BK486.out 0, bc_ BK487.out 0⟩ (fun hHeld => ?_)
  generalize w9.drew = w10 at BK486 BK487 BK488 HB hHeld ⊢
  refine pu_ 1 (some 10) #[false, true, false, false, false, false] rfl rfl (by kernel_rfl) ?_
  refine tk2_ 0 (some 9) #[true, true, false, false, false, false] rfl rfl (by kernel_rfl) hHeld ?_
  refine tk2_ 3 (some 12) #[true, true, false, true, false, false] rfl rfl (by kernel_rfl) hHeld ?_
  refine one_ (i := 2) (N := some 11) #[true, true, true, true, false, false] rfl rfl (by kernel_rfl) (by decide) (fun K hK => ?_)
  refine goes_ Try.func103 (by kernel_rfl) rfl #[.agg #[.slice A0_0 l0_0.length c0_0], .int .i64 a2] (by rfl) rfl rfl mp_ ?_
  with_reducible refine (r1_Shl.calls k _ _ l0_0 a2 t489 _ ?side1 ?side2 A5.out).mono ?_
  (case side1 => repeat (first | exact (Kd.C_below HR0_0.out HB.out) | (with_reducible refine Kd.C_alloc ?_ _) | (with_reducible refine Kd.C_drewN ?_ _) | (with_reducible refine Kd.C_drew ?_)))
  (case side2 => exact HC0_0.out)
  rintro e w11 ⟨v490, rfl, ho0, hb⟩
  refine ⟨_, rfl, ?_⟩
  have n0_ := A_ (Kd.R_lower ho0 (below_size (hb3_ HB.out GE486.out GE487.out GE488.out)))
  have n1_ := A_ (bb_ BK486.out hb)
  have n2_ := A_ (bb_ BK487.out hb)
  have n3_ := A_ (bb_ BK488.out hb)
  have n4_ := A_ (below_step (hb3_ HB.out GE486.out GE487.out GE488.out) hb)
  clear BK486;clear BK487;clear BK488;clear HB;have HO491 := n0_;have BK486 := n1_;have BK487 := n2_;have BK488 := n3_;have HB := n4_;clear n0_ n1_ n2_ n3_ n4_;(try clear hb);(try clear hb2);(try clear hk);(try clear hi);(try clear ho0)
  obtain ⟨Ao12, co12, eo12⟩ := Kd.R_slice HO491.out
  (first | subst eo12 | (injection eo12 with f1_ f2_ f3_; have f4_ := f1_.symm; have f5_ := f3_.symm; clear f1_ f2_ f3_; subst f4_; subst f5_))
  refine hK.out _ _ ⟨bc_ BK486.out 0, bc_ BK487.out 0⟩ (fun hHeld => ?_)
  clear hK K
  refine norm_ (a' := ?_) ?_ ?_
  rotate_left
  ·show Act.put _ (some 11) _ = _
   simp only [Act.put, lI_, l0_, lS_, i64_w, i32_w]
   rfl
  refine one_ (i := 4) (N := some 13) #[true, true, true, true, true, false] rfl rfl (by kernel_rfl) (by decide) (fun K hK => ?_)
  refine goes_ Try.func175 (by kernel_rfl) rfl #[.agg #[.slice Ao12 t489.length co12], .agg #[.slice A1_0 l1_0.length c1_0]] (by rfl) rfl rfl mp_ ?_
  with_reducible refine (r3_Quotient.calls k _ _ t489 _ _ l1_0 t492 _ ?side1 ?side2 ?side3 ?side4 A6.out).mono ?_
  (case side1 => repeat (first | exact (Kd.R_reads' HO491.out).2.2 | (with_reducible refine Kd.C_alloc ?_ _) | (with_reducible refine Kd.C_drewN ?_ _) | (with_reducible refine Kd.C_drew ?_)))
  (case side2 => exact (Kd.R_reads' HO491.out).2.1)
  (case side3 => repeat (first | exact (Kd.C_below HR1_0.out HB.out) | (with_reducible refine Kd.C_alloc ?_ _) | (with_reducible refine Kd.C_drewN ?_ _) | (with_reducible refine Kd.C_drew ?_)))
  (case side4 => exact HC1_0.out)
  rintro e w13 ⟨v493, rfl, ho0, hb⟩
  refine ⟨_, rfl, ?_⟩
  have n0_ := A_ (Kd.R_elder' (kr_ HO491.out) (Kd.R_base ho0) hb)
  have n1_ := A_ (Kd.R_lower (Kd.R_new' ho0 (Kd.R_lt (kr_ HO491.out))) (below_size (hb3_ HB.out GE486.out GE487.out GE488.out)))
  have n2_ := A_ (bb_ BK486.out hb)
  have n3_ := A_ (bb_ BK487.out hb)
  have n4_ := A_ (bb_ BK488.out hb)
  have n5_ := A_ (below_step (hb3_ HB.out GE486.out GE487.out GE488.out) hb)
  clear HO491;clear BK486;clear BK487;clear BK488;clear HB;have HO491 := n0_;have HO494 := n1_;have BK486 := n2_;have BK487 := n3_;have BK488 := n4_;have HB := n5_;clear n0_ n1_ n2_ n3_ n4_ n5_;(try clear hb);(try clear hb2);(try clear hk);(try clear hi);(try clear ho0)
  obtain ⟨Ao14, co14, eo14⟩ := Kd.R_slice HO494.out
  (first | subst eo14 | (injection eo14 with f1_ f2_ f3_; have f4_ := f1_.symm; have f5_ := f3_.symm; clear f1_ f2_ f3_; subst f4_; subst f5_))
  refine hK.out _ _ ⟨bc_ BK486.out 0, bc_ BK487.out 0⟩ (fun hHeld => ?_)
  clear hK K
  refine norm_ (a' := ?_) ?_ ?_
  rotate_left
  ·show Act.put _ (some 13) _ = _
   simp only [Act.put, lI_, l0_, lS_, i64_w, i32_w]
   rfl
  refine one_ (i := 5) (N := none) #[true, true, true, true, true, true] rfl rfl (by kernel_rfl) (by decide) (fun K hK => ?_)
  have hs15 : w13.cell? ⟨gb488, 0, none⟩ = some (.slice none 0 0) := bc_ BK488.out 0
  have hfs15 := blk_frozen BK488.out 0
  have hns15_0 := NB486_488.out
  have hns15_1 := NB487_488.out
  have hms15_0 := NB488_486.out
  have hms15_1 := NB488_487.out
  refine skip_ (w1 := ?_) (by rfl) rfl ?_ ?_
  rotate_left
  ·go_simp
   rfl
  refine hK.out _ _ ⟨((cell_far (p := ⟨gb488, _, none⟩) NB486_488.out _).trans (hHeld.1)), ((cell_far (p := ⟨gb488, _, none⟩) NB487_488.out _).trans (hHeld.2))⟩ (fun hHeld => ?_)
  clear hK K
  refine done_ (by kernel_rfl) ?_
  try go_wp2
  refine bodyPost_ret (results_cell_row rfl _ _ gb488 56 #[.slice Ao14 t492.length co14] (0, 0) _ rfl (by (with_reducible repeat (first | refine blk_drewN ?_ _ | refine blk_drew ?_ | refine blk_alloc ?_ _)); refine blk_put (cs := #[.slice none 0 0]) ?_ 0 _ rfl; (with_reducible repeat (first | refine blk_drewN ?_ _ | refine blk_drew ?_ | refine blk_alloc ?_ _)); exact BK488.out) Try.underlying56 rfl (by kernel_rfl)) rfl ?_
  exact ⟨_, by first | rfl | (simp [errW_none, errW_some] <;> rfl) | (simp [*, errW_none, errW_some] <;> rfl), by (with_reducible repeat (first | apply Kd.R_alloc | apply Kd.R_drewN | apply Kd.R_drew)); exact Kd.R_mono (Kd.R_far (p := ⟨gb488, 0, none⟩) (Kd.R_types HO494.out BK488.out (by decide)) (fun _ hk => hk.2) (.slice Ao14 t492.length co14)) (fun _ hk => trivial), hb3_ HB.out GE486.out GE487.out GE488.out⟩
 ·rw [if_neg c4] at H
  have c4b0 : decide (0 ≤ a2) = false := decide_eq_false c4
  clear c4
  replace H := ob_ H
  obtain ⟨t495, A160, H⟩ := H
  replace H : ((r3_Quotient.f k l0_0 t495).bind fun t498 => (some t498)) = some r := H
  have A16 := A_ A160;clear A160
  replace H := ob_ H
  obtain ⟨t498, A170, H⟩ := H
  replace H : (some t498) = some r := H
  have A17 := A_ A170;clear A170
  obtain rfl := Option.some.inj H
  go_enter Try.func159, Try.ntmps159
  try go_wp2_with (first | ((with_reducible refine gate_dst (N := 3) rfl ?_); refine be_ 3 #[.slice A0_0 l0_0.length c0_0] 56 ?_; intro gb486 hg w18 hbox hb; have n0_ := A_ (below_step (hb_ HB.out) hb); have n1_ := A_ (hbox); have n2_ := A_ (sz_ hg (hb_ HB.out)); have n3_ := A_ (sz_ hg (hb_ HB.out)); clear HB; have HB := n0_; have BK486 := n1_; have GW486 := n2_; have GE486 := n3_; clear n0_ n1_ n2_ n3_; clear hb hbox hg) | ((with_reducible refine gate_dst (N := 4) rfl ?_); refine be_ 4 #[.slice A1_0 l1_0.length c1_0] 56 ?_; intro gb487 hg w19 hbox hb; have n0_ := A_ (bb_ BK486.out hb); have n1_ := A_ (below_step (hb1_ HB.out GE486.out) hb); have n2_ := A_ (hbox); have n3_ := A_ (sz_ hg (hb1_ HB.out GE486.out)); have n4_ := A_ (sz_ hg (hb1_ HB.out GE486.out)); have n5_ := A_ (nl_ hg BK486.out); have n6_ := A_ (ng_ hg BK486.out); clear BK486; clear HB; have BK486 := n0_; have HB := n1_; have BK487 := n2_; have GW487 := n3_; have GE487 := n4_; have NB486_487 := n5_; have NB487_486 := n6_; clear n0_ n1_ n2_ n3_ n4_ n5_ n6_; clear hb hbox hg) | ((with_reducible refine gate_dst (N := 6) rfl ?_); refine be_ 6 #[.slice none 0 0] 56 ?_; intro gb488 hg w20 hbox hb; have n0_ := A_ (bb_ BK486.out hb); have n1_ := A_ (bb_ BK487.out hb); have n2_ := A_ (below_step (hb2_ HB.out GE486.out GE487.out) hb); have n3_ := A_ (hbox); have n4_ := A_ (sz_ hg (hb2_ HB.out GE486.out GE487.out)); have n5_ := A_ (sz_ hg (hb2_ HB.out GE486.out GE487.out)); have n6_ := A_ (nl_ hg BK486.out); have n7_ := A_ (ng_ hg BK486.out); have n8_ := A_ (nl_ hg BK487.out); have n9_ := A_ (ng_ hg BK487.out); clear BK486; clear BK487; clear HB; have BK486 := n0_; have BK487 := n1_; have HB := n2_; have BK488 := n3_; have GW488 := n4_; have GE488 := n5_; have NB486_488 := n6_; have NB488_486 := n7_; have NB487_488 := n8_; have NB488_487 := n9_; clear n0_ n1_ n2_ n3_ n4_ n5_ n6_ n7_ n8_ n9_; clear hb hbox hg))
  have n0_ := A_ (blk_drew BK486.out)
  have n1_ := A_ (blk_drew BK487.out)
  have n2_ := A_ (blk_drew BK488.out)
  have n3_ := A_ (below_drew1 HB.out)
  clear BK486;clear BK487;clear BK488;clear HB;have BK486 := n0_;have BK487 := n1_;have BK488 := n2_;have HB := n3_;clear n0_ n1_ n2_ n3_
  refine start_ (n := 7) (S := fun w' => w'.cell? ⟨gb486, 0, none⟩ = some (.slice A0_0 l0_0.length c0_0) ∧ w'.cell? ⟨gb487, 0, none⟩ = some (.slice A1_0 l1_0.length c1_0)) (ds := []) #[false, false, false, false, false, false, false] (by kernel_rfl) rfl rfl ⟨bc_ BK486.out 0, bc_ BK487.out 0⟩ (fun hHeld => ?_)
  generalize w20.drew = w21 at BK486 BK487 BK488 HB hHeld ⊢
  refine pu_ 2 (some 16) #[false, false, true, false, false, false, false] rfl rfl (by kernel_rfl) ?_
  refine pu_ 3 (some 17) #[false, false, true, true, false, false, false] rfl rfl (by kernel_rfl) ?_
  refine tk2_ 0 (some 14) #[true, false, true, true, false, false, false] rfl rfl (by kernel_rfl) hHeld ?_
  refine tk2_ 1 (some 15) #[true, true, true, true, false, false, false] rfl rfl (by kernel_rfl) hHeld ?_
  refine one_ (i := 4) (N := some 18) #[true, true, true, true, true, false, false] rfl rfl (by kernel_rfl) (by decide) (fun K hK => ?_)
  refine goes_ Try.func103 (by kernel_rfl) rfl #[.agg #[.slice A1_0 l1_0.length c1_0], .int .i64 (wrap64 (-a2))] (by rfl) rfl rfl mp_ ?_
  with_reducible refine (r1_Shl.calls k _ _ l1_0 (wrap64 (-a2)) t495 _ ?side1 ?side2 A16.out).mono ?_
  (case side1 => repeat (first | exact (Kd.C_below HR1_0.out HB.out) | (with_reducible refine Kd.C_alloc ?_ _) | (with_reducible refine Kd.C_drewN ?_ _) | (with_reducible refine Kd.C_drew ?_)))
  (case side2 => exact HC1_0.out)
  rintro e w22 ⟨v496, rfl, ho0, hb⟩
  refine ⟨_, rfl, ?_⟩
  have n0_ := A_ (Kd.R_lower ho0 (below_size (hb3_ HB.out GE486.out GE487.out GE488.out)))
  have n1_ := A_ (bb_ BK486.out hb)
  have n2_ := A_ (bb_ BK487.out hb)
  have n3_ := A_ (bb_ BK488.out hb)
  have n4_ := A_ (below_step (hb3_ HB.out GE486.out GE487.out GE488.out) hb)
  clear BK486;clear BK487;clear BK488;clear HB;have HO497 := n0_;have BK486 := n1_;have BK487 := n2_;have BK488 := n3_;have HB := n4_;clear n0_ n1_ n2_ n3_ n4_;(try clear hb);(try clear hb2);(try clear hk);(try clear hi);(try clear ho0)
  obtain ⟨Ao23, co23, eo23⟩ := Kd.R_slice HO497.out
  (first | subst eo23 | (injection eo23 with f1_ f2_ f3_; have f4_ := f1_.symm; have f5_ := f3_.symm; clear f1_ f2_ f3_; subst f4_; subst f5_))
  refine hK.out _ _ ⟨bc_ BK486.out 0, bc_ BK487.out 0⟩ (fun hHeld => ?_)
  clear hK K
  refine norm_ (a' := ?_) ?_ ?_
  rotate_left
  ·show Act.put _ (some 18) _ = _
   simp only [Act.put, lI_, l0_, lS_, i64_w, i32_w]
   rfl
  refine one_ (i := 5) (N := some 19) #[true, true, true, true, true, true, false] rfl rfl (by kernel_rfl) (by decide) (fun K hK => ?_)
  refine goes_ Try.func175 (by kernel_rfl) rfl #[.agg #[.slice A0_0 l0_0.length c0_0], .agg #[.slice Ao23 t495.length co23]] (by rfl) rfl rfl mp_ ?_
  with_reducible refine (r3_Quotient.calls k _ _ l0_0 _ _ t495 t498 _ ?side1 ?side2 ?side3 ?side4 A17.out).mono ?_
  (case side1 => repeat (first | exact (Kd.C_below HR0_0.out HB.out) | (with_reducible refine Kd.C_alloc ?_ _) | (with_reducible refine Kd.C_drewN ?_ _) | (with_reducible refine Kd.C_drew ?_)))
  (case side2 => exact HC0_0.out)
  (case side3 => repeat (first | exact (Kd.R_reads' HO497.out).2.2 | (with_reducible refine Kd.C_alloc ?_ _) | (with_reducible refine Kd.C_drewN ?_ _) | (with_reducible refine Kd.C_drew ?_)))
  (case side4 => exact (Kd.R_reads' HO497.out).2.1)
  rintro e w24 ⟨v499, rfl, ho0, hb⟩
  refine ⟨_, rfl, ?_⟩
  have n0_ := A_ (Kd.R_elder' (kr_ HO497.out) (Kd.R_base ho0) hb)
  have n1_ := A_ (Kd.R_lower (Kd.R_new' ho0 (Kd.R_lt (kr_ HO497.out))) (below_size (hb3_ HB.out GE486.out GE487.out GE488.out)))
  have n2_ := A_ (bb_ BK486.out hb)
  have n3_ := A_ (bb_ BK487.out hb)
  have n4_ := A_ (bb_ BK488.out hb)
  have n5_ := A_ (below_step (hb3_ HB.out GE486.out GE487.out GE488.out) hb)
  clear HO497;clear BK486;clear BK487;clear BK488;clear HB;have HO497 := n0_;have HO500 := n1_;have BK486 := n2_;have BK487 := n3_;have BK488 := n4_;have HB := n5_;clear n0_ n1_ n2_ n3_ n4_ n5_;(try clear hb);(try clear hb2);(try clear hk);(try clear hi);(try clear ho0)
  obtain ⟨Ao25, co25, eo25⟩ := Kd.R_slice HO500.out
  (first | subst eo25 | (injection eo25 with f1_ f2_ f3_; have f4_ := f1_.symm; have f5_ := f3_.symm; clear f1_ f2_ f3_; subst f4_; subst f5_))
  refine hK.out _ _ ⟨bc_ BK486.out 0, bc_ BK487.out 0⟩ (fun hHeld => ?_)
  clear hK K
  refine norm_ (a' := ?_) ?_ ?_
  rotate_left
  ·show Act.put _ (some 19) _ = _
   simp only [Act.put, lI_, l0_, lS_, i64_w, i32_w]
   rfl
  refine one_ (i := 6) (N := none) #[true, true, true, true, true, true, true] rfl rfl (by kernel_rfl) (by decide) (fun K hK => ?_)
  have hs26 : w24.cell? ⟨gb488, 0, none⟩ = some (.slice none 0 0) := bc_ BK488.out 0
  have hfs26 := blk_frozen BK488.out 0
  have hns26_0 := NB486_488.out
  have hns26_1 := NB487_488.out
  have hms26_0 := NB488_486.out
  have hms26_1 := NB488_487.out
  refine skip_ (w1 := ?_) (by rfl) rfl ?_ ?_
  rotate_left
  ·go_simp
   rfl
  refine hK.out _ _ ⟨((cell_far (p := ⟨gb488, _, none⟩) NB486_488.out _).trans (hHeld.1)), ((cell_far (p := ⟨gb488, _, none⟩) NB487_488.out _).trans (hHeld.2))⟩ (fun hHeld => ?_)
  clear hK K
  refine done_ (by kernel_rfl) ?_
  try go_wp2
  refine bodyPost_ret (results_cell_row rfl _ _ gb488 56 #[.slice Ao25 t498.length co25] (0, 0) _ rfl (by (with_reducible repeat (first | refine blk_drewN ?_ _ | refine blk_drew ?_ | refine blk_alloc ?_ _)); refine blk_put (cs := #[.slice none 0 0]) ?_ 0 _ rfl; (with_reducible repeat (first | refine blk_drewN ?_ _ | refine blk_drew ?_ | refine blk_alloc ?_ _)); exact BK488.out) Try.underlying56 rfl (by kernel_rfl)) rfl ?_
  exact ⟨_, by first | rfl | (simp [errW_none, errW_some] <;> rfl) | (simp [*, errW_none, errW_some] <;> rfl), by (with_reducible repeat (first | apply Kd.R_alloc | apply Kd.R_drewN | apply Kd.R_drew)); exact Kd.R_mono (Kd.R_far (p := ⟨gb488, 0, none⟩) (Kd.R_types HO500.out BK488.out (by decide)) (fun _ hk => hk.2) (.slice Ao25 t498.length co25)) (fun _ hk => trivial), hb3_ HB.out GE486.out GE487.out GE488.out⟩
def r3_under.f (k : Nat) (l0_0 : List Int) (l1_0 : List Int) (a2 : Int) : Option (Bool) := if a2 ≥ 0 then ((r1_Shl.f k l0_0 a2).bind fun t456 => ((r1_Cmp.f k t456 l1_0).bind fun t459 => (some (decide (t459 < 0))))) else ((r1_Shl.f k l1_0 (wrap64 (-a2))).bind fun t460 => ((r1_Cmp.f k l0_0 t460).bind fun t463 => (some (decide (t463 < 0)))))
theorem r3_under.mono : ∀ a0 a1 a2 k, LeO (r3_under.f k a0 a1 a2) (r3_under.f (k + 1) a0 a1 a2) := by
 intro a0 a1 a2 k
 unfold r3_under.f
 repeat' first
   | (with_reducible exact r1_Cmp.mono _ _ _)
   | (with_reducible exact r1_Shl.mono _ _ _)
   | (with_reducible exact LeO.refl _)
   | (with_reducible exact LeO.none _)
   | (with_reducible refine LeO.ite ?_ ?_)
   | (with_reducible refine LeO.bind ?_ (fun _ => ?_))
   | exact r1_Cmp.mono _ _ _
   | exact r1_Shl.mono _ _ _
   | exact LeO.none _
   | refine LeO.ite ?_ ?_
   | refine LeO.bind ?_ (fun _ => ?_)
def r3_under.T3 : Bool × List (List Nat × List Nat) := (true, [([], []), ([], []), ([], []), ([2], [2]), ([1, 3], [1, 3]), ([0, 4, 4], [0, 4]), ([5], [5]), ([6, 5, 0, 1, 2, 3, 4, 5, 6], [6])])
def r3_under.B3 : List Nat := [0, 0, 0, 4, 14, 31, 63, 127]
theorem r3_under.tab3 : rtab .any (opsOf Try.f158 3) = r3_under.T3 := by kernel_rfl
theorem r3_under.bits3 : waitsOk r3_under.T3.2 r3_under.B3 = true := by kernel_rfl
theorem r3_under.calls (k : Nat) (A0_0 : Option Addr) (c0_0 : Nat) (l0_0 : List Int) (A1_0 : Option Addr) (c1_0 : Nat) (l1_0 : List Int) (a2 : Int) (r : Bool) (w : World) (hr0_0 : Kd.C (Kd.int .u64) w A0_0 l0_0.length l0_0) (hc0_0 : l0_0.length ≤ c0_0) (hr1_0 : Kd.C (Kd.int .u64) w A1_0 l1_0.length l1_0) (hc1_0 : l1_0.length ≤ c1_0) (h : r3_under.f k l0_0 l1_0 a2 = some r) :
  Calls Try.prog 158 #[.agg #[.slice A0_0 l0_0.length c0_0], .agg #[.slice A1_0 l1_0.length c1_0], .int .i64 a2] w fun e w' => e = .returned (.bool r) ∧ Below w.heap.size w w' := by
 have hu56 := Try.underlying56
 have HR0_0 := A_ hr0_0;have HC0_0 := A_ hc0_0;clear hr0_0 hc0_0;have HR1_0 := A_ hr1_0;have HC1_0 := A_ hc1_0;clear hr1_0 hc1_0
 have HB := A_ (Below.refl w.heap.size w)
 have H : (if a2 ≥ 0 then ((r1_Shl.f k l0_0 a2).bind fun t456 => ((r1_Cmp.f k t456 l1_0).bind fun t459 => (some (decide (t459 < 0))))) else ((r1_Shl.f k l1_0 (wrap64 (-a2))).bind fun t460 => ((r1_Cmp.f k l0_0 t460).bind fun t463 => (some (decide (t463 < 0)))))) = some r := h
 clear h
 by_cases c4 : a2 ≥ 0
 ·rw [if_pos c4] at H
  have c4b0 : decide (0 ≤ a2) = true := decide_eq_true c4
  clear c4
  replace H := ob_ H
  obtain ⟨t456, A50, H⟩ := H
  replace H : ((r1_Cmp.f k t456 l1_0).bind fun t459 => (some (decide (t459 < 0)))) = some r := H
  have A5 := A_ A50;clear A50
  replace H := ob_ H
  obtain ⟨t459, A60, H⟩ := H
  replace H : (some (decide (t459 < 0))) = some r := H
  have A6 := A_ A60;clear A60
  obtain rfl := Option.some.inj H
  go_enter Try.func158, Try.ntmps158
  try go_wp2_with (first | ((with_reducible refine gate_dst (N := 3) rfl ?_); refine be_ 3 #[.slice A0_0 l0_0.length c0_0] 56 ?_; intro gb454 hg w7 hbox hb; have n0_ := A_ (below_step (hb_ HB.out) hb); have n1_ := A_ (hbox); have n2_ := A_ (sz_ hg (hb_ HB.out)); have n3_ := A_ (sz_ hg (hb_ HB.out)); clear HB; have HB := n0_; have BK454 := n1_; have GW454 := n2_; have GE454 := n3_; clear n0_ n1_ n2_ n3_; clear hb hbox hg) | ((with_reducible refine gate_dst (N := 4) rfl ?_); refine be_ 4 #[.slice A1_0 l1_0.length c1_0] 56 ?_; intro gb455 hg w8 hbox hb; have n0_ := A_ (bb_ BK454.out hb); have n1_ := A_ (below_step (hb1_ HB.out GE454.out) hb); have n2_ := A_ (hbox); have n3_ := A_ (sz_ hg (hb1_ HB.out GE454.out)); have n4_ := A_ (sz_ hg (hb1_ HB.out GE454.out)); have n5_ := A_ (nl_ hg BK454.out); have n6_ := A_ (ng_ hg BK454.out); clear BK454; clear HB; have BK454 := n0_; have HB := n1_; have BK455 := n2_; have GW455 := n3_; have GE455 := n4_; have NB454_455 := n5_; have NB455_454 := n6_; clear n0_ n1_ n2_ n3_ n4_ n5_ n6_; clear hb hbox hg))
  have n0_ := A_ (blk_drew BK454.out)
  have n1_ := A_ (blk_drew BK455.out)
  have n2_ := A_ (below_drew1 HB.out)
  clear BK454;clear BK455;clear HB;have BK454 := n0_;have BK455 := n1_;have HB := n2_;clear n0_ n1_ n2_
  refine start_ (n := 7) (S := fun w' => w'.cell? ⟨gb454, 0, none⟩ = some (.slice A0_0 l0_0.length c0_0) ∧ w'.cell? ⟨gb455, 0, none⟩ = some (.slice A1_0 l1_0.length c1_0)) (ds := []) #[false, false, false, false, false, false, false] (by kernel_rfl) rfl rfl ⟨bc_ BK454.out 0, bc_ BK455.out 0⟩ (fun hHeld => ?_)
  generalize w8.drew = w9 at BK454 BK455 HB hHeld ⊢
  refine pu_ 1 (some 10) #[false, true, false, false, false, false, false] rfl rfl (by kernel_rfl) ?_
  refine tk2_ 0 (some 9) #[true, true, false, false, false, false, false] rfl rfl (by kernel_rfl) hHeld ?_
  refine tk2_ 3 (some 12) #[true, true, false, true, false, false, false] rfl rfl (by kernel_rfl) hHeld ?_
  refine one_ (i := 2) (N := some 11) #[true, true, true, true, false, false, false] rfl rfl (by kernel_rfl) (by decide) (fun K hK => ?_)
  refine goes_ Try.func103 (by kernel_rfl) rfl #[.agg #[.slice A0_0 l0_0.length c0_0], .int .i64 a2] (by rfl) rfl rfl mp_ ?_
  with_reducible refine (r1_Shl.calls k _ _ l0_0 a2 t456 _ ?side1 ?side2 A5.out).mono ?_
  (case side1 => repeat (first | exact (Kd.C_below HR0_0.out HB.out) | (with_reducible refine Kd.C_alloc ?_ _) | (with_reducible refine Kd.C_drewN ?_ _) | (with_reducible refine Kd.C_drew ?_)))
  (case side2 => exact HC0_0.out)
  rintro e w10 ⟨v457, rfl, ho0, hb⟩
  refine ⟨_, rfl, ?_⟩
  have n0_ := A_ (Kd.R_lower ho0 (below_size (hb2_ HB.out GE454.out GE455.out)))
  have n1_ := A_ (bb_ BK454.out hb)
  have n2_ := A_ (bb_ BK455.out hb)
  have n3_ := A_ (below_step (hb2_ HB.out GE454.out GE455.out) hb)
  clear BK454;clear BK455;clear HB;have HO458 := n0_;have BK454 := n1_;have BK455 := n2_;have HB := n3_;clear n0_ n1_ n2_ n3_;(try clear hb);(try clear hb2);(try clear hk);(try clear hi);(try clear ho0)
  obtain ⟨Ao11, co11, eo11⟩ := Kd.R_slice HO458.out
  (first | subst eo11 | (injection eo11 with f1_ f2_ f3_; have f4_ := f1_.symm; have f5_ := f3_.symm; clear f1_ f2_ f3_; subst f4_; subst f5_))
  refine hK.out _ _ ⟨bc_ BK454.out 0, bc_ BK455.out 0⟩ (fun hHeld => ?_)
  clear hK K
  refine norm_ (a' := ?_) ?_ ?_
  rotate_left
  ·show Act.put _ (some 11) _ = _
   simp only [Act.put, lI_, l0_, lS_, i64_w, i32_w]
   rfl
  refine one_ (i := 4) (N := some 13) #[true, true, true, true, true, false, false] rfl rfl (by kernel_rfl) (by decide) (fun K hK => ?_)
  refine goes_ Try.func100 (by kernel_rfl) rfl #[.agg #[.slice Ao11 t456.length co11], .agg #[.slice A1_0 l1_0.length c1_0]] (by rfl) rfl rfl mp_ ?_
  with_reducible refine (r1_Cmp.calls k _ _ t456 _ _ l1_0 t459 _ ?side1 ?side2 ?side3 ?side4 A6.out).mono ?_
  (case side1 => repeat (first | exact (Kd.R_reads' HO458.out).2.2 | (with_reducible refine Kd.C_alloc ?_ _) | (with_reducible refine Kd.C_drewN ?_ _) | (with_reducible refine Kd.C_drew ?_)))
  (case side2 => exact (Kd.R_reads' HO458.out).2.1)
  (case side3 => repeat (first | exact (Kd.C_below HR1_0.out HB.out) | (with_reducible refine Kd.C_alloc ?_ _) | (with_reducible refine Kd.C_drewN ?_ _) | (with_reducible refine Kd.C_drew ?_)))
  (case side4 => exact HC1_0.out)
  rintro e w12 ⟨rfl, hb⟩
  refine ⟨_, rfl, ?_⟩
  have n0_ := A_ (Kd.R_below (kr_ HO458.out) hb)
  have n1_ := A_ (bb_ BK454.out hb)
  have n2_ := A_ (bb_ BK455.out hb)
  have n3_ := A_ (below_step (hb2_ HB.out GE454.out GE455.out) hb)
  clear HO458;clear BK454;clear BK455;clear HB;have HO458 := n0_;have BK454 := n1_;have BK455 := n2_;have HB := n3_;clear n0_ n1_ n2_ n3_;(try clear hb);(try clear hb2);(try clear hk);(try clear hi)
  refine hK.out _ _ ⟨bc_ BK454.out 0, bc_ BK455.out 0⟩ (fun hHeld => ?_)
  clear hK K
  refine norm_ (a' := ?_) ?_ ?_
  rotate_left
  ·show Act.put _ (some 13) _ = _
   simp only [Act.put, lI_, l0_, lS_, i64_w, i32_w]
   rfl
  refine pu_ 5 (some 14) #[true, true, true, true, true, true, false] rfl rfl (by kernel_rfl) ?_
  refine pu_ 6 (some 6) #[true, true, true, true, true, true, true] rfl rfl (by kernel_rfl) ?_
  refine done_ (by kernel_rfl) ?_
  try go_wp2
  go_ret
  exact ⟨er_, hb2_ HB.out GE454.out GE455.out⟩
 ·rw [if_neg c4] at H
  have c4b0 : decide (0 ≤ a2) = false := decide_eq_false c4
  clear c4
  replace H := ob_ H
  obtain ⟨t460, A130, H⟩ := H
  replace H : ((r1_Cmp.f k l0_0 t460).bind fun t463 => (some (decide (t463 < 0)))) = some r := H
  have A13 := A_ A130;clear A130
  replace H := ob_ H
  obtain ⟨t463, A140, H⟩ := H
  replace H : (some (decide (t463 < 0))) = some r := H
  have A14 := A_ A140;clear A140
  obtain rfl := Option.some.inj H
  go_enter Try.func158, Try.ntmps158
  try go_wp2_with (first | ((with_reducible refine gate_dst (N := 3) rfl ?_); refine be_ 3 #[.slice A0_0 l0_0.length c0_0] 56 ?_; intro gb454 hg w15 hbox hb; have n0_ := A_ (below_step (hb_ HB.out) hb); have n1_ := A_ (hbox); have n2_ := A_ (sz_ hg (hb_ HB.out)); have n3_ := A_ (sz_ hg (hb_ HB.out)); clear HB; have HB := n0_; have BK454 := n1_; have GW454 := n2_; have GE454 := n3_; clear n0_ n1_ n2_ n3_; clear hb hbox hg) | ((with_reducible refine gate_dst (N := 4) rfl ?_); refine be_ 4 #[.slice A1_0 l1_0.length c1_0] 56 ?_; intro gb455 hg w16 hbox hb; have n0_ := A_ (bb_ BK454.out hb); have n1_ := A_ (below_step (hb1_ HB.out GE454.out) hb); have n2_ := A_ (hbox); have n3_ := A_ (sz_ hg (hb1_ HB.out GE454.out)); have n4_ := A_ (sz_ hg (hb1_ HB.out GE454.out)); have n5_ := A_ (nl_ hg BK454.out); have n6_ := A_ (ng_ hg BK454.out); clear BK454; clear HB; have BK454 := n0_; have HB := n1_; have BK455 := n2_; have GW455 := n3_; have GE455 := n4_; have NB454_455 := n5_; have NB455_454 := n6_; clear n0_ n1_ n2_ n3_ n4_ n5_ n6_; clear hb hbox hg))
  have n0_ := A_ (blk_drew BK454.out)
  have n1_ := A_ (blk_drew BK455.out)
  have n2_ := A_ (below_drew1 HB.out)
  clear BK454;clear BK455;clear HB;have BK454 := n0_;have BK455 := n1_;have HB := n2_;clear n0_ n1_ n2_
  refine start_ (n := 8) (S := fun w' => w'.cell? ⟨gb454, 0, none⟩ = some (.slice A0_0 l0_0.length c0_0) ∧ w'.cell? ⟨gb455, 0, none⟩ = some (.slice A1_0 l1_0.length c1_0)) (ds := []) #[false, false, false, false, false, false, false, false] (by kernel_rfl) rfl rfl ⟨bc_ BK454.out 0, bc_ BK455.out 0⟩ (fun hHeld => ?_); refine with_tabW r3_under.tab3 r3_under.bits3 (fun HT_ HW_ => ?_)
  generalize w16.drew = w17 at BK454 BK455 HB hHeld ⊢
  refine pu_ 2 (some 17) #[false, false, true, false, false, false, false, false] rfl rfl (any_of HT_.out (by kernel_rfl)) ?_
  refine pu_ 3 (some 18) #[false, false, true, true, false, false, false, false] rfl rfl (any_of HT_.out (by kernel_rfl)) ?_
  refine tk2_ 0 (some 15) #[true, false, true, true, false, false, false, false] rfl rfl (take_ofW HT_.out HW_.out (by kernel_rfl)) hHeld ?_
  refine tk2_ 1 (some 16) #[true, true, true, true, false, false, false, false] rfl rfl (take_ofW HT_.out HW_.out (by kernel_rfl)) hHeld ?_
  refine one_ (i := 4) (N := some 19) #[true, true, true, true, true, false, false, false] rfl rfl (one_of HT_.out (by kernel_rfl)) (by decide) (fun K hK => ?_)
  refine goes_ Try.func103 (by kernel_rfl) rfl #[.agg #[.slice A1_0 l1_0.length c1_0], .int .i64 (wrap64 (-a2))] (by rfl) rfl rfl mp_ ?_
  with_reducible refine (r1_Shl.calls k _ _ l1_0 (wrap64 (-a2)) t460 _ ?side1 ?side2 A13.out).mono ?_
  (case side1 => repeat (first | exact (Kd.C_below HR1_0.out HB.out) | (with_reducible refine Kd.C_alloc ?_ _) | (with_reducible refine Kd.C_drewN ?_ _) | (with_reducible refine Kd.C_drew ?_)))
  (case side2 => exact HC1_0.out)
  rintro e w18 ⟨v461, rfl, ho0, hb⟩
  refine ⟨_, rfl, ?_⟩
  have n0_ := A_ (Kd.R_lower ho0 (below_size (hb2_ HB.out GE454.out GE455.out)))
  have n1_ := A_ (bb_ BK454.out hb)
  have n2_ := A_ (bb_ BK455.out hb)
  have n3_ := A_ (below_step (hb2_ HB.out GE454.out GE455.out) hb)
  clear BK454;clear BK455;clear HB;have HO462 := n0_;have BK454 := n1_;have BK455 := n2_;have HB := n3_;clear n0_ n1_ n2_ n3_;(try clear hb);(try clear hb2);(try clear hk);(try clear hi);(try clear ho0)
  obtain ⟨Ao19, co19, eo19⟩ := Kd.R_slice HO462.out
  (first | subst eo19 | (injection eo19 with f1_ f2_ f3_; have f4_ := f1_.symm; have f5_ := f3_.symm; clear f1_ f2_ f3_; subst f4_; subst f5_))
  refine hK.out _ _ ⟨bc_ BK454.out 0, bc_ BK455.out 0⟩ (fun hHeld => ?_)
  clear hK K
  refine norm_ (a' := ?_) ?_ ?_
  rotate_left
  ·show Act.put _ (some 19) _ = _
   simp only [Act.put, lI_, l0_, lS_, i64_w, i32_w]
   rfl
  refine one_ (i := 5) (N := some 20) #[true, true, true, true, true, true, false, false] rfl rfl (one_of HT_.out (by kernel_rfl)) (by decide) (fun K hK => ?_)
  refine goes_ Try.func100 (by kernel_rfl) rfl #[.agg #[.slice A0_0 l0_0.length c0_0], .agg #[.slice Ao19 t460.length co19]] (by rfl) rfl rfl mp_ ?_
  with_reducible refine (r1_Cmp.calls k _ _ l0_0 _ _ t460 t463 _ ?side1 ?side2 ?side3 ?side4 A14.out).mono ?_
  (case side1 => repeat (first | exact (Kd.C_below HR0_0.out HB.out) | (with_reducible refine Kd.C_alloc ?_ _) | (with_reducible refine Kd.C_drewN ?_ _) | (with_reducible refine Kd.C_drew ?_)))
  (case side2 => exact HC0_0.out)
  (case side3 => repeat (first | exact (Kd.R_reads' HO462.out).2.2 | (with_reducible refine Kd.C_alloc ?_ _) | (with_reducible refine Kd.C_drewN ?_ _) | (with_reducible refine Kd.C_drew ?_)))
  (case side4 => exact (Kd.R_reads' HO462.out).2.1)
  rintro e w20 ⟨rfl, hb⟩
  refine ⟨_, rfl, ?_⟩
  have n0_ := A_ (Kd.R_below (kr_ HO462.out) hb)
  have n1_ := A_ (bb_ BK454.out hb)
  have n2_ := A_ (bb_ BK455.out hb)
  have n3_ := A_ (below_step (hb2_ HB.out GE454.out GE455.out) hb)
  clear HO462;clear BK454;clear BK455;clear HB;have HO462 := n0_;have BK454 := n1_;have BK455 := n2_;have HB := n3_;clear n0_ n1_ n2_ n3_;(try clear hb);(try clear hb2);(try clear hk);(try clear hi)
  refine hK.out _ _ ⟨bc_ BK454.out 0, bc_ BK455.out 0⟩ (fun hHeld => ?_)
  clear hK K
  refine norm_ (a' := ?_) ?_ ?_
  rotate_left
  ·show Act.put _ (some 20) _ = _
   simp only [Act.put, lI_, l0_, lS_, i64_w, i32_w]
   rfl
  refine pu_ 6 (some 21) #[true, true, true, true, true, true, true, false] rfl rfl (any_of HT_.out (by kernel_rfl)) ?_
  refine pu_ 7 (some 6) #[true, true, true, true, true, true, true, true] rfl rfl (any_of HT_.out (by kernel_rfl)) ?_
  refine done_ (done_of HT_.out (by kernel_rfl)) ?_
  try go_wp2
  go_ret
  exact ⟨er_, hb2_ HB.out GE454.out GE455.out⟩
mutual
def r3_Near.j0 : Nat → Int → Bool → Int → Int → Int → Bool → List Int → List Int → Option (Int)
 | 0, _, _, _, _, _, _, _, _ => none
 | k + 1, x0, x1, x4, x11, x13, x44, x518000, x519000 => if x44 = true then (r3_Near.j1 k x0 x1 x4 x11 (wrap64 (x13 - 1)) x518000 x519000) else (r3_Near.j1 k x0 x1 x4 x11 x13 x518000 x519000)
def r3_Near.j1 : Nat → Int → Bool → Int → Int → Int → List Int → List Int → Option (Int)
 | 0, _, _, _, _, _, _, _ => none
 | k + 1, x0, x1, x4, x11, x13, x518000, x519000 => (r3_grain.f k x518000 x519000 (wrap64 (x4 - x13))).bind fun t525 => ((r1_Len.f k t525).bind fun t529 => (if t529 > (wrap64 (x11 + 1)) then ((r1_Half.f k t525 1).bind fun bt530 => (r3_Near.j2 k x0 x1 x11 (wrap64 (x13 + 1)) bt530.1)) else (r3_Near.j2 k x0 x1 x11 x13 t525)))
def r3_Near.j2 : Nat → Int → Bool → Int → Int → List Int → Option (Int)
 | 0, _, _, _, _, _ => none
 | k + 1, x0, x1, x11, x13, x529000 => (r3_Low.f x0).bind fun t534 => ((r2_Top.f k x0).bind fun t535 => (if x13 > (wrap64 ((wrap64 (t534 + t535)) - 2)) then ((r2_Inf.f k x0 x1).bind fun t536 => (some t536)) else ((r1_Uint.f x529000).bind fun t537 => ((r2_Two.f k x11).bind fun t538 => (if t537 < t538 then ((r2_Make.f k x0 x1 0 t537).bind fun t539 => (some t539)) else ((r3_Low.f x0).bind fun t540 => ((r2_Two.f k x11).bind fun t541 => ((r2_Make.f k x0 x1 (wrap64 ((wrap64 (x13 - t540)) + 1)) (IntKind.u64.wrap (t537 - t541))).bind fun t542 => (some t542)))))))))
end
def r3_Near.f (k : Nat) (a0 : Int) (a1 : Bool) (l2_0 : List Int) (l3_0 : List Int) (a4 : Int) : Option (Int) := (r2_F.f a0).bind fun t519 => ((r1_Len.f k l2_0).bind fun t520 => ((r1_Len.f k l3_0).bind fun t521 => ((r3_Low.f a0).bind fun t522 => ((r3_Low.f a0).bind fun t523 => (if (mx (wrap64 ((wrap64 ((wrap64 (t520 - t521)) + a4)) - t519)) t522) > t523 then ((r3_under.f k l2_0 l3_0 (wrap64 ((wrap64 (a4 - (mx (wrap64 ((wrap64 ((wrap64 (t520 - t521)) + a4)) - t519)) t522))) - t519))).bind fun t524 => (r3_Near.j0 k a0 a1 a4 t519 (mx (wrap64 ((wrap64 ((wrap64 (t520 - t521)) + a4)) - t519)) t522) t524 l2_0 l3_0)) else (r3_Near.j0 k a0 a1 a4 t519 (mx (wrap64 ((wrap64 ((wrap64 (t520 - t521)) + a4)) - t519)) t522) false l2_0 l3_0))))))
theorem r3_Near.mono_l : ∀ k, (∀ y0 y1 y2 y3 y4 y5 y6 y7, LeO (r3_Near.j0 k y0 y1 y2 y3 y4 y5 y6 y7) (r3_Near.j0 (k + 1) y0 y1 y2 y3 y4 y5 y6 y7)) ∧ (∀ y0 y1 y2 y3 y4 y5 y6, LeO (r3_Near.j1 k y0 y1 y2 y3 y4 y5 y6) (r3_Near.j1 (k + 1) y0 y1 y2 y3 y4 y5 y6)) ∧ (∀ y0 y1 y2 y3 y4, LeO (r3_Near.j2 k y0 y1 y2 y3 y4) (r3_Near.j2 (k + 1) y0 y1 y2 y3 y4))
 | 0 => ⟨fun _ _ _ _ _ _ _ _ r h => by simp [r3_Near.j0] at h, fun _ _ _ _ _ _ _ r h => by simp [r3_Near.j1] at h, fun _ _ _ _ _ r h => by simp [r3_Near.j2] at h⟩
 | k + 1 => by
  obtain ⟨ih0, ih1, ih2⟩ := r3_Near.mono_l k
  refine ⟨?_, ?_, ?_⟩
  ·intro y0 y1 y2 y3 y4 y5 y6 y7
   unfold r3_Near.j0
   repeat' first
   | (with_reducible exact ih0 _ _ _ _ _ _ _ _)
   | (with_reducible exact ih1 _ _ _ _ _ _ _)
   | (with_reducible exact ih2 _ _ _ _ _)
   | (with_reducible exact r1_Half.mono _ _ _)
   | (with_reducible exact r1_Len.mono _ _)
   | (with_reducible exact r2_Inf.mono _ _ _)
   | (with_reducible exact r2_Make.mono _ _ _ _ _)
   | (with_reducible exact r2_Top.mono _ _)
   | (with_reducible exact r2_Two.mono _ _)
   | (with_reducible exact r3_grain.mono _ _ _ _)
   | (with_reducible exact r3_under.mono _ _ _ _)
   | (with_reducible exact LeO.refl _)
   | (with_reducible exact LeO.none _)
   | (with_reducible refine LeO.ite ?_ ?_)
   | (with_reducible refine LeO.bind ?_ (fun _ => ?_))
   | exact ih0 _ _ _ _ _ _ _ _
   | exact ih1 _ _ _ _ _ _ _
   | exact ih2 _ _ _ _ _
   | exact r1_Half.mono _ _ _
   | exact r1_Len.mono _ _
   | exact r2_Inf.mono _ _ _
   | exact r2_Make.mono _ _ _ _ _
   | exact r2_Top.mono _ _
   | exact r2_Two.mono _ _
   | exact r3_grain.mono _ _ _ _
   | exact r3_under.mono _ _ _ _
   | exact LeO.none _
   | refine LeO.ite ?_ ?_
   | refine LeO.bind ?_ (fun _ => ?_)
  ·intro y0 y1 y2 y3 y4 y5 y6
   unfold r3_Near.j1
   repeat' first
   | (with_reducible exact ih0 _ _ _ _ _ _ _ _)
   | (with_reducible exact ih1 _ _ _ _ _ _ _)
   | (with_reducible exact ih2 _ _ _ _ _)
   | (with_reducible exact r1_Half.mono _ _ _)
   | (with_reducible exact r1_Len.mono _ _)
   | (with_reducible exact r2_Inf.mono _ _ _)
   | (with_reducible exact r2_Make.mono _ _ _ _ _)
   | (with_reducible exact r2_Top.mono _ _)
   | (with_reducible exact r2_Two.mono _ _)
   | (with_reducible exact r3_grain.mono _ _ _ _)
   | (with_reducible exact r3_under.mono _ _ _ _)
   | (with_reducible exact LeO.refl _)
   | (with_reducible exact LeO.none _)
   | (with_reducible refine LeO.ite ?_ ?_)
   | (with_reducible refine LeO.bind ?_ (fun _ => ?_))
   | exact ih0 _ _ _ _ _ _ _ _
   | exact ih1 _ _ _ _ _ _ _
   | exact ih2 _ _ _ _ _
   | exact r1_Half.mono _ _ _
   | exact r1_Len.mono _ _
   | exact r2_Inf.mono _ _ _
   | exact r2_Make.mono _ _ _ _ _
   | exact r2_Top.mono _ _
   | exact r2_Two.mono _ _
   | exact r3_grain.mono _ _ _ _
   | exact r3_under.mono _ _ _ _
   | exact LeO.none _
   | refine LeO.ite ?_ ?_
   | refine LeO.bind ?_ (fun _ => ?_)
  ·intro y0 y1 y2 y3 y4
   unfold r3_Near.j2
   repeat' first
   | (with_reducible exact ih0 _ _ _ _ _ _ _ _)
   | (with_reducible exact ih1 _ _ _ _ _ _ _)
   | (with_reducible exact ih2 _ _ _ _ _)
   | (with_reducible exact r1_Half.mono _ _ _)
   | (with_reducible exact r1_Len.mono _ _)
   | (with_reducible exact r2_Inf.mono _ _ _)
   | (with_reducible exact r2_Make.mono _ _ _ _ _)
   | (with_reducible exact r2_Top.mono _ _)
   | (with_reducible exact r2_Two.mono _ _)
   | (with_reducible exact r3_grain.mono _ _ _ _)
   | (with_reducible exact r3_under.mono _ _ _ _)
   | (with_reducible exact LeO.refl _)
   | (with_reducible exact LeO.none _)
   | (with_reducible refine LeO.ite ?_ ?_)
   | (with_reducible refine LeO.bind ?_ (fun _ => ?_))
   | exact ih0 _ _ _ _ _ _ _ _
   | exact ih1 _ _ _ _ _ _ _
   | exact ih2 _ _ _ _ _
   | exact r1_Half.mono _ _ _
   | exact r1_Len.mono _ _
   | exact r2_Inf.mono _ _ _
   | exact r2_Make.mono _ _ _ _ _
   | exact r2_Top.mono _ _
   | exact r2_Two.mono _ _
   | exact r3_grain.mono _ _ _ _
   | exact r3_under.mono _ _ _ _
   | exact LeO.none _
   | refine LeO.ite ?_ ?_
   | refine LeO.bind ?_ (fun _ => ?_)
theorem r3_Near.mono : ∀ a0 a1 a2 a3 a4 k, LeO (r3_Near.f k a0 a1 a2 a3 a4) (r3_Near.f (k + 1) a0 a1 a2 a3 a4) := by
 intro a0 a1 a2 a3 a4 k
 obtain ⟨ih0, ih1, ih2⟩ := r3_Near.mono_l k
 unfold r3_Near.f
 repeat' first
   | (with_reducible exact ih0 _ _ _ _ _ _ _ _)
   | (with_reducible exact ih1 _ _ _ _ _ _ _)
   | (with_reducible exact ih2 _ _ _ _ _)
   | (with_reducible exact r1_Half.mono _ _ _)
   | (with_reducible exact r1_Len.mono _ _)
   | (with_reducible exact r2_Inf.mono _ _ _)
   | (with_reducible exact r2_Make.mono _ _ _ _ _)
   | (with_reducible exact r2_Top.mono _ _)
   | (with_reducible exact r2_Two.mono _ _)
   | (with_reducible exact r3_grain.mono _ _ _ _)
   | (with_reducible exact r3_under.mono _ _ _ _)
   | (with_reducible exact LeO.refl _)
   | (with_reducible exact LeO.none _)
   | (with_reducible refine LeO.ite ?_ ?_)
   | (with_reducible refine LeO.bind ?_ (fun _ => ?_))
   | exact ih0 _ _ _ _ _ _ _ _
   | exact ih1 _ _ _ _ _ _ _
   | exact ih2 _ _ _ _ _
   | exact r1_Half.mono _ _ _
   | exact r1_Len.mono _ _
   | exact r2_Inf.mono _ _ _
   | exact r2_Make.mono _ _ _ _ _
   | exact r2_Top.mono _ _
   | exact r2_Two.mono _ _
   | exact r3_grain.mono _ _ _ _
   | exact r3_under.mono _ _ _ _
   | exact LeO.none _
   | refine LeO.ite ?_ ?_
   | refine LeO.bind ?_ (fun _ => ?_)
def r3_Near.T2 : Bool × List (List Nat × List Nat) := (true, [([], []), ([0], [0]), ([], []), ([2, 1], [2]), ([1, 3], [1, 3]), ([], []), ([4, 5], [4, 5]), ([6, 3, 0, 1, 2, 3, 4, 5, 6], [6])])
def r3_Near.B2 : List Nat := [0, 1, 0, 7, 15, 0, 63, 127]
theorem r3_Near.tab2 : rtab .any (opsOf Try.f115 2) = r3_Near.T2 := by kernel_rfl
theorem r3_Near.bits2 : waitsOk r3_Near.T2.2 r3_Near.B2 = true := by kernel_rfl
theorem r3_Near.calls (k : Nat) (a0 : Int) (a1 : Bool) (A2_0 : Option Addr) (c2_0 : Nat) (l2_0 : List Int) (A3_0 : Option Addr) (c3_0 : Nat) (l3_0 : List Int) (a4 : Int) (r : Int) (w : World) (hr2_0 : Kd.C (Kd.int .u64) w A2_0 l2_0.length l2_0) (hc2_0 : l2_0.length ≤ c2_0) (hr3_0 : Kd.C (Kd.int .u64) w A3_0 l3_0.length l3_0) (hc3_0 : l3_0.length ≤ c3_0) (h : r3_Near.f k a0 a1 l2_0 l3_0 a4 = some r) :
  Calls Try.prog 115 #[.int .i64 a0, .bool a1, .agg #[.slice A2_0 l2_0.length c2_0], .agg #[.slice A3_0 l3_0.length c3_0], .int .i64 a4] w fun e w' => e = .returned (.int .u64 r) ∧ Below w.heap.size w w' := by
 have hu56 := Try.underlying56
 have HR2_0 := A_ hr2_0;have HC2_0 := A_ hc2_0;clear hr2_0 hc2_0;have HR3_0 := A_ hr3_0;have HC3_0 := A_ hc3_0;clear hr3_0 hc3_0
 have HB := A_ (Below.refl w.heap.size w)
 have H : ((r2_F.f a0).bind fun t519 => ((r1_Len.f k l2_0).bind fun t520 => ((r1_Len.f k l3_0).bind fun t521 => ((r3_Low.f a0).bind fun t522 => ((r3_Low.f a0).bind fun t523 => (if (mx (wrap64 ((wrap64 ((wrap64 (t520 - t521)) + a4)) - t519)) t522) > t523 then ((r3_under.f k l2_0 l3_0 (wrap64 ((wrap64 (a4 - (mx (wrap64 ((wrap64 ((wrap64 (t520 - t521)) + a4)) - t519)) t522))) - t519))).bind fun t524 => (r3_Near.j0 k a0 a1 a4 t519 (mx (wrap64 ((wrap64 ((wrap64 (t520 - t521)) + a4)) - t519)) t522) t524 l2_0 l3_0)) else (r3_Near.j0 k a0 a1 a4 t519 (mx (wrap64 ((wrap64 ((wrap64 (t520 - t521)) + a4)) - t519)) t522) false l2_0 l3_0))))))) = some r := h
 clear h
 replace H := ob_ H
 obtain ⟨t519, A60, H⟩ := H
 replace H : ((r1_Len.f k l2_0).bind fun t520 => ((r1_Len.f k l3_0).bind fun t521 => ((r3_Low.f a0).bind fun t522 => ((r3_Low.f a0).bind fun t523 => (if (mx (wrap64 ((wrap64 ((wrap64 (t520 - t521)) + a4)) - t519)) t522) > t523 then ((r3_under.f k l2_0 l3_0 (wrap64 ((wrap64 (a4 - (mx (wrap64 ((wrap64 ((wrap64 (t520 - t521)) + a4)) - t519)) t522))) - t519))).bind fun t524 => (r3_Near.j0 k a0 a1 a4 t519 (mx (wrap64 ((wrap64 ((wrap64 (t520 - t521)) + a4)) - t519)) t522) t524 l2_0 l3_0)) else (r3_Near.j0 k a0 a1 a4 t519 (mx (wrap64 ((wrap64 ((wrap64 (t520 - t521)) + a4)) - t519)) t522) false l2_0 l3_0)))))) = some r := H
 have A6 := A_ A60;clear A60
 replace H := ob_ H
 obtain ⟨t520, A70, H⟩ := H
 replace H : ((r1_Len.f k l3_0).bind fun t521 => ((r3_Low.f a0).bind fun t522 => ((r3_Low.f a0).bind fun t523 => (if (mx (wrap64 ((wrap64 ((wrap64 (t520 - t521)) + a4)) - t519)) t522) > t523 then ((r3_under.f k l2_0 l3_0 (wrap64 ((wrap64 (a4 - (mx (wrap64 ((wrap64 ((wrap64 (t520 - t521)) + a4)) - t519)) t522))) - t519))).bind fun t524 => (r3_Near.j0 k a0 a1 a4 t519 (mx (wrap64 ((wrap64 ((wrap64 (t520 - t521)) + a4)) - t519)) t522) t524 l2_0 l3_0)) else (r3_Near.j0 k a0 a1 a4 t519 (mx (wrap64 ((wrap64 ((wrap64 (t520 - t521)) + a4)) - t519)) t522) false l2_0 l3_0))))) = some r := H
 have A7 := A_ A70;clear A70
 replace H := ob_ H
 obtain ⟨t521, A80, H⟩ := H
 replace H : ((r3_Low.f a0).bind fun t522 => ((r3_Low.f a0).bind fun t523 => (if (mx (wrap64 ((wrap64 ((wrap64 (t520 - t521)) + a4)) - t519)) t522) > t523 then ((r3_under.f k l2_0 l3_0 (wrap64 ((wrap64 (a4 - (mx (wrap64 ((wrap64 ((wrap64 (t520 - t521)) + a4)) - t519)) t522))) - t519))).bind fun t524 => (r3_Near.j0 k a0 a1 a4 t519 (mx (wrap64 ((wrap64 ((wrap64 (t520 - t521)) + a4)) - t519)) t522) t524 l2_0 l3_0)) else (r3_Near.j0 k a0 a1 a4 t519 (mx (wrap64 ((wrap64 ((wrap64 (t520 - t521)) + a4)) - t519)) t522) false l2_0 l3_0)))) = some r := H
 have A8 := A_ A80;clear A80
 replace H := ob_ H
 obtain ⟨t522, A90, H⟩ := H
 replace H : ((r3_Low.f a0).bind fun t523 => (if (mx (wrap64 ((wrap64 ((wrap64 (t520 - t521)) + a4)) - t519)) t522) > t523 then ((r3_under.f k l2_0 l3_0 (wrap64 ((wrap64 (a4 - (mx (wrap64 ((wrap64 ((wrap64 (t520 - t521)) + a4)) - t519)) t522))) - t519))).bind fun t524 => (r3_Near.j0 k a0 a1 a4 t519 (mx (wrap64 ((wrap64 ((wrap64 (t520 - t521)) + a4)) - t519)) t522) t524 l2_0 l3_0)) else (r3_Near.j0 k a0 a1 a4 t519 (mx (wrap64 ((wrap64 ((wrap64 (t520 - t521)) + a4)) - t519)) t522) false l2_0 l3_0))) = some r := H
 have A9 := A_ A90;clear A90
 obtain ⟨ji10, hji10⟩ : ∃ j_ : Int, (mx (wrap64 ((wrap64 ((wrap64 (t520 - t521)) + a4)) - t519)) t522) = j_ := ⟨_, rfl⟩
 replace H : ((r3_Low.f a0).bind fun t523 => (if (ji10) > t523 then ((r3_under.f k l2_0 l3_0 (wrap64 ((wrap64 (a4 - (ji10))) - t519))).bind fun t524 => (r3_Near.j0 k a0 a1 a4 t519 ji10 t524 l2_0 l3_0)) else (r3_Near.j0 k a0 a1 a4 t519 ji10 false l2_0 l3_0))) = some r := by first | (rw [hji10] at H; exact H) | (simp only [hji10] at H ⊢; exact H)
 (try rw [hji10] at A6)
 (try rw [hji10] at A7)
 (try rw [hji10] at A8)
 (try rw [hji10] at A9)
 have hji10_ : (if (wrap64 ((wrap64 ((wrap64 (t520 - t521)) + a4)) - t519)) < t522 then t522 else (wrap64 ((wrap64 ((wrap64 (t520 - t521)) + a4)) - t519))) = ji10 := hji10
 have HC11 := A_ H;clear H
 go_enter Try.func115, Try.ntmps115
 try go_wp2_with (first | ((with_reducible refine gate_dst (N := 7) rfl ?_); refine be_ 7 #[.slice A2_0 l2_0.length c2_0] 56 ?_; intro gb517 hg w12 hbox hb; have n0_ := A_ (below_step (hb_ HB.out) hb); have n1_ := A_ (hbox); have n2_ := A_ (sz_ hg (hb_ HB.out)); have n3_ := A_ (sz_ hg (hb_ HB.out)); clear HB; have HB := n0_; have BK517 := n1_; have GW517 := n2_; have GE517 := n3_; clear n0_ n1_ n2_ n3_; clear hb hbox hg) | ((with_reducible refine gate_dst (N := 8) rfl ?_); refine be_ 8 #[.slice A3_0 l3_0.length c3_0] 56 ?_; intro gb518 hg w13 hbox hb; have n0_ := A_ (bb_ BK517.out hb); have n1_ := A_ (below_step (hb1_ HB.out GE517.out) hb); have n2_ := A_ (hbox); have n3_ := A_ (sz_ hg (hb1_ HB.out GE517.out)); have n4_ := A_ (sz_ hg (hb1_ HB.out GE517.out)); have n5_ := A_ (nl_ hg BK517.out); have n6_ := A_ (ng_ hg BK517.out); clear BK517; clear HB; have BK517 := n0_; have HB := n1_; have BK518 := n2_; have GW518 := n3_; have GE518 := n4_; have NB517_518 := n5_; have NB518_517 := n6_; clear n0_ n1_ n2_ n3_ n4_ n5_ n6_; clear hb hbox hg) | ((with_reducible refine gate_callee (f := 130) rfl ?_); refine gl_ (some 17) Try.func130 #[.int .i64 a0] ?_; (with_reducible refine (r2_F.calls a0 t519 _ A6.out).mono ?_); rintro e w' ⟨rfl, ⟨nd, rfl⟩⟩; refine ⟨_, rfl, ?_⟩))
 (try (rw [drewN_self w13]; generalize hq_ : World.drewN w13 _ = w13; have n0_ : Aside0 (w13.heap[gb517]? = some (.cells #[.slice A2_0 l2_0.length c2_0] 56 (0, 0))) := ⟨by rw [← hq_]; exact (bk_ BK517.out)⟩; have n1_ : Aside0 (w13.heap[gb518]? = some (.cells #[.slice A3_0 l3_0.length c3_0] 56 (0, 0))) := ⟨by rw [← hq_]; exact (bk_ BK518.out)⟩; have n2_ : Aside0 (Below w.heap.size w w13) := ⟨by rw [← hq_]; exact (hb2_ HB.out GE517.out GE518.out)⟩; clear BK517 BK518 HB hq_; have BK517 := n0_; have BK518 := n1_; have HB := n2_; clear n0_ n1_ n2_))
 have n0_ := A_ (blk_drew BK517.out)
 have n1_ := A_ (blk_drew BK518.out)
 have n2_ := A_ (below_drew1 HB.out)
 clear BK517;clear BK518;clear HB;have BK517 := n0_;have BK518 := n1_;have HB := n2_;clear n0_ n1_ n2_
 refine start_ (n := 8) (S := fun w' => w'.cell? ⟨gb517, 0, none⟩ = some (.slice A2_0 l2_0.length c2_0) ∧ w'.cell? ⟨gb518, 0, none⟩ = some (.slice A3_0 l3_0.length c3_0)) (ds := []) #[false, false, false, false, false, false, false, false] (by kernel_rfl) rfl rfl ⟨bc_ BK517.out 0, bc_ BK518.out 0⟩ (fun hHeld => ?_); refine with_tabW r3_Near.tab2 r3_Near.bits2 (fun HT_ HW_ => ?_)
 generalize w13.drew = w14 at BK517 BK518 HB hHeld ⊢
 refine pu_ 5 (some 23) #[false, false, false, false, false, true, false, false] rfl rfl (any_of HT_.out (by kernel_rfl)) ?_
 refine tk2_ 0 (some 18) #[true, false, false, false, false, true, false, false] rfl rfl (take_ofW HT_.out HW_.out (by kernel_rfl)) hHeld ?_
 refine tk2_ 2 (some 20) #[true, false, true, false, false, true, false, false] rfl rfl (take_ofW HT_.out HW_.out (by kernel_rfl)) hHeld ?_
 refine one_ (i := 1) (N := some 19) #[true, true, true, false, false, true, false, false] rfl rfl (one_of HT_.out (by kernel_rfl)) (by decide) (fun K hK => ?_)
 refine goes_ Try.func156 (by kernel_rfl) rfl #[.agg #[.slice A2_0 l2_0.length c2_0]] (by rfl) rfl rfl mp_ ?_
 with_reducible refine (r1_Len.calls k _ _ l2_0 t520 _ ?side1 ?side2 A7.out).mono ?_
 (case side1 => repeat (first | exact (Kd.C_below HR2_0.out HB.out) | (with_reducible refine Kd.C_alloc ?_ _) | (with_reducible refine Kd.C_drewN ?_ _) | (with_reducible refine Kd.C_drew ?_)))
 (case side2 => exact HC2_0.out)
 rintro e w15 ⟨rfl, hb⟩
 refine ⟨_, rfl, ?_⟩
 have n0_ := A_ (bb_ BK517.out hb)
 have n1_ := A_ (bb_ BK518.out hb)
 have n2_ := A_ (below_step (hb2_ HB.out GE517.out GE518.out) hb)
 clear BK517;clear BK518;clear HB;have BK517 := n0_;have BK518 := n1_;have HB := n2_;clear n0_ n1_ n2_;(try clear hb);(try clear hb2);(try clear hk);(try clear hi)
 refine hK.out _ _ ⟨bc_ BK517.out 0, bc_ BK518.out 0⟩ (fun hHeld => ?_)
 clear hK K
 refine norm_ (a' := ?_) ?_ ?_
 rotate_left
 ·show Act.put _ (some 19) _ = _
  simp only [Act.put, lI_, l0_, lS_, i64_w, i32_w]
  rfl
 refine one_ (i := 3) (N := some 21) #[true, true, true, true, false, true, false, false] rfl rfl (one_of HT_.out (by kernel_rfl)) (by decide) (fun K hK => ?_)
 refine goes_ Try.func156 (by kernel_rfl) rfl #[.agg #[.slice A3_0 l3_0.length c3_0]] (by rfl) rfl rfl mp_ ?_
 with_reducible refine (r1_Len.calls k _ _ l3_0 t521 _ ?side1 ?side2 A8.out).mono ?_
 (case side1 => repeat (first | exact (Kd.C_below HR3_0.out HB.out) | (with_reducible refine Kd.C_alloc ?_ _) | (with_reducible refine Kd.C_drewN ?_ _) | (with_reducible refine Kd.C_drew ?_)))
 (case side2 => exact HC3_0.out)
 rintro e w16 ⟨rfl, hb⟩
 refine ⟨_, rfl, ?_⟩
 have n0_ := A_ (bb_ BK517.out hb)
 have n1_ := A_ (bb_ BK518.out hb)
 have n2_ := A_ (below_step (hb2_ HB.out GE517.out GE518.out) hb)
 clear BK517;clear BK518;clear HB;have BK517 := n0_;have BK518 := n1_;have HB := n2_;clear n0_ n1_ n2_;(try clear hb);(try clear hb2);(try clear hk);(try clear hi)
 refine hK.out _ _ ⟨bc_ BK517.out 0, bc_ BK518.out 0⟩ (fun hHeld => ?_)
 clear hK K
 refine norm_ (a' := ?_) ?_ ?_
 rotate_left
 ·show Act.put _ (some 21) _ = _
  simp only [Act.put, lI_, l0_, lS_, i64_w, i32_w]
  rfl
 refine pu_ 4 (some 22) #[true, true, true, true, true, true, false, false] rfl rfl (any_of HT_.out (by kernel_rfl)) ?_
 refine pu_ 6 (some 24) #[true, true, true, true, true, true, true, false] rfl rfl (any_of HT_.out (by kernel_rfl)) ?_
 refine pu_ 7 (some 12) #[true, true, true, true, true, true, true, true] rfl rfl (any_of HT_.out (by kernel_rfl)) ?_
 refine done_ (done_of HT_.out (by kernel_rfl)) ?_
 go_upto_region 4 with (first | ((with_reducible refine gate_callee (f := 157) rfl ?_); refine gl_ (some 29) Try.func157 #[.int .i64 a0] ?_; (with_reducible refine (r3_Low.calls a0 t522 _ A9.out).mono ?_); rintro e w' ⟨rfl, ⟨nd, rfl⟩⟩; refine ⟨_, rfl, ?_⟩))
 (try simp only [Act.put, lI_, l0_, lS_])
 go_cut [44] (fun v44 wc => ∃ (kq : Nat) (x44_10 : Bool), v44 = .bool x44_10 ∧ Aside0 (r3_Near.j0 kq a0 a1 a4 t519 ji10 x44_10 l2_0 l3_0 = some r) ∧ Aside0 (kq ≤ k) ∧ Aside0 (wc.heap[gb517]? = some (.cells #[(.slice A2_0 l2_0.length c2_0)] 56 (0, 0))) ∧ Aside0 (wc.heap[gb518]? = some (.cells #[(.slice A3_0 l3_0.length c3_0)] 56 (0, 0))) ∧ Aside0 (Below w.heap.size w wc))
 case first =>
  have H := HC11.out
  clear HC11
  replace H := ob_ H
  obtain ⟨t523, A170, H⟩ := H
  replace H : (if (ji10) > t523 then ((r3_under.f k l2_0 l3_0 (wrap64 ((wrap64 (a4 - (ji10))) - t519))).bind fun t524 => (r3_Near.j0 k a0 a1 a4 t519 ji10 t524 l2_0 l3_0)) else (r3_Near.j0 k a0 a1 a4 t519 ji10 false l2_0 l3_0)) = some r := H
  have A17 := A_ A170;clear A170
  by_cases c18 : (ji10) > t523
  ·rw [if_pos c18] at H
   have c18b0 : decide (t523 < (ji10)) = true := decide_eq_true c18
   clear c18
   (first | rw [c18b0] | (simp only [i64_w, i32_w]; rw [c18b0]) | skip)
   replace H := ob_ H
   obtain ⟨t524, A190, H⟩ := H
   replace H : (r3_Near.j0 k a0 a1 a4 t519 ji10 t524 l2_0 l3_0) = some r := H
   have A19 := A_ A190;clear A190
   have H' := A_ H
   clear H
   go_wp2_with (first | ((with_reducible refine gate_callee (f := 157) rfl ?_); refine gl_ (some 33) Try.func157 #[.int .i64 a0] ?_; (with_reducible refine (r3_Low.calls a0 t523 _ A17.out).mono ?_); rintro e w' ⟨rfl, ⟨nd, rfl⟩⟩; refine ⟨_, rfl, ?_⟩; have hnb20 := NB517_518.out; have hnc20 := NB518_517.out; have hcz21_0 : w16.cell? ⟨gb517, 0, none⟩ = some (.slice A2_0 l2_0.length c2_0) := bc_ BK517.out 0; have hfz21_0 := blk_frozen BK517.out 0; have hcz22_0 : w16.cell? ⟨gb518, 0, none⟩ = some (.slice A3_0 l3_0.length c3_0) := bc_ BK518.out 0; have hfz22_0 := blk_frozen BK518.out 0) | (go_at_call 158; (with_reducible refine (r3_under.calls k _ _ l2_0 _ _ l3_0 (wrap64 ((wrap64 (a4 - (ji10))) - t519)) t524 _ ?side1 ?side2 ?side3 ?side4 A19.out).mono ?_); (case side1 => repeat (first | exact (Kd.C_below HR2_0.out (hb2_ HB.out GE517.out GE518.out)) | (with_reducible refine Kd.C_alloc ?_ _) | (with_reducible refine Kd.C_drewN ?_ _) | (with_reducible refine Kd.C_drew ?_))); (case side2 => exact HC2_0.out); (case side3 => repeat (first | exact (Kd.C_below HR3_0.out (hb2_ HB.out GE517.out GE518.out)) | (with_reducible refine Kd.C_alloc ?_ _) | (with_reducible refine Kd.C_drewN ?_ _) | (with_reducible refine Kd.C_drew ?_))); (case side4 => exact HC3_0.out); rintro e w23 ⟨rfl, hb⟩; have n0_ := A_ (bb_ BK517.out hb); have n1_ := A_ (bb_ BK518.out hb); have n2_ := A_ (below_step (hb2_ HB.out GE517.out GE518.out) hb); clear BK517; clear BK518; clear HB; have BK517 := n0_; have BK518 := n1_; have HB := n2_; clear n0_ n1_ n2_; (try clear hb); (try clear hb2); (try clear hk); (try clear hi)))
   go_meet
   case rel => exact ⟨_, (t524), sm_, H', ⟨by first | omega | exact Nat.le_refl _⟩, ⟨bk_ BK517.out⟩, ⟨bk_ BK518.out⟩, ⟨hb2_ HB.out GE517.out GE518.out⟩⟩
  ·rw [if_neg c18] at H
   have c18b0 : decide (t523 < (ji10)) = false := decide_eq_false c18
   clear c18
   (first | rw [c18b0] | (simp only [i64_w, i32_w]; rw [c18b0]) | skip)
   have H' := A_ H
   clear H
   go_wp2_with (first | ((with_reducible refine gate_callee (f := 157) rfl ?_); refine gl_ (some 33) Try.func157 #[.int .i64 a0] ?_; (with_reducible refine (r3_Low.calls a0 t523 _ A17.out).mono ?_); rintro e w' ⟨rfl, ⟨nd, rfl⟩⟩; refine ⟨_, rfl, ?_⟩))
   go_meet
   case rel => exact ⟨_, (false), sm_, H', ⟨by first | omega | exact Nat.le_refl _⟩, ⟨bk_ BK517.out⟩, ⟨bk_ BK518.out⟩, ⟨hb2_ HB.out GE517.out GE518.out⟩⟩
 case rest =>
  clear HC11
  try clear c1
  try clear c2
  try clear p2
  try clear c3
  try clear p6
  try clear c11
  try clear c13
  try clear c15
  try clear c18
  try clear c18b0
  try clear c20
  try clear hcz21_0
  try clear hcz22_0
  try clear hfz21_0
  try clear hfz22_0
  obtain ⟨kq, x44_10, rfl, HA, HJ10, BK517, BK518, HB⟩ := hcut
  cases kq with
  | zero => exact absurd HA.out (by simp [r3_Near.j0])
  | succ kj10 =>
   have H := HA.out
   clear HA
   simp only [r3_Near.j0] at H
   have HC24 := A_ H;clear H
   go_upto_if 44 with (fail)
   go_cut [13] (fun v13 wc => ∃ (kq : Nat) (x13_23 : Int), v13 = .int .i64 x13_23 ∧ Aside0 (r3_Near.j1 kq a0 a1 a4 t519 x13_23 l2_0 l3_0 = some r) ∧ Aside0 (kq ≤ kj10) ∧ Aside0 (wc.heap[gb517]? = some (.cells #[(.slice A2_0 l2_0.length c2_0)] 56 (0, 0))) ∧ Aside0 (wc.heap[gb518]? = some (.cells #[(.slice A3_0 l3_0.length c3_0)] 56 (0, 0))) ∧ Aside0 (Below w.heap.size w wc))
   case first =>
    have H := HC24.out
    clear HC24
    by_cases c25 : x44_10 = true
    ·subst c25
     have H1 : (r3_Near.j1 kj10 a0 a1 a4 t519 (wrap64 (ji10 - 1)) l2_0 l3_0) = some r := by rw [if_pos rfl] at H; exact H
     clear H;have H := H1;clear H1
     have H' := A_ H
     clear H
     go_wp2
     go_meet
     case rel => exact ⟨_, (wrap64 (ji10 - 1)), (by first | rfl | (simp; done) | (simp only [← hji10] <;> (first | rfl | simp)) | (simp [*]; done)), H', ⟨by have := HJ10.out; first | omega | exact Nat.le_refl _⟩, ⟨bk_ BK517.out⟩, ⟨bk_ BK518.out⟩, ⟨hb2_ HB.out GE517.out GE518.out⟩⟩
    ·replace c25 := Bool.eq_false_iff.mpr c25
     subst c25
     have H1 : (r3_Near.j1 kj10 a0 a1 a4 t519 ji10 l2_0 l3_0) = some r := by rw [if_neg (show ¬ (false = true) by decide)] at H; exact H
     clear H;have H := H1;clear H1
     have H' := A_ H
     clear H
     go_wp2
     go_meet
     case rel => exact ⟨_, (ji10), (by first | rfl | (simp; done) | (simp only [← hji10] <;> (first | rfl | simp)) | (simp [*]; done)), H', ⟨by have := HJ10.out; first | omega | exact Nat.le_refl _⟩, ⟨bk_ BK517.out⟩, ⟨bk_ BK518.out⟩, ⟨hb2_ HB.out GE517.out GE518.out⟩⟩
   case rest =>
    clear HC24
    try clear c1
    try clear c2
    try clear p2
    try clear c3
    try clear p6
    try clear c11
    try clear c13
    try clear c15
    try clear c18
    try clear c18b0
    try clear c20
    try clear c25
    try clear hcz21_0
    try clear hcz22_0
    try clear hfz21_0
    try clear hfz22_0
    try clear p2
    try clear p6
    obtain ⟨kq, x13_23, rfl, HA, HJ23, BK517, BK518, HB⟩ := hcut
    cases kq with
    | zero => exact absurd HA.out (by simp [r3_Near.j1])
    | succ kj23 =>
     have H := HA.out
     clear HA
     simp only [r3_Near.j1] at H
     replace H := ob_ H
     obtain ⟨t525, A260, H⟩ := H
     replace H : ((r1_Len.f kj23 t525).bind fun t529 => (if t529 > (wrap64 (t519 + 1)) then ((r1_Half.f kj23 t525 1).bind fun bt530 => (r3_Near.j2 kj23 a0 a1 t519 (wrap64 (x13_23 + 1)) bt530.1)) else (r3_Near.j2 kj23 a0 a1 t519 x13_23 t525))) = some r := H
     have A26 := A_ A260;clear A260
     replace H := ob_ H
     obtain ⟨t529, A270, H⟩ := H
     replace H : (if t529 > (wrap64 (t519 + 1)) then ((r1_Half.f kj23 t525 1).bind fun bt530 => (r3_Near.j2 kj23 a0 a1 t519 (wrap64 (x13_23 + 1)) bt530.1)) else (r3_Near.j2 kj23 a0 a1 t519 x13_23 t525)) = some r := H
     have A27 := A_ A270;clear A270;have HC28 := A_ H;clear H
     have hnb29 := NB517_518.out
     have hnc29 := NB518_517.out
     have hcz30_0 : wc.cell? ⟨gb517, 0, none⟩ = some (.slice A2_0 l2_0.length c2_0) := bc_ BK517.out 0
     have hfz30_0 := blk_frozen BK517.out 0
     have hcz31_0 : wc.cell? ⟨gb518, 0, none⟩ = some (.slice A3_0 l3_0.length c3_0) := bc_ BK518.out 0
     have hfz31_0 := blk_frozen BK518.out 0
     go_upto_if 57 with (first | ((with_reducible refine gate_callee (f := 159) rfl ?_); refine gl_ (some 52) Try.func159 #[.agg #[.slice A2_0 l2_0.length c2_0], .agg #[.slice A3_0 l3_0.length c3_0], .int .i64 (wrap64 (a4 - x13_23))] ?_; (with_reducible refine (r3_grain.calls kj23 _ _ l2_0 _ _ l3_0 (wrap64 (a4 - x13_23)) t525 _ ?side1 ?side2 ?side3 ?side4 A26.out).mono ?_); (case side1 => repeat (first | exact (Kd.C_below HR2_0.out HB.out) | (with_reducible refine Kd.C_alloc ?_ _) | (with_reducible refine Kd.C_drewN ?_ _) | (with_reducible refine Kd.C_drew ?_))); (case side2 => exact HC2_0.out); (case side3 => repeat (first | exact (Kd.C_below HR3_0.out HB.out) | (with_reducible refine Kd.C_alloc ?_ _) | (with_reducible refine Kd.C_drewN ?_ _) | (with_reducible refine Kd.C_drew ?_))); (case side4 => exact HC3_0.out); rintro e w32 ⟨v526, rfl, ho0, hb⟩; refine ⟨_, rfl, ?_⟩; have n0_ := A_ (Kd.R_lower ho0 (below_size (hb2_ HB.out GE517.out GE518.out))); have n1_ := A_ (bb_ BK517.out hb); have n2_ := A_ (bb_ BK518.out hb); have n3_ := A_ (below_step (hb2_ HB.out GE517.out GE518.out) hb); clear BK517; clear BK518; clear HB; have HO527 := n0_; have BK517 := n1_; have BK518 := n2_; have HB := n3_; clear n0_ n1_ n2_ n3_; (try clear hb); (try clear hb2); (try clear hk); (try clear hi); (try clear ho0)) | ((with_reducible refine gate_dst (N := 14) rfl ?_); refine be_ 14 #[.slice none 0 0] 56 ?_; intro gb528 hg w33 hbox hb; have n0_ := A_ (Kd.R_below (kr_ HO527.out) hb); have n1_ := A_ (bb_ BK517.out hb); have n2_ := A_ (bb_ BK518.out hb); have n3_ := A_ (below_step (hb2_ HB.out GE517.out GE518.out) hb); have n4_ := A_ (hbox); have n5_ := A_ (sz_ hg (hb2_ HB.out GE517.out GE518.out)); have n6_ := A_ (sz_ hg (hb2_ HB.out GE517.out GE518.out)); have n7_ := A_ (nl_ hg BK517.out); have n8_ := A_ (ng_ hg BK517.out); have n9_ := A_ (nl_ hg BK518.out); have n10_ := A_ (ng_ hg BK518.out); clear HO527; clear BK517; clear BK518; clear HB; have HO527 := n0_; have BK517 := n1_; have BK518 := n2_; have HB := n3_; have BK528 := n4_; have GW528 := n5_; have GE528 := n6_; have NB517_528 := n7_; have NB528_517 := n8_; have NB518_528 := n9_; have NB528_518 := n10_; clear n0_ n1_ n2_ n3_ n4_ n5_ n6_ n7_ n8_ n9_ n10_; clear hb hbox hg; obtain ⟨Ao34, co34, eo34⟩ := Kd.R_slice HO527.out; subst eo34; have hnb35 := NB528_517.out; have hnc35 := NB517_528.out; have hnb36 := NB528_518.out; have hnc36 := NB518_528.out; have hcz37_0 : w33.cell? ⟨gb528, 0, none⟩ = some (.slice none 0 0) := bc_ BK528.out 0; have hfz37_0 := blk_frozen BK528.out 0) | ((with_reducible refine gate_callee (f := 156) rfl ?_); refine gl_ (some 54) Try.func156 #[.agg #[.slice Ao34 t525.length co34]] ?_; (with_reducible refine (r1_Len.calls kj23 _ _ t525 t529 _ ?side1 ?side2 A27.out).mono ?_); (case side1 => refine (Kd.R_reads' (e := 24) (base := w.heap.size) (ok := fun k_ => True) (n := t525.length) (c := co34) ?_).2.2; exact (by (with_reducible repeat (first | apply Kd.R_alloc | apply Kd.R_drewN | apply Kd.R_drew)); exact (Kd.R_mono (Kd.R_far (p := ⟨gb528, 0, none⟩) (Kd.R_types HO527.out BK528.out (by decide)) (fun _ hk => hk.2) (.slice Ao34 t525.length co34)) (fun _ h_ => h_.1)))); (case side2 => exact (Kd.R_reads' HO527.out).2.1); rintro e w38 ⟨rfl, hb⟩; refine ⟨_, rfl, ?_⟩; have n0_ := A_ (Kd.R_below (by (with_reducible repeat (first | apply Kd.R_alloc | apply Kd.R_drewN | apply Kd.R_drew)); exact (Kd.R_mono (Kd.R_far (p := ⟨gb528, 0, none⟩) (Kd.R_types HO527.out BK528.out (by decide)) (fun _ hk => hk.2) (.slice Ao34 t525.length co34)) (fun _ h_ => h_.1))) hb); have n1_ := A_ (blk_below (g := gb517) (o := .cells #[.slice A2_0 l2_0.length c2_0] 56 (0, 0)) (bf1_ BK517.out NB517_528.out) hb); have n2_ := A_ (blk_below (g := gb518) (o := .cells #[.slice A3_0 l3_0.length c3_0] 56 (0, 0)) (bf1_ BK518.out NB518_528.out) hb); have n3_ := A_ (blk_below (g := gb528) (o := .cells #[.slice Ao34 t525.length co34] 56 (0, 0)) (by (with_reducible repeat (first | refine blk_drewN ?_ _ | refine blk_drew ?_ | refine blk_alloc ?_ _)); refine blk_put (cs := #[.slice none 0 0]) ?_ 0 _ rfl; (with_reducible repeat (first | refine blk_drewN ?_ _ | refine blk_drew ?_ | refine blk_alloc ?_ _)); exact BK528.out) hb); have n4_ := A_ (below_step (hb3_ HB.out GE517.out GE518.out GE528.out) hb); clear HO527; clear BK517; clear BK518; clear BK528; clear HB; have HO527 := n0_; have BK517 := n1_; have BK518 := n2_; have BK528 := n3_; have HB := n4_; clear n0_ n1_ n2_ n3_ n4_; (try clear hb); (try clear hb2); (try clear hk); (try clear hi)))
     (try simp only [Act.put, lI_, l0_, lS_])
     go_cut [13] (fun v13 wc => ∃ (kq : Nat) (x13_27 : Int) (x529000_27 : List Int) (u529000 : Value), v13 = .int .i64 x13_27 ∧ Aside0 (r3_Near.j2 kq a0 a1 t519 x13_27 x529000_27 = some r) ∧ Aside0 (kq ≤ kj23) ∧ Aside0 (Kd.R (Kd.int .u64) 24 wc w.heap.size (fun _ => True) u529000 x529000_27) ∧ Aside0 (wc.heap[gb517]? = some (.cells #[(.slice A2_0 l2_0.length c2_0)] 56 (0, 0))) ∧ Aside0 (wc.heap[gb518]? = some (.cells #[(.slice A3_0 l3_0.length c3_0)] 56 (0, 0))) ∧ Aside0 (wc.heap[gb528]? = some (.cells #[u529000] 56 (0, 0))) ∧ Aside0 (Below w.heap.size w wc))
     case first =>
      have H := HC28.out
      clear HC28
      by_cases c39 : t529 > (wrap64 (t519 + 1))
      ·rw [if_pos c39] at H
       have c39b0 : decide ((wrap64 (t519 + 1)) < t529) = true := decide_eq_true c39
       clear c39
       (first | rw [c39b0] | (simp only [i64_w, i32_w]; rw [c39b0]) | skip)
       replace H := ob_ H
       obtain ⟨⟨t530, t533⟩, A400, H⟩ := H
       replace H : (r3_Near.j2 kj23 a0 a1 t519 (wrap64 (x13_23 + 1)) t530) = some r := H
       have A40 := A_ A400;clear A400
       have H' := A_ H
       clear H
       have hnb41 := NB528_517.out
       have hnc41 := NB517_528.out
       have hnb42 := NB528_518.out
       have hnc42 := NB518_528.out
       have hcz43_0 : w38.cell? ⟨gb528, 0, none⟩ = some (.slice Ao34 t525.length co34) := bc_ BK528.out 0
       have hfz43_0 := blk_frozen BK528.out 0
       go_wp2_with (first | ((with_reducible refine gate_callee (f := 160) rfl ?_); refine gl_ (some 62) Try.func160 #[.agg #[.slice Ao34 t525.length co34], .int .i64 1] ?_; (with_reducible refine (r1_Half.calls kj23 _ _ t525 1 t530 t533 _ ?side1 ?side2 A40.out).mono ?_); (case side1 => repeat (first | exact (Kd.R_reads' HO527.out).2.2 | (with_reducible refine Kd.C_alloc ?_ _) | (with_reducible refine Kd.C_drewN ?_ _) | (with_reducible refine Kd.C_drew ?_))); (case side2 => exact (Kd.R_reads' HO527.out).2.1); rintro e w44 ⟨v531, rfl, ho0, hb⟩; refine ⟨_, rfl, ?_⟩; have n0_ := A_ (Kd.R_elder' (kr_ HO527.out) (Kd.R_base ho0) hb); have n1_ := A_ (Kd.R_lower (Kd.R_new' ho0 (Kd.R_lt (kr_ HO527.out))) (below_size (hb3_ HB.out GE517.out GE518.out GE528.out))); have n2_ := A_ (bb_ BK517.out hb); have n3_ := A_ (bb_ BK518.out hb); have n4_ := A_ (bb_ BK528.out hb); have n5_ := A_ (below_step (hb3_ HB.out GE517.out GE518.out GE528.out) hb); clear HO527; clear BK517; clear BK518; clear BK528; clear HB; have HO527 := n0_; have HO532 := n1_; have BK517 := n2_; have BK518 := n3_; have BK528 := n4_; have HB := n5_; clear n0_ n1_ n2_ n3_ n4_ n5_; (try clear hb); (try clear hb2); (try clear hk); (try clear hi); (try clear ho0); obtain ⟨Ao45, co45, eo45⟩ := Kd.R_slice HO532.out; subst eo45; have hcz46_0 : w44.cell? ⟨gb528, 0, none⟩ = some (.slice Ao34 t525.length co34) := bc_ BK528.out 0; have hfz46_0 := blk_frozen BK528.out 0))
       go_meet
       case rel => exact ⟨_, (wrap64 (x13_23 + 1)), (t530), (.slice Ao45 t530.length co45), sm_, H', ⟨by have := HJ10.out; have := HJ23.out; first | omega | exact Nat.le_refl _⟩, ⟨by (with_reducible repeat (first | apply Kd.R_alloc | apply Kd.R_drewN | apply Kd.R_drew)); exact Kd.R_mono (Kd.R_far (p := ⟨gb528, 0, none⟩) (Kd.R_types HO532.out BK528.out (by decide)) (fun _ hk => hk.2) (.slice Ao45 t530.length co45)) (fun _ hk => trivial)⟩, ⟨bf1_ BK517.out NB517_528.out⟩, ⟨bf1_ BK518.out NB518_528.out⟩, ⟨by (with_reducible repeat (first | refine blk_drewN ?_ _ | refine blk_drew ?_ | refine blk_alloc ?_ _)); refine blk_put (cs := #[.slice Ao34 t525.length co34]) ?_ 0 _ rfl; (with_reducible repeat (first | refine blk_drewN ?_ _ | refine blk_drew ?_ | refine blk_alloc ?_ _)); exact BK528.out⟩, ⟨hb3_ HB.out GE517.out GE518.out GE528.out⟩⟩
      ·rw [if_neg c39] at H
       have c39b0 : decide ((wrap64 (t519 + 1)) < t529) = false := decide_eq_false c39
       clear c39
       (first | rw [c39b0] | (simp only [i64_w, i32_w]; rw [c39b0]) | skip)
       have H' := A_ H
       clear H
       go_wp2
       go_meet
       case rel => exact ⟨_, (x13_23), (t525), (.slice Ao34 t525.length co34), sm_, H', ⟨by have := HJ10.out; have := HJ23.out; first | omega | exact Nat.le_refl _⟩, ⟨by (with_reducible repeat (first | apply Kd.R_alloc | apply Kd.R_drewN | apply Kd.R_drew)); exact HO527.out⟩, ⟨bk_ BK517.out⟩, ⟨bk_ BK518.out⟩, ⟨bk_ BK528.out⟩, ⟨hb3_ HB.out GE517.out GE518.out GE528.out⟩⟩
     case rest =>
      clear HC28
      try clear c1
      try clear c2
      try clear p2
      try clear c3
      try clear c4
      try clear p6
      try clear c11
      try clear c13
      try clear c15
      try clear c16
      try clear c18
      try clear c18b0
      try clear c20
      try clear c25
      try clear c29
      try clear c35
      try clear c36
      try clear c39
      try clear c39b0
      try clear c41
      try clear c42
      try clear hcz21_0
      try clear hcz22_0
      try clear hcz30_0
      try clear hcz31_0
      try clear hcz37_0
      try clear hcz43_0
      try clear hcz46_0
      try clear hfz21_0
      try clear hfz22_0
      try clear hfz30_0
      try clear hfz31_0
      try clear hfz37_0
      try clear hfz43_0
      try clear hfz46_0
      try clear p2
      try clear p6
      obtain ⟨kq, x13_27, x529000_27, u529000, rfl, HA, HJ27, HO_529000, BK517, BK518, BK528, HB⟩ := hcut
      cases kq with
      | zero => exact absurd HA.out (by simp [r3_Near.j2])
      | succ kj27 =>
       have H := HA.out
       clear HA
       simp only [r3_Near.j2] at H
       replace H := ob_ H
       obtain ⟨t534, A470, H⟩ := H
       replace H : ((r2_Top.f kj27 a0).bind fun t535 => (if x13_27 > (wrap64 ((wrap64 (t534 + t535)) - 2)) then ((r2_Inf.f kj27 a0 a1).bind fun t536 => (some t536)) else ((r1_Uint.f x529000_27).bind fun t537 => ((r2_Two.f kj27 t519).bind fun t538 => (if t537 < t538 then ((r2_Make.f kj27 a0 a1 0 t537).bind fun t539 => (some t539)) else ((r3_Low.f a0).bind fun t540 => ((r2_Two.f kj27 t519).bind fun t541 => ((r2_Make.f kj27 a0 a1 (wrap64 ((wrap64 (x13_27 - t540)) + 1)) (IntKind.u64.wrap (t537 - t541))).bind fun t542 => (some t542))))))))) = some r := H
       have A47 := A_ A470;clear A470
       replace H := ob_ H
       obtain ⟨t535, A480, H⟩ := H
       replace H : (if x13_27 > (wrap64 ((wrap64 (t534 + t535)) - 2)) then ((r2_Inf.f kj27 a0 a1).bind fun t536 => (some t536)) else ((r1_Uint.f x529000_27).bind fun t537 => ((r2_Two.f kj27 t519).bind fun t538 => (if t537 < t538 then ((r2_Make.f kj27 a0 a1 0 t537).bind fun t539 => (some t539)) else ((r3_Low.f a0).bind fun t540 => ((r2_Two.f kj27 t519).bind fun t541 => ((r2_Make.f kj27 a0 a1 (wrap64 ((wrap64 (x13_27 - t540)) + 1)) (IntKind.u64.wrap (t537 - t541))).bind fun t542 => (some t542)))))))) = some r := H
       have A48 := A_ A480;clear A480
       by_cases c49 : x13_27 > (wrap64 ((wrap64 (t534 + t535)) - 2))
       ·rw [if_pos c49] at H
        have c49b0 : decide ((wrap64 ((wrap64 (t534 + t535)) - 2)) < x13_27) = true := decide_eq_true c49
        clear c49
        replace H := ob_ H
        obtain ⟨t536, A500, H⟩ := H
        replace H : (some t536) = some r := H
        have A50 := A_ A500;clear A500
        obtain rfl := Option.some.inj H
        go_wp2_with (first | ((with_reducible refine gate_callee (f := 157) rfl ?_); refine gl_ (some 67) Try.func157 #[.int .i64 a0] ?_; (with_reducible refine (r3_Low.calls a0 t534 _ A47.out).mono ?_); rintro e w' ⟨rfl, ⟨nd, rfl⟩⟩; refine ⟨_, rfl, ?_⟩) | ((with_reducible refine gate_callee (f := 85) rfl ?_); refine gl_ (some 69) Try.func85 #[.int .i64 a0] ?_; (with_reducible refine (r2_Top.calls kj27 a0 t535 _ A48.out).mono ?_); rintro e w' ⟨rfl, ⟨nd, rfl⟩⟩; refine ⟨_, rfl, ?_⟩) | ((with_reducible refine gate_callee (f := 114) rfl ?_); refine gl_ (some 75) Try.func114 #[.int .i64 a0, .bool a1] ?_; (with_reducible refine (r2_Inf.calls kj27 a0 a1 t536 _ A50.out).mono ?_); rintro e w' ⟨rfl, ⟨nd, rfl⟩⟩; refine ⟨_, rfl, ?_⟩))
        go_ret
        exact ⟨by first | rfl | (simp [errW_none, errW_some] <;> rfl) | (simp only [← hji10]; first | rfl | (simp [errW_none, errW_some] <;> rfl)) | (simp [*, errW_none, errW_some] <;> rfl), hb3_ HB.out GE517.out GE518.out GE528.out⟩
       ·rw [if_neg c49] at H
        have c49b0 : decide ((wrap64 ((wrap64 (t534 + t535)) - 2)) < x13_27) = false := decide_eq_false c49
        clear c49
        replace H := ob_ H
        obtain ⟨t537, A510, H⟩ := H
        replace H : ((r2_Two.f kj27 t519).bind fun t538 => (if t537 < t538 then ((r2_Make.f kj27 a0 a1 0 t537).bind fun t539 => (some t539)) else ((r3_Low.f a0).bind fun t540 => ((r2_Two.f kj27 t519).bind fun t541 => ((r2_Make.f kj27 a0 a1 (wrap64 ((wrap64 (x13_27 - t540)) + 1)) (IntKind.u64.wrap (t537 - t541))).bind fun t542 => (some t542)))))) = some r := H
        have A51 := A_ A510;clear A510
        replace H := ob_ H
        obtain ⟨t538, A520, H⟩ := H
        replace H : (if t537 < t538 then ((r2_Make.f kj27 a0 a1 0 t537).bind fun t539 => (some t539)) else ((r3_Low.f a0).bind fun t540 => ((r2_Two.f kj27 t519).bind fun t541 => ((r2_Make.f kj27 a0 a1 (wrap64 ((wrap64 (x13_27 - t540)) + 1)) (IntKind.u64.wrap (t537 - t541))).bind fun t542 => (some t542))))) = some r := H
        have A52 := A_ A520;clear A520
        by_cases c53 : t537 < t538
        ·rw [if_pos c53] at H
         have c53b0 : decide (t537 < t538) = true := decide_eq_true c53
         clear c53
         replace H := ob_ H
         obtain ⟨t539, A540, H⟩ := H
         replace H : (some t539) = some r := H
         have A54 := A_ A540;clear A540
         obtain rfl := Option.some.inj H
         go_wp2_with (first | ((with_reducible refine gate_callee (f := 157) rfl ?_); refine gl_ (some 67) Try.func157 #[.int .i64 a0] ?_; (with_reducible refine (r3_Low.calls a0 t534 _ A47.out).mono ?_); rintro e w' ⟨rfl, ⟨nd, rfl⟩⟩; refine ⟨_, rfl, ?_⟩) | ((with_reducible refine gate_callee (f := 85) rfl ?_); refine gl_ (some 69) Try.func85 #[.int .i64 a0] ?_; (with_reducible refine (r2_Top.calls kj27 a0 t535 _ A48.out).mono ?_); rintro e w' ⟨rfl, ⟨nd, rfl⟩⟩; refine ⟨_, rfl, ?_⟩; have hnb55 := NB528_517.out; have hnc55 := NB517_528.out; have hnb56 := NB528_518.out; have hnc56 := NB518_528.out; have hcz57_0 : wc.cell? ⟨gb528, 0, none⟩ = some (u529000) := bc_ BK528.out 0; have hfz57_0 := blk_frozen BK528.out 0; obtain ⟨Ao58, co58, eo58⟩ := Kd.R_slice HO_529000.out; subst eo58) | ((with_reducible refine gate_callee (f := 101) rfl ?_); refine gl_ (some 77) Try.func101 #[.agg #[.slice Ao58 x529000_27.length co58]] ?_; (with_reducible refine (r1_Uint.calls _ _ x529000_27 t537 _ ?side1 ?side2 A51.out).mono ?_); (case side1 => repeat (first | exact (Kd.R_reads' HO_529000.out).2.2 | (with_reducible refine Kd.C_alloc ?_ _) | (with_reducible refine Kd.C_drewN ?_ _) | (with_reducible refine Kd.C_drew ?_))); (case side2 => exact (Kd.R_reads' HO_529000.out).2.1); rintro e w59 ⟨rfl, hb⟩; refine ⟨_, rfl, ?_⟩; have n0_ := A_ (Kd.R_below (kr_ HO_529000.out) hb); have n1_ := A_ (bb_ BK517.out hb); have n2_ := A_ (bb_ BK518.out hb); have n3_ := A_ (bb_ BK528.out hb); have n4_ := A_ (below_step (hb3_ HB.out GE517.out GE518.out GE528.out) hb); clear HO_529000; clear BK517; clear BK518; clear BK528; clear HB; have HO_529000 := n0_; have BK517 := n1_; have BK518 := n2_; have BK528 := n3_; have HB := n4_; clear n0_ n1_ n2_ n3_ n4_; (try clear hb); (try clear hb2); (try clear hk); (try clear hi)) | ((with_reducible refine gate_callee (f := 99) rfl ?_); refine gl_ (some 80) Try.func99 #[.int .i64 t519] ?_; (with_reducible refine (r2_Two.calls kj27 t519 t538 _ A52.out).mono ?_); rintro e w' ⟨rfl, ⟨nd, rfl⟩⟩; refine ⟨_, rfl, ?_⟩) | ((with_reducible refine gate_callee (f := 95) rfl ?_); refine gl_ (some 85) Try.func95 #[.int .i64 a0, .bool a1, .int .i64 0, .int .u64 t537] ?_; (with_reducible refine (r2_Make.calls kj27 a0 a1 0 t537 t539 _ A54.out).mono ?_); rintro e w' ⟨rfl, ⟨nd, rfl⟩⟩; refine ⟨_, rfl, ?_⟩))
         go_ret
         exact ⟨by first | rfl | (simp [errW_none, errW_some] <;> rfl) | (simp only [← hji10]; first | rfl | (simp [errW_none, errW_some] <;> rfl)) | (simp [*, errW_none, errW_some] <;> rfl), hb3_ HB.out GE517.out GE518.out GE528.out⟩
        ·rw [if_neg c53] at H
         have c53b0 : decide (t537 < t538) = false := decide_eq_false c53
         clear c53
         replace H := ob_ H
         obtain ⟨t540, A600, H⟩ := H
         replace H : ((r2_Two.f kj27 t519).bind fun t541 => ((r2_Make.f kj27 a0 a1 (wrap64 ((wrap64 (x13_27 - t540)) + 1)) (IntKind.u64.wrap (t537 - t541))).bind fun t542 => (some t542))) = some r := H
         have A60 := A_ A600;clear A600
         replace H := ob_ H
         obtain ⟨t541, A610, H⟩ := H
         replace H : ((r2_Make.f kj27 a0 a1 (wrap64 ((wrap64 (x13_27 - t540)) + 1)) (IntKind.u64.wrap (t537 - t541))).bind fun t542 => (some t542)) = some r := H
         have A61 := A_ A610;clear A610
         replace H := ob_ H
         obtain ⟨t542, A620, H⟩ := H
         replace H : (some t542) = some r := H
         have A62 := A_ A620;clear A620
         obtain rfl := Option.some.inj H
         go_wp2_with (first | ((with_reducible refine gate_callee (f := 157) rfl ?_); refine gl_ (some 67) Try.func157 #[.int .i64 a0] ?_; (with_reducible refine (r3_Low.calls a0 t534 _ A47.out).mono ?_); rintro e w' ⟨rfl, ⟨nd, rfl⟩⟩; refine ⟨_, rfl, ?_⟩) | ((with_reducible refine gate_callee (f := 85) rfl ?_); refine gl_ (some 69) Try.func85 #[.int .i64 a0] ?_; (with_reducible refine (r2_Top.calls kj27 a0 t535 _ A48.out).mono ?_); rintro e w' ⟨rfl, ⟨nd, rfl⟩⟩; refine ⟨_, rfl, ?_⟩; have hnb63 := NB528_517.out; have hnc63 := NB517_528.out; have hnb64 := NB528_518.out; have hnc64 := NB518_528.out; have hcz65_0 : wc.cell? ⟨gb528, 0, none⟩ = some (u529000) := bc_ BK528.out 0; have hfz65_0 := blk_frozen BK528.out 0; obtain ⟨Ao66, co66, eo66⟩ := Kd.R_slice HO_529000.out; subst eo66) | ((with_reducible refine gate_callee (f := 101) rfl ?_); refine gl_ (some 77) Try.func101 #[.agg #[.slice Ao66 x529000_27.length co66]] ?_; (with_reducible refine (r1_Uint.calls _ _ x529000_27 t537 _ ?side1 ?side2 A51.out).mono ?_); (case side1 => repeat (first | exact (Kd.R_reads' HO_529000.out).2.2 | (with_reducible refine Kd.C_alloc ?_ _) | (with_reducible refine Kd.C_drewN ?_ _) | (with_reducible refine Kd.C_drew ?_))); (case side2 => exact (Kd.R_reads' HO_529000.out).2.1); rintro e w67 ⟨rfl, hb⟩; refine ⟨_, rfl, ?_⟩; have n0_ := A_ (Kd.R_below (kr_ HO_529000.out) hb); have n1_ := A_ (bb_ BK517.out hb); have n2_ := A_ (bb_ BK518.out hb); have n3_ := A_ (bb_ BK528.out hb); have n4_ := A_ (below_step (hb3_ HB.out GE517.out GE518.out GE528.out) hb); clear HO_529000; clear BK517; clear BK518; clear BK528; clear HB; have HO_529000 := n0_; have BK517 := n1_; have BK518 := n2_; have BK528 := n3_; have HB := n4_; clear n0_ n1_ n2_ n3_ n4_; (try clear hb); (try clear hb2); (try clear hk); (try clear hi)) | ((with_reducible refine gate_callee (f := 99) rfl ?_); refine gl_ (some 80) Try.func99 #[.int .i64 t519] ?_; (with_reducible refine (r2_Two.calls kj27 t519 t538 _ A52.out).mono ?_); rintro e w' ⟨rfl, ⟨nd, rfl⟩⟩; refine ⟨_, rfl, ?_⟩) | ((with_reducible refine gate_callee (f := 157) rfl ?_); refine gl_ (some 90) Try.func157 #[.int .i64 a0] ?_; (with_reducible refine (r3_Low.calls a0 t540 _ A60.out).mono ?_); rintro e w' ⟨rfl, ⟨nd, rfl⟩⟩; refine ⟨_, rfl, ?_⟩) | ((with_reducible refine gate_callee (f := 99) rfl ?_); refine gl_ (some 95) Try.func99 #[.int .i64 t519] ?_; (with_reducible refine (r2_Two.calls kj27 t519 t541 _ A61.out).mono ?_); rintro e w' ⟨rfl, ⟨nd, rfl⟩⟩; refine ⟨_, rfl, ?_⟩) | ((with_reducible refine gate_callee (f := 95) rfl ?_); refine gl_ (some 97) Try.func95 #[.int .i64 a0, .bool a1, .int .i64 (wrap64 ((wrap64 (x13_27 - t540)) + 1)), .int .u64 (IntKind.u64.wrap (t537 - t541))] ?_; (with_reducible refine (r2_Make.calls kj27 a0 a1 (wrap64 ((wrap64 (x13_27 - t540)) + 1)) (IntKind.u64.wrap (t537 - t541)) t542 _ A62.out).mono ?_); rintro e w' ⟨rfl, ⟨nd, rfl⟩⟩; refine ⟨_, rfl, ?_⟩))
         go_ret
         exact ⟨by first | rfl | (simp [errW_none, errW_some] <;> rfl) | (simp only [← hji10]; first | rfl | (simp [errW_none, errW_some] <;> rfl)) | (simp [*, errW_none, errW_some] <;> rfl), hb3_ HB.out GE517.out GE518.out GE528.out⟩
def r3_Exact.j0 : Nat → Int → Bool → Int → Bool → List Int → Option (Int)
 | 0, _, _, _, _, _ => none
 | k + 1, x0, x1, x3, x16, x544000 => if x16 = true then ((r2_Make.f k x0 x1 0 0).bind fun t544 => (some t544)) else (if x3 > 4000 then ((r2_Inf.f k x0 x1).bind fun t545 => (some t545)) else ((r1_Of.f k 1).bind fun t546 => ((r3_Near.f k x0 x1 x544000 t546 x3).bind fun t549 => (some t549))))
def r3_Exact.f (k : Nat) (a0 : Int) (a1 : Bool) (l2_0 : List Int) (a3 : Int) : Option (Int) := if (l2_0.length : Int) = 0 then (r3_Exact.j0 k a0 a1 a3 true l2_0) else (r3_Exact.j0 k a0 a1 a3 (decide (a3 < (-4000))) l2_0)
theorem r3_Exact.mono_l : ∀ k, (∀ y0 y1 y2 y3 y4, LeO (r3_Exact.j0 k y0 y1 y2 y3 y4) (r3_Exact.j0 (k + 1) y0 y1 y2 y3 y4))
 | 0 => fun _ _ _ _ _ r h => by simp [r3_Exact.j0] at h
 | k + 1 => by
  have ih0 := r3_Exact.mono_l k
  ·intro y0 y1 y2 y3 y4
   unfold r3_Exact.j0
   repeat' first
   | (with_reducible exact ih0 _ _ _ _ _)
   | (with_reducible exact r1_Of.mono _ _)
   | (with_reducible exact r2_Inf.mono _ _ _)
   | (with_reducible exact r2_Make.mono _ _ _ _ _)
   | (with_reducible exact r3_Near.mono _ _ _ _ _ _)
   | (with_reducible exact LeO.refl _)
   | (with_reducible exact LeO.none _)
   | (with_reducible refine LeO.ite ?_ ?_)
   | (with_reducible refine LeO.bind ?_ (fun _ => ?_))
   | exact ih0 _ _ _ _ _
   | exact r1_Of.mono _ _
   | exact r2_Inf.mono _ _ _
   | exact r2_Make.mono _ _ _ _ _
   | exact r3_Near.mono _ _ _ _ _ _
   | exact LeO.none _
   | refine LeO.ite ?_ ?_
   | refine LeO.bind ?_ (fun _ => ?_)
theorem r3_Exact.mono : ∀ a0 a1 a2 a3 k, LeO (r3_Exact.f k a0 a1 a2 a3) (r3_Exact.f (k + 1) a0 a1 a2 a3) := by
 intro a0 a1 a2 a3 k
 have ih0 := r3_Exact.mono_l k
 unfold r3_Exact.f
 repeat' first
   | (with_reducible exact ih0 _ _ _ _ _)
   | (with_reducible exact r1_Of.mono _ _)
   | (with_reducible exact r2_Inf.mono _ _ _)
   | (with_reducible exact r2_Make.mono _ _ _ _ _)
   | (with_reducible exact r3_Near.mono _ _ _ _ _ _)
   | (with_reducible exact LeO.refl _)
   | (with_reducible exact LeO.none _)
   | (with_reducible refine LeO.ite ?_ ?_)
   | (with_reducible refine LeO.bind ?_ (fun _ => ?_))
   | exact ih0 _ _ _ _ _
   | exact r1_Of.mono _ _
   | exact r2_Inf.mono _ _ _
   | exact r2_Make.mono _ _ _ _ _
   | exact r3_Near.mono _ _ _ _ _ _
   | exact LeO.none _
   | refine LeO.ite ?_ ?_
   | refine LeO.bind ?_ (fun _ => ?_)
theorem r3_Exact.calls (k : Nat) (a0 : Int) (a1 : Bool) (A2_0 : Option Addr) (c2_0 : Nat) (l2_0 : List Int) (a3 : Int) (r : Int) (w : World) (hr2_0 : Kd.C (Kd.int .u64) w A2_0 l2_0.length l2_0) (hc2_0 : l2_0.length ≤ c2_0) (h : r3_Exact.f k a0 a1 l2_0 a3 = some r) :
  Calls Try.prog 45 #[.int .i64 a0, .bool a1, .agg #[.slice A2_0 l2_0.length c2_0], .int .i64 a3] w fun e w' => e = .returned (.int .u64 r) ∧ Below w.heap.size w w' := by
 have hu56 := Try.underlying56
 have HR2_0 := A_ hr2_0;have HC2_0 := A_ hc2_0;clear hr2_0 hc2_0
 have HB := A_ (Below.refl w.heap.size w)
 have H : (if (l2_0.length : Int) = 0 then (r3_Exact.j0 k a0 a1 a3 true l2_0) else (r3_Exact.j0 k a0 a1 a3 (decide (a3 < (-4000))) l2_0)) = some r := h
 clear h;have HC5 := A_ H;clear H
 go_enter Try.func45, Try.ntmps45
 go_upto_region 1 with (first | ((with_reducible refine gate_dst (N := 6) rfl ?_); refine be_ 6 #[.slice A2_0 l2_0.length c2_0] 56 ?_; intro gb543 hg w6 hbox hb; have n0_ := A_ (below_step (hb_ HB.out) hb); have n1_ := A_ (hbox); have n2_ := A_ (sz_ hg (hb_ HB.out)); have n3_ := A_ (sz_ hg (hb_ HB.out)); clear HB; have HB := n0_; have BK543 := n1_; have GW543 := n2_; have GE543 := n3_; clear n0_ n1_ n2_ n3_; clear hb hbox hg))
 (try simp only [Act.put, lI_, l0_, lS_])
 go_cut [16] (fun v16 wc => ∃ (kq : Nat) (x16_4 : Bool), v16 = .bool x16_4 ∧ Aside0 (r3_Exact.j0 kq a0 a1 a3 x16_4 l2_0 = some r) ∧ Aside0 (kq ≤ k) ∧ Aside0 (wc.heap[gb543]? = some (.cells #[(.slice A2_0 l2_0.length c2_0)] 56 (0, 0))) ∧ Aside0 (Below w.heap.size w wc))
 case first =>
  have H := HC5.out
  clear HC5
  by_cases c7 : (l2_0.length : Int) = 0
  ·rw [if_pos c7] at H
   have c7b0 : ((l2_0.length : Int) == 0) = true := beq_iff_eq.mpr c7
   have c7b1 : ((l2_0.length : Int) != 0) = false := bne_eq_false_iff_eq.mpr c7
   clear c7
   (first | rw [c7b0] | (simp only [i64_w, i32_w]; rw [c7b0]) | skip)
   have H' := A_ H
   clear H
   have hcz8_0 : w6.cell? ⟨gb543, 0, none⟩ = some (.slice A2_0 l2_0.length c2_0) := bc_ BK543.out 0
   have hfz8_0 := blk_frozen BK543.out 0
   go_wp2
   go_meet
   case rel => exact ⟨_, (true), sm_, H', ⟨by first | omega | exact Nat.le_refl _⟩, ⟨bk_ BK543.out⟩, ⟨hb1_ HB.out GE543.out⟩⟩
  ·rw [if_neg c7] at H
   have c7b0 : ((l2_0.length : Int) == 0) = false := beq_eq_false_iff_ne.mpr c7
   have c7b1 : ((l2_0.length : Int) != 0) = true := bne_iff_ne.mpr c7
   have c7b2 : ¬ (l2_0 = []) := fun h_ => c7 (by rw [h_]; rfl)
   (first | rw [c7b0] | (simp only [i64_w, i32_w]; rw [c7b0]) | skip)
   have H' := A_ H
   clear H
   have hcz9_0 : w6.cell? ⟨gb543, 0, none⟩ = some (.slice A2_0 l2_0.length c2_0) := bc_ BK543.out 0
   have hfz9_0 := blk_frozen BK543.out 0
   go_wp2
   go_meet
   case rel => exact ⟨_, (decide (a3 < (-4000))), sm_, H', ⟨by first | omega | exact Nat.le_refl _⟩, ⟨bk_ BK543.out⟩, ⟨hb1_ HB.out GE543.out⟩⟩
 case rest =>
  clear HC5
  try clear c2
  try clear p2
  try clear c4
  try clear c7
  try clear c7b0
  try clear c7b1
  try clear c7b2
  try clear hcz8_0
  try clear hcz9_0
  try clear hfz8_0
  try clear hfz9_0
  obtain ⟨kq, x16_4, rfl, HA, HJ4, BK543, HB⟩ := hcut
  cases kq with
  | zero => exact absurd HA.out (by simp [r3_Exact.j0])
  | succ kj4 =>
   have H := HA.out
   clear HA
   simp only [r3_Exact.j0] at H
   by_cases c10 : x16_4 = true
   ·subst c10
    have H1 : ((r2_Make.f kj4 a0 a1 0 0).bind fun t544 => (some t544)) = some r := by rw [if_pos rfl] at H; exact H
    clear H;have H := H1;clear H1
    replace H := ob_ H
    obtain ⟨t544, A110, H⟩ := H
    replace H : (some t544) = some r := H
    have A11 := A_ A110;clear A110
    obtain rfl := Option.some.inj H
    go_wp2_with (first | ((with_reducible refine gate_callee (f := 95) rfl ?_); refine gl_ (some 19) Try.func95 #[.int .i64 a0, .bool a1, .int .i64 0, .int .u64 0] ?_; (with_reducible refine (r2_Make.calls kj4 a0 a1 0 0 t544 _ A11.out).mono ?_); rintro e w' ⟨rfl, ⟨nd, rfl⟩⟩; refine ⟨_, rfl, ?_⟩))
    go_ret
    exact ⟨er_, hb1_ HB.out GE543.out⟩
   ·replace c10 := Bool.eq_false_iff.mpr c10
    subst c10
    have H1 : (if a3 > 4000 then ((r2_Inf.f kj4 a0 a1).bind fun t545 => (some t545)) else ((r1_Of.f kj4 1).bind fun t546 => ((r3_Near.f kj4 a0 a1 l2_0 t546 a3).bind fun t549 => (some t549)))) = some r := by rw [if_neg (show ¬ (false = true) by decide)] at H; exact H
    clear H;have H := H1;clear H1
    by_cases c12 : a3 > 4000
    ·rw [if_pos c12] at H
     have c12b0 : decide (4000 < a3) = true := decide_eq_true c12
     clear c12
     replace H := ob_ H
     obtain ⟨t545, A130, H⟩ := H
     replace H : (some t545) = some r := H
     have A13 := A_ A130;clear A130
     obtain rfl := Option.some.inj H
     go_wp2_with (first | ((with_reducible refine gate_callee (f := 114) rfl ?_); refine gl_ (some 24) Try.func114 #[.int .i64 a0, .bool a1] ?_; (with_reducible refine (r2_Inf.calls kj4 a0 a1 t545 _ A13.out).mono ?_); rintro e w' ⟨rfl, ⟨nd, rfl⟩⟩; refine ⟨_, rfl, ?_⟩))
     go_ret
     exact ⟨er_, hb1_ HB.out GE543.out⟩
    ·rw [if_neg c12] at H
     have c12b0 : decide (4000 < a3) = false := decide_eq_false c12
     clear c12
     replace H := ob_ H
     obtain ⟨t546, A140, H⟩ := H
     replace H : ((r3_Near.f kj4 a0 a1 l2_0 t546 a3).bind fun t549 => (some t549)) = some r := H
     have A14 := A_ A140;clear A140
     replace H := ob_ H
     obtain ⟨t549, A150, H⟩ := H
     replace H : (some t549) = some r := H
     have A15 := A_ A150;clear A150
     obtain rfl := Option.some.inj H
     try go_wp2
     have n0_ := A_ (blk_drew BK543.out)
     have n1_ := A_ (below_drew1 HB.out)
     clear BK543;clear HB;have BK543 := n0_;have HB := n1_;clear n0_ n1_
     refine start_ (n := 7) (S := fun w' => w'.cell? ⟨gb543, 0, none⟩ = some (.slice A2_0 l2_0.length c2_0)) (ds := []) #[false, false, false, false, false, false, false] (by kernel_rfl) rfl rfl (bc_ BK543.out 0) (fun hHeld => ?_)
     generalize wc.drew = w16 at BK543 HB hHeld ⊢
     refine pu_ 0 (some 25) #[true, false, false, false, false, false, false] rfl rfl (by kernel_rfl) ?_
     refine pu_ 1 (some 26) #[true, true, false, false, false, false, false] rfl rfl (by kernel_rfl) ?_
     refine pu_ 4 (some 29) #[true, true, false, false, true, false, false] rfl rfl (by kernel_rfl) ?_
     refine tk1_ 2 (some 27) #[true, true, true, false, true, false, false] rfl rfl (by kernel_rfl) hHeld ?_
     refine one_ (i := 3) (N := some 28) #[true, true, true, true, true, false, false] rfl rfl (by kernel_rfl) (by decide) (fun K hK => ?_)
     refine goes_ Try.func46 (by kernel_rfl) rfl #[.int .u64 1] (by rfl) rfl rfl mp_ ?_
     with_reducible refine (r1_Of.calls kj4 1 t546 _ A14.out).mono ?_
     rintro e w17 ⟨v547, rfl, ho0, hb⟩
     refine ⟨_, rfl, ?_⟩
     have n0_ := A_ (Kd.R_lower ho0 (below_size (hb1_ HB.out GE543.out)))
     have n1_ := A_ (bb_ BK543.out hb)
     have n2_ := A_ (below_step (hb1_ HB.out GE543.out) hb)
     clear BK543;clear HB;have HO548 := n0_;have BK543 := n1_;have HB := n2_;clear n0_ n1_ n2_;(try clear hb);(try clear hb2);(try clear hk);(try clear hi);(try clear ho0)
     obtain ⟨Ao18, co18, eo18⟩ := Kd.R_slice HO548.out
     (first | subst eo18 | (injection eo18 with f1_ f2_ f3_; have f4_ := f1_.symm; have f5_ := f3_.symm; clear f1_ f2_ f3_; subst f4_; subst f5_))
     refine hK.out _ _ (bc_ BK543.out 0) (fun hHeld => ?_)
     clear hK K
     refine norm_ (a' := ?_) ?_ ?_
     rotate_left
     ·show Act.put _ (some 28) _ = _
      simp only [Act.put, lI_, l0_, lS_, i64_w, i32_w]
      rfl
     refine one_ (i := 5) (N := some 30) #[true, true, true, true, true, true, false] rfl rfl (by kernel_rfl) (by decide) (fun K hK => ?_)
     refine goes_ Try.func115 (by kernel_rfl) rfl #[.int .i64 a0, .bool a1, .agg #[.slice A2_0 l2_0.length c2_0], .agg #[.slice Ao18 t546.length co18], .int .i64 a3] (by rfl) rfl rfl mp_ ?_
     with_reducible refine (r3_Near.calls kj4 a0 a1 _ _ l2_0 _ _ t546 a3 t549 _ ?side1 ?side2 ?side3 ?side4 A15.out).mono ?_
     (case side1 => repeat (first | exact (Kd.C_below HR2_0.out HB.out) | (with_reducible refine Kd.C_alloc ?_ _) | (with_reducible refine Kd.C_drewN ?_ _) | (with_reducible refine Kd.C_drew ?_)))
     (case side2 => exact HC2_0.out)
     (case side3 => repeat (first | exact (Kd.R_reads' HO548.out).2.2 | (with_reducible refine Kd.C_alloc ?_ _) | (with_reducible refine Kd.C_drewN ?_ _) | (with_reducible refine Kd.C_drew ?_)))
     (case side4 => exact (Kd.R_reads' HO548.out).2.1)
     rintro e w19 ⟨rfl, hb⟩
     refine ⟨_, rfl, ?_⟩
     have n0_ := A_ (Kd.R_below (kr_ HO548.out) hb)
     have n1_ := A_ (bb_ BK543.out hb)
     have n2_ := A_ (below_step (hb1_ HB.out GE543.out) hb)
     clear HO548;clear BK543;clear HB;have HO548 := n0_;have BK543 := n1_;have HB := n2_;clear n0_ n1_ n2_;(try clear hb);(try clear hb2);(try clear hk);(try clear hi)
     refine hK.out _ _ (bc_ BK543.out 0) (fun hHeld => ?_)
     clear hK K
     refine norm_ (a' := ?_) ?_ ?_
     rotate_left
     ·show Act.put _ (some 30) _ = _
      simp only [Act.put, lI_, l0_, lS_, i64_w, i32_w]
      rfl
     refine pu_ 6 (some 8) #[true, true, true, true, true, true, true] rfl rfl (by kernel_rfl) ?_
     refine done_ (by kernel_rfl) ?_
     try go_wp2
     go_ret
     exact ⟨er_, hb1_ HB.out GE543.out⟩
mutual
def r5_Mul.j0 : Nat → Int → Bool → Bool → Bool → Int → Int → Int → Bool → Int → Int → Int → Option (Int)
 | 0, _, _, _, _, _, _, _, _, _, _, _ => none
 | k + 1, x0, x9, x48, x694000, x694001, x694002, x694003, x699000, x699001, x699002, x699003 => if x48 = true then ((r2_Nan.f k x0).bind fun t699 => (some t699)) else (if x694001 = 2 then (r5_Mul.j1 k x0 x9 true x694000 x694001 x694002 x694003 x699000 x699001 x699002 x699003) else (r5_Mul.j1 k x0 x9 (x699001 == 2) x694000 x694001 x694002 x694003 x699000 x699001 x699002 x699003))
def r5_Mul.j1 : Nat → Int → Bool → Bool → Bool → Int → Int → Int → Bool → Int → Int → Int → Option (Int)
 | 0, _, _, _, _, _, _, _, _, _, _, _ => none
 | k + 1, x0, x9, x58, x694000, x694001, x694002, x694003, x699000, x699001, x699002, x699003 => if x58 = true then ((r2_Inf.f k x0 x9).bind fun t700 => (some t700)) else ((r1_Of.f k x694003).bind fun t701 => ((r1_Of.f k x699003).bind fun t704 => ((r1_Mul.f k t701 t704).bind fun t707 => ((r3_Exact.f k x0 x9 t707 (wrap64 (x694002 + x699002))).bind fun t710 => (some t710)))))
end
def r5_Mul.f (k : Nat) (a0 : Int) (a1 : Int) (a2 : Int) : Option (Int) := (r2_Open.f k a0 a1).bind fun bt689 => ((r2_Open.f k a0 a2).bind fun bt694 => (if bt689.2.1 = 3 then (r5_Mul.j0 k a0 (bt689.1 != bt694.1) true bt689.1 bt689.2.1 bt689.2.2.1 bt689.2.2.2 bt694.1 bt694.2.1 bt694.2.2.1 bt694.2.2.2) else (if bt694.2.1 = 3 then (r5_Mul.j0 k a0 (bt689.1 != bt694.1) true bt689.1 bt689.2.1 bt689.2.2.1 bt689.2.2.2 bt694.1 bt694.2.1 bt694.2.2.1 bt694.2.2.2) else (if bt689.2.1 = 2 then (if bt694.2.1 = 0 then (r5_Mul.j0 k a0 (bt689.1 != bt694.1) true bt689.1 bt689.2.1 bt689.2.2.1 bt689.2.2.2 bt694.1 bt694.2.1 bt694.2.2.1 bt694.2.2.2) else (if bt689.2.1 = 0 then (r5_Mul.j0 k a0 (bt689.1 != bt694.1) (bt694.2.1 == 2) bt689.1 bt689.2.1 bt689.2.2.1 bt689.2.2.2 bt694.1 bt694.2.1 bt694.2.2.1 bt694.2.2.2) else (r5_Mul.j0 k a0 (bt689.1 != bt694.1) false bt689.1 bt689.2.1 bt689.2.2.1 bt689.2.2.2 bt694.1 bt694.2.1 bt694.2.2.1 bt694.2.2.2))) else (if bt689.2.1 = 0 then (r5_Mul.j0 k a0 (bt689.1 != bt694.1) (bt694.2.1 == 2) bt689.1 bt689.2.1 bt689.2.2.1 bt689.2.2.2 bt694.1 bt694.2.1 bt694.2.2.1 bt694.2.2.2) else (r5_Mul.j0 k a0 (bt689.1 != bt694.1) false bt689.1 bt689.2.1 bt689.2.2.1 bt689.2.2.2 bt694.1 bt694.2.1 bt694.2.2.1 bt694.2.2.2))))))
theorem r5_Mul.mono_l : ∀ k, (∀ y0 y1 y2 y3 y4 y5 y6 y7 y8 y9 y10, LeO (r5_Mul.j0 k y0 y1 y2 y3 y4 y5 y6 y7 y8 y9 y10) (r5_Mul.j0 (k + 1) y0 y1 y2 y3 y4 y5 y6 y7 y8 y9 y10)) ∧ (∀ y0 y1 y2 y3 y4 y5 y6 y7 y8 y9 y10, LeO (r5_Mul.j1 k y0 y1 y2 y3 y4 y5 y6 y7 y8 y9 y10) (r5_Mul.j1 (k + 1) y0 y1 y2 y3 y4 y5 y6 y7 y8 y9 y10))
 | 0 => ⟨fun _ _ _ _ _ _ _ _ _ _ _ r h => by simp [r5_Mul.j0] at h, fun _ _ _ _ _ _ _ _ _ _ _ r h => by simp [r5_Mul.j1] at h⟩
 | k + 1 => by
  obtain ⟨ih0, ih1⟩ := r5_Mul.mono_l k
  refine ⟨?_, ?_⟩
  ·intro y0 y1 y2 y3 y4 y5 y6 y7 y8 y9 y10
   unfold r5_Mul.j0
   repeat' first
   | (with_reducible exact ih0 _ _ _ _ _ _ _ _ _ _ _)
   | (with_reducible exact ih1 _ _ _ _ _ _ _ _ _ _ _)
   | (with_reducible exact r1_Mul.mono _ _ _)
   | (with_reducible exact r1_Of.mono _ _)
   | (with_reducible exact r2_Inf.mono _ _ _)
   | (with_reducible exact r2_Nan.mono _ _)
   | (with_reducible exact r2_Open.mono _ _ _)
   | (with_reducible exact r3_Exact.mono _ _ _ _ _)
   | (with_reducible exact LeO.refl _)
   | (with_reducible exact LeO.none _)
   | (with_reducible refine LeO.ite ?_ ?_)
   | (with_reducible refine LeO.bind ?_ (fun _ => ?_))
   | exact ih0 _ _ _ _ _ _ _ _ _ _ _
   | exact ih1 _ _ _ _ _ _ _ _ _ _ _
   | exact r1_Mul.mono _ _ _
   | exact r1_Of.mono _ _
   | exact r2_Inf.mono _ _ _
   | exact r2_Nan.mono _ _
   | exact r2_Open.mono _ _ _
   | exact r3_Exact.mono _ _ _ _ _
   | exact LeO.none _
   | refine LeO.ite ?_ ?_
   | refine LeO.bind ?_ (fun _ => ?_)
  ·intro y0 y1 y2 y3 y4 y5 y6 y7 y8 y9 y10
   unfold r5_Mul.j1
   repeat' first
   | (with_reducible exact ih0 _ _ _ _ _ _ _ _ _ _ _)
   | (with_reducible exact ih1 _ _ _ _ _ _ _ _ _ _ _)
   | (with_reducible exact r1_Mul.mono _ _ _)
   | (with_reducible exact r1_Of.mono _ _)
   | (with_reducible exact r2_Inf.mono _ _ _)
   | (with_reducible exact r2_Nan.mono _ _)
   | (with_reducible exact r2_Open.mono _ _ _)
   | (with_reducible exact r3_Exact.mono _ _ _ _ _)
   | (with_reducible exact LeO.refl _)
   | (with_reducible exact LeO.none _)
   | (with_reducible refine LeO.ite ?_ ?_)
   | (with_reducible refine LeO.bind ?_ (fun _ => ?_))
   | exact ih0 _ _ _ _ _ _ _ _ _ _ _
   | exact ih1 _ _ _ _ _ _ _ _ _ _ _
   | exact r1_Mul.mono _ _ _
   | exact r1_Of.mono _ _
   | exact r2_Inf.mono _ _ _
   | exact r2_Nan.mono _ _
   | exact r2_Open.mono _ _ _
   | exact r3_Exact.mono _ _ _ _ _
   | exact LeO.none _
   | refine LeO.ite ?_ ?_
   | refine LeO.bind ?_ (fun _ => ?_)
theorem r5_Mul.mono : ∀ a0 a1 a2 k, LeO (r5_Mul.f k a0 a1 a2) (r5_Mul.f (k + 1) a0 a1 a2) := by
 intro a0 a1 a2 k
 obtain ⟨ih0, ih1⟩ := r5_Mul.mono_l k
 unfold r5_Mul.f
 repeat' first
   | (with_reducible exact ih0 _ _ _ _ _ _ _ _ _ _ _)
   | (with_reducible exact ih1 _ _ _ _ _ _ _ _ _ _ _)
   | (with_reducible exact r1_Mul.mono _ _ _)
   | (with_reducible exact r1_Of.mono _ _)
   | (with_reducible exact r2_Inf.mono _ _ _)
   | (with_reducible exact r2_Nan.mono _ _)
   | (with_reducible exact r2_Open.mono _ _ _)
   | (with_reducible exact r3_Exact.mono _ _ _ _ _)
   | (with_reducible exact LeO.refl _)
   | (with_reducible exact LeO.none _)
   | (with_reducible refine LeO.ite ?_ ?_)
   | (with_reducible refine LeO.bind ?_ (fun _ => ?_))
   | exact ih0 _ _ _ _ _ _ _ _ _ _ _
   | exact ih1 _ _ _ _ _ _ _ _ _ _ _
   | exact r1_Mul.mono _ _ _
   | exact r1_Of.mono _ _
   | exact r2_Inf.mono _ _ _
   | exact r2_Nan.mono _ _
   | exact r2_Open.mono _ _ _
   | exact r3_Exact.mono _ _ _ _ _
   | exact LeO.none _
   | refine LeO.ite ?_ ?_
   | refine LeO.bind ?_ (fun _ => ?_)
def r5_Mul.T8 : Bool × List (List Nat × List Nat) := (true, [([], []), ([], []), ([], []), ([2], [2]), ([3], [3]), ([], []), ([5], [5]), ([6, 4], [6]), ([4, 7, 7], [4, 7]), ([], []), ([9], [9]), ([], []), ([11], [11]), ([10, 12], [10, 12]), ([0, 1, 8, 13, 8], [0, 1, 8, 13]), ([14, 14, 0, 1, 2, 3, 4, 5, 6, 7, 8, 9, 10, 11, 12, 13, 14], [14])])
def r5_Mul.B8 : List Nat := [0, 0, 0, 4, 12, 0, 32, 124, 252, 0, 512, 0, 2048, 7680, 16383, 32767]
theorem r5_Mul.tab8 : rtab .any (opsOf Try.f55 8) = r5_Mul.T8 := by kernel_rfl
theorem r5_Mul.bits8 : waitsOk r5_Mul.T8.2 r5_Mul.B8 = true := by kernel_rfl
theorem r5_Mul.calls (k : Nat) (a0 : Int) (a1 : Int) (a2 : Int) (r : Int) (w : World) (h : r5_Mul.f k a0 a1 a2 = some r) :
  Calls Try.prog 55 #[.int .i64 a0, .int .u64 a1, .int .u64 a2] w fun e w' => e = .returned (.int .u64 r) ∧ Below w.heap.size w w' := by
 have hu59 := Try.underlying59
 have HB := A_ (Below.refl w.heap.size w)
 have H : ((r2_Open.f k a0 a1).bind fun bt689 => ((r2_Open.f k a0 a2).bind fun bt694 => (if bt689.2.1 = 3 then (r5_Mul.j0 k a0 (bt689.1 != bt694.1) true bt689.1 bt689.2.1 bt689.2.2.1 bt689.2.2.2 bt694.1 bt694.2.1 bt694.2.2.1 bt694.2.2.2) else (if bt694.2.1 = 3 then (r5_Mul.j0 k a0 (bt689.1 != bt694.1) true bt689.1 bt689.2.1 bt689.2.2.1 bt689.2.2.2 bt694.1 bt694.2.1 bt694.2.2.1 bt694.2.2.2) else (if bt689.2.1 = 2 then (if bt694.2.1 = 0 then (r5_Mul.j0 k a0 (bt689.1 != bt694.1) true bt689.1 bt689.2.1 bt689.2.2.1 bt689.2.2.2 bt694.1 bt694.2.1 bt694.2.2.1 bt694.2.2.2) else (if bt689.2.1 = 0 then (r5_Mul.j0 k a0 (bt689.1 != bt694.1) (bt694.2.1 == 2) bt689.1 bt689.2.1 bt689.2.2.1 bt689.2.2.2 bt694.1 bt694.2.1 bt694.2.2.1 bt694.2.2.2) else (r5_Mul.j0 k a0 (bt689.1 != bt694.1) false bt689.1 bt689.2.1 bt689.2.2.1 bt689.2.2.2 bt694.1 bt694.2.1 bt694.2.2.1 bt694.2.2.2))) else (if bt689.2.1 = 0 then (r5_Mul.j0 k a0 (bt689.1 != bt694.1) (bt694.2.1 == 2) bt689.1 bt689.2.1 bt689.2.2.1 bt689.2.2.2 bt694.1 bt694.2.1 bt694.2.2.1 bt694.2.2.2) else (r5_Mul.j0 k a0 (bt689.1 != bt694.1) false bt689.1 bt689.2.1 bt689.2.2.1 bt689.2.2.2 bt694.1 bt694.2.1 bt694.2.2.1 bt694.2.2.2))))))) = some r := h
 clear h
 replace H := ob_ H
 obtain ⟨⟨t689, t690, t691, t692⟩, A40, H⟩ := H
 replace H : ((r2_Open.f k a0 a2).bind fun bt694 => (if t690 = 3 then (r5_Mul.j0 k a0 (t689 != bt694.1) true t689 t690 t691 t692 bt694.1 bt694.2.1 bt694.2.2.1 bt694.2.2.2) else (if bt694.2.1 = 3 then (r5_Mul.j0 k a0 (t689 != bt694.1) true t689 t690 t691 t692 bt694.1 bt694.2.1 bt694.2.2.1 bt694.2.2.2) else (if t690 = 2 then (if bt694.2.1 = 0 then (r5_Mul.j0 k a0 (t689 != bt694.1) true t689 t690 t691 t692 bt694.1 bt694.2.1 bt694.2.2.1 bt694.2.2.2) else (if t690 = 0 then (r5_Mul.j0 k a0 (t689 != bt694.1) (bt694.2.1 == 2) t689 t690 t691 t692 bt694.1 bt694.2.1 bt694.2.2.1 bt694.2.2.2) else (r5_Mul.j0 k a0 (t689 != bt694.1) false t689 t690 t691 t692 bt694.1 bt694.2.1 bt694.2.2.1 bt694.2.2.2))) else (if t690 = 0 then (r5_Mul.j0 k a0 (t689 != bt694.1) (bt694.2.1 == 2) t689 t690 t691 t692 bt694.1 bt694.2.1 bt694.2.2.1 bt694.2.2.2) else (r5_Mul.j0 k a0 (t689 != bt694.1) false t689 t690 t691 t692 bt694.1 bt694.2.1 bt694.2.2.1 bt694.2.2.2)))))) = some r := H
 have A4 := A_ A40;clear A40
 replace H := ob_ H
 obtain ⟨⟨t694, t695, t696, t697⟩, A50, H⟩ := H
 replace H : (if t690 = 3 then (r5_Mul.j0 k a0 (t689 != t694) true t689 t690 t691 t692 t694 t695 t696 t697) else (if t695 = 3 then (r5_Mul.j0 k a0 (t689 != t694) true t689 t690 t691 t692 t694 t695 t696 t697) else (if t690 = 2 then (if t695 = 0 then (r5_Mul.j0 k a0 (t689 != t694) true t689 t690 t691 t692 t694 t695 t696 t697) else (if t690 = 0 then (r5_Mul.j0 k a0 (t689 != t694) (t695 == 2) t689 t690 t691 t692 t694 t695 t696 t697) else (r5_Mul.j0 k a0 (t689 != t694) false t689 t690 t691 t692 t694 t695 t696 t697))) else (if t690 = 0 then (r5_Mul.j0 k a0 (t689 != t694) (t695 == 2) t689 t690 t691 t692 t694 t695 t696 t697) else (r5_Mul.j0 k a0 (t689 != t694) false t689 t690 t691 t692 t694 t695 t696 t697))))) = some r := H
 have A5 := A_ A50;clear A50;have HC6 := A_ H;clear H
 go_enter Try.func55, Try.ntmps55
 go_upto_region 4 with (first | ((with_reducible refine gate_callee (f := 59) rfl ?_); refine gl_ (some 12) Try.func59 #[.int .i64 a0, .int .u64 a1] ?_; (with_reducible refine (r2_Open.calls k a0 a1 t689 t690 t691 t692 _ A4.out).mono ?_); rintro e w7 ⟨rfl, hb⟩; refine ⟨_, rfl, ?_⟩; have n0_ := A_ (below_step (hb_ HB.out) hb); clear HB; have HB := n0_; clear n0_; (try clear hb); (try clear hb2); (try clear hk); (try clear hi)) | ((with_reducible refine gate_dst (N := 7) rfl ?_); refine be_ 7 #[.bool false, .int .i64 0, .int .i64 0, .int .u64 0] 59 ?_; intro gb693 hg w8 hbox hb; have n0_ := A_ (below_step (hb_ HB.out) hb); have n1_ := A_ (hbox); have n2_ := A_ (sz_ hg (hb_ HB.out)); have n3_ := A_ (sz_ hg (hb_ HB.out)); clear HB; have HB := n0_; have BK693 := n1_; have GW693 := n2_; have GE693 := n3_; clear n0_ n1_ n2_ n3_; clear hb hbox hg; have hcz9_0 : w8.cell? ⟨gb693, 0, none⟩ = some (.bool false) := bc_ BK693.out 0; have hcz9_1 : w8.cell? ⟨gb693, 1, none⟩ = some (.int .i64 0) := bc_ BK693.out 1; have hcz9_2 : w8.cell? ⟨gb693, 2, none⟩ = some (.int .i64 0) := bc_ BK693.out 2; have hcz9_3 : w8.cell? ⟨gb693, 3, none⟩ = some (.int .u64 0) := bc_ BK693.out 3; have hfz9_0 := blk_frozen BK693.out 0; have hfz9_1 := blk_frozen BK693.out 1; have hfz9_2 := blk_frozen BK693.out 2; have hfz9_3 := blk_frozen BK693.out 3) | ((with_reducible refine gate_callee (f := 59) rfl ?_); refine gl_ (some 15) Try.func59 #[.int .i64 a0, .int .u64 a2] ?_; (with_reducible refine (r2_Open.calls k a0 a2 t694 t695 t696 t697 _ A5.out).mono ?_); rintro e w10 ⟨rfl, hb⟩; refine ⟨_, rfl, ?_⟩; have n0_ := A_ (blk_below (g := gb693) (o := .cells #[.bool t689, .int .i64 t690, .int .i64 t691, .int .u64 t692] 59 (0, 0)) (by (with_reducible repeat (first | refine blk_drewN ?_ _ | refine blk_drew ?_ | refine blk_alloc ?_ _)); refine blk_put (cs := #[.bool t689, .int .i64 t690, .int .i64 t691, .int .u64 0]) ?_ 3 _ rfl; (with_reducible repeat (first | refine blk_drewN ?_ _ | refine blk_drew ?_ | refine blk_alloc ?_ _)); refine blk_put (cs := #[.bool t689, .int .i64 t690, .int .i64 0, .int .u64 0]) ?_ 2 _ rfl; (with_reducible repeat (first | refine blk_drewN ?_ _ | refine blk_drew ?_ | refine blk_alloc ?_ _)); refine blk_put (cs := #[.bool t689, .int .i64 0, .int .i64 0, .int .u64 0]) ?_ 1 _ rfl; (with_reducible repeat (first | refine blk_drewN ?_ _ | refine blk_drew ?_ | refine blk_alloc ?_ _)); refine blk_put (cs := #[.bool false, .int .i64 0, .int .i64 0, .int .u64 0]) ?_ 0 _ rfl; (with_reducible repeat (first | refine blk_drewN ?_ _ | refine blk_drew ?_ | refine blk_alloc ?_ _)); exact BK693.out) hb); have n1_ := A_ (below_step (hb1_ HB.out GE693.out) hb); clear BK693; clear HB; have BK693 := n0_; have HB := n1_; clear n0_ n1_; (try clear hb); (try clear hb2); (try clear hk); (try clear hi)) | ((with_reducible refine gate_dst (N := 8) rfl ?_); refine be_ 8 #[.bool false, .int .i64 0, .int .i64 0, .int .u64 0] 59 ?_; intro gb698 hg w11 hbox hb; have n0_ := A_ (bb_ BK693.out hb); have n1_ := A_ (below_step (hb1_ HB.out GE693.out) hb); have n2_ := A_ (hbox); have n3_ := A_ (sz_ hg (hb1_ HB.out GE693.out)); have n4_ := A_ (sz_ hg (hb1_ HB.out GE693.out)); have n5_ := A_ (nl_ hg BK693.out); have n6_ := A_ (ng_ hg BK693.out); clear BK693; clear HB; have BK693 := n0_; have HB := n1_; have BK698 := n2_; have GW698 := n3_; have GE698 := n4_; have NB693_698 := n5_; have NB698_693 := n6_; clear n0_ n1_ n2_ n3_ n4_ n5_ n6_; clear hb hbox hg; have hnb12 := NB698_693.out; have hnc12 := NB693_698.out; have hcz13_0 : w11.cell? ⟨gb698, 0, none⟩ = some (.bool false) := bc_ BK698.out 0; have hcz13_1 : w11.cell? ⟨gb698, 1, none⟩ = some (.int .i64 0) := bc_ BK698.out 1; have hcz13_2 : w11.cell? ⟨gb698, 2, none⟩ = some (.int .i64 0) := bc_ BK698.out 2; have hcz13_3 : w11.cell? ⟨gb698, 3, none⟩ = some (.int .u64 0) := bc_ BK698.out 3; have hfz13_0 := blk_frozen BK698.out 0; have hfz13_1 := blk_frozen BK698.out 1; have hfz13_2 := blk_frozen BK698.out 2; have hfz13_3 := blk_frozen BK698.out 3; have hcz14_0 : w11.cell? ⟨gb693, 0, none⟩ = some (.bool t689) := bc_ BK693.out 0; have hcz14_1 : w11.cell? ⟨gb693, 1, none⟩ = some (.int .i64 t690) := bc_ BK693.out 1; have hcz14_2 : w11.cell? ⟨gb693, 2, none⟩ = some (.int .i64 t691) := bc_ BK693.out 2; have hcz14_3 : w11.cell? ⟨gb693, 3, none⟩ = some (.int .u64 t692) := bc_ BK693.out 3; have hfz14_0 := blk_frozen BK693.out 0; have hfz14_1 := blk_frozen BK693.out 1; have hfz14_2 := blk_frozen BK693.out 2; have hfz14_3 := blk_frozen BK693.out 3))
 (try simp only [Act.put, lI_, l0_, lS_])
 go_cut [48] (fun v48 wc => ∃ (kq : Nat) (x48_5 : Bool), v48 = .bool x48_5 ∧ Aside0 (r5_Mul.j0 kq a0 (t689 != t694) x48_5 t689 t690 t691 t692 t694 t695 t696 t697 = some r) ∧ Aside0 (kq ≤ k) ∧ Aside0 (wc.heap[gb693]? = some (.cells #[.bool t689, .int .i64 t690, .int .i64 t691, .int .u64 t692] 59 (0, 0))) ∧ Aside0 (wc.heap[gb698]? = some (.cells #[.bool t694, .int .i64 t695, .int .i64 t696, .int .u64 t697] 59 (0, 0))) ∧ Aside0 (Below w.heap.size w wc))
 case first =>
  have H := HC6.out
  clear HC6
  by_cases c15 : t690 = 3
  ·rw [if_pos c15] at H
   have c15b0 : (t690 == 3) = true := beq_iff_eq.mpr c15
   have c15b1 : (t690 != 3) = false := bne_eq_false_iff_eq.mpr c15
   clear c15
   (first | rw [c15b0] | (simp only [i64_w, i32_w]; rw [c15b0]) | skip)
   have H' := A_ H
   clear H
   have hnb16 := NB693_698.out
   have hnc16 := NB698_693.out
   have hcz17_0 : w11.cell? ⟨gb693, 0, none⟩ = some (.bool t689) := bc_ BK693.out 0
   have hcz17_1 : w11.cell? ⟨gb693, 1, none⟩ = some (.int .i64 t690) := bc_ BK693.out 1
   have hcz17_2 : w11.cell? ⟨gb693, 2, none⟩ = some (.int .i64 t691) := bc_ BK693.out 2
   have hcz17_3 : w11.cell? ⟨gb693, 3, none⟩ = some (.int .u64 t692) := bc_ BK693.out 3
   have hfz17_0 := blk_frozen BK693.out 0
   have hfz17_1 := blk_frozen BK693.out 1
   have hfz17_2 := blk_frozen BK693.out 2
   have hfz17_3 := blk_frozen BK693.out 3
   go_wp2
   go_meet
   case rel => exact ⟨_, (true), sm_, H', ⟨by first | omega | exact Nat.le_refl _⟩, ⟨bf4_ BK693.out NB693_698.out NB693_698.out NB693_698.out NB693_698.out⟩, ⟨by (with_reducible repeat (first | refine blk_drewN ?_ _ | refine blk_drew ?_ | refine blk_alloc ?_ _)); refine blk_put (cs := #[.bool t694, .int .i64 t695, .int .i64 t696, .int .u64 0]) ?_ 3 _ rfl; (with_reducible repeat (first | refine blk_drewN ?_ _ | refine blk_drew ?_ | refine blk_alloc ?_ _)); refine blk_put (cs := #[.bool t694, .int .i64 t695, .int .i64 0, .int .u64 0]) ?_ 2 _ rfl; (with_reducible repeat (first | refine blk_drewN ?_ _ | refine blk_drew ?_ | refine blk_alloc ?_ _)); refine blk_put (cs := #[.bool t694, .int .i64 0, .int .i64 0, .int .u64 0]) ?_ 1 _ rfl; (with_reducible repeat (first | refine blk_drewN ?_ _ | refine blk_drew ?_ | refine blk_alloc ?_ _)); refine blk_put (cs := #[.bool false, .int .i64 0, .int .i64 0, .int .u64 0]) ?_ 0 _ rfl; (with_reducible repeat (first | refine blk_drewN ?_ _ | refine blk_drew ?_ | refine blk_alloc ?_ _)); exact BK698.out⟩, ⟨hb2_ HB.out GE693.out GE698.out⟩⟩
  ·rw [if_neg c15] at H
   have c15b0 : (t690 == 3) = false := beq_eq_false_iff_ne.mpr c15
   have c15b1 : (t690 != 3) = true := bne_iff_ne.mpr c15
   (first | rw [c15b0] | (simp only [i64_w, i32_w]; rw [c15b0]) | skip)
   by_cases c18 : t695 = 3
   ·rw [if_pos c18] at H
    have c18b0 : (t695 == 3) = true := beq_iff_eq.mpr c18
    have c18b1 : (t695 != 3) = false := bne_eq_false_iff_eq.mpr c18
    clear c18
    have H' := A_ H
    clear H
    have hnb19 := NB693_698.out
    have hnc19 := NB698_693.out
    have hcz20_0 : w11.cell? ⟨gb693, 0, none⟩ = some (.bool t689) := bc_ BK693.out 0
    have hcz20_1 : w11.cell? ⟨gb693, 1, none⟩ = some (.int .i64 t690) := bc_ BK693.out 1
    have hcz20_2 : w11.cell? ⟨gb693, 2, none⟩ = some (.int .i64 t691) := bc_ BK693.out 2
    have hcz20_3 : w11.cell? ⟨gb693, 3, none⟩ = some (.int .u64 t692) := bc_ BK693.out 3
    have hfz20_0 := blk_frozen BK693.out 0
    have hfz20_1 := blk_frozen BK693.out 1
    have hfz20_2 := blk_frozen BK693.out 2
    have hfz20_3 := blk_frozen BK693.out 3
    have hcz21_0 : w11.cell? ⟨gb698, 0, none⟩ = some (.bool false) := bc_ BK698.out 0
    have hcz21_1 : w11.cell? ⟨gb698, 1, none⟩ = some (.int .i64 0) := bc_ BK698.out 1
    have hcz21_2 : w11.cell? ⟨gb698, 2, none⟩ = some (.int .i64 0) := bc_ BK698.out 2
    have hcz21_3 : w11.cell? ⟨gb698, 3, none⟩ = some (.int .u64 0) := bc_ BK698.out 3
    have hfz21_0 := blk_frozen BK698.out 0
    have hfz21_1 := blk_frozen BK698.out 1
    have hfz21_2 := blk_frozen BK698.out 2
    have hfz21_3 := blk_frozen BK698.out 3
    go_wp2
    go_meet
    case rel => exact ⟨_, (true), sm_, H', ⟨by first | omega | exact Nat.le_refl _⟩, ⟨bf4_ BK693.out NB693_698.out NB693_698.out NB693_698.out NB693_698.out⟩, ⟨by (with_reducible repeat (first | refine blk_drewN ?_ _ | refine blk_drew ?_ | refine blk_alloc ?_ _)); refine blk_put (cs := #[.bool t694, .int .i64 t695, .int .i64 t696, .int .u64 0]) ?_ 3 _ rfl; (with_reducible repeat (first | refine blk_drewN ?_ _ | refine blk_drew ?_ | refine blk_alloc ?_ _)); refine blk_put (cs := #[.bool t694, .int .i64 t695, .int .i64 0, .int .u64 0]) ?_ 2 _ rfl; (with_reducible repeat (first | refine blk_drewN ?_ _ | refine blk_drew ?_ | refine blk_alloc ?_ _)); refine blk_put (cs := #[.bool t694, .int .i64 0, .int .i64 0, .int .u64 0]) ?_ 1 _ rfl; (with_reducible repeat (first | refine blk_drewN ?_ _ | refine blk_drew ?_ | refine blk_alloc ?_ _)); refine blk_put (cs := #[.bool false, .int .i64 0, .int .i64 0, .int .u64 0]) ?_ 0 _ rfl; (with_reducible repeat (first | refine blk_drewN ?_ _ | refine blk_drew ?_ | refine blk_alloc ?_ _)); exact BK698.out⟩, ⟨hb2_ HB.out GE693.out GE698.out⟩⟩
   ·rw [if_neg c18] at H
    have c18b0 : (t695 == 3) = false := beq_eq_false_iff_ne.mpr c18
    have c18b1 : (t695 != 3) = true := bne_iff_ne.mpr c18
    by_cases c22 : t690 = 2
    ·rw [if_pos c22] at H
     have c22b0 : (t690 == 2) = true := beq_iff_eq.mpr c22
     have c22b1 : (t690 != 2) = false := bne_eq_false_iff_eq.mpr c22
     clear c22
     by_cases c23 : t695 = 0
     ·rw [if_pos c23] at H
      have c23b0 : (t695 == 0) = true := beq_iff_eq.mpr c23
      have c23b1 : (t695 != 0) = false := bne_eq_false_iff_eq.mpr c23
      clear c23
      have H' := A_ H
      clear H
      have hnb24 := NB693_698.out
      have hnc24 := NB698_693.out
      have hcz25_0 : w11.cell? ⟨gb693, 0, none⟩ = some (.bool t689) := bc_ BK693.out 0
      have hcz25_1 : w11.cell? ⟨gb693, 1, none⟩ = some (.int .i64 t690) := bc_ BK693.out 1
      have hcz25_2 : w11.cell? ⟨gb693, 2, none⟩ = some (.int .i64 t691) := bc_ BK693.out 2
      have hcz25_3 : w11.cell? ⟨gb693, 3, none⟩ = some (.int .u64 t692) := bc_ BK693.out 3
      have hfz25_0 := blk_frozen BK693.out 0
      have hfz25_1 := blk_frozen BK693.out 1
      have hfz25_2 := blk_frozen BK693.out 2
      have hfz25_3 := blk_frozen BK693.out 3
      have hcz26_0 : w11.cell? ⟨gb698, 0, none⟩ = some (.bool false) := bc_ BK698.out 0
      have hcz26_1 : w11.cell? ⟨gb698, 1, none⟩ = some (.int .i64 0) := bc_ BK698.out 1
      have hcz26_2 : w11.cell? ⟨gb698, 2, none⟩ = some (.int .i64 0) := bc_ BK698.out 2
      have hcz26_3 : w11.cell? ⟨gb698, 3, none⟩ = some (.int .u64 0) := bc_ BK698.out 3
      have hfz26_0 := blk_frozen BK698.out 0
      have hfz26_1 := blk_frozen BK698.out 1
      have hfz26_2 := blk_frozen BK698.out 2
      have hfz26_3 := blk_frozen BK698.out 3
      go_wp2
      go_meet
      case rel => exact ⟨_, (true), sm_, H', ⟨by first | omega | exact Nat.le_refl _⟩, ⟨bf4_ BK693.out NB693_698.out NB693_698.out NB693_698.out NB693_698.out⟩, ⟨by (with_reducible repeat (first | refine blk_drewN ?_ _ | refine blk_drew ?_ | refine blk_alloc ?_ _)); refine blk_put (cs := #[.bool t694, .int .i64 t695, .int .i64 t696, .int .u64 0]) ?_ 3 _ rfl; (with_reducible repeat (first | refine blk_drewN ?_ _ | refine blk_drew ?_ | refine blk_alloc ?_ _)); refine blk_put (cs := #[.bool t694, .int .i64 t695, .int .i64 0, .int .u64 0]) ?_ 2 _ rfl; (with_reducible repeat (first | refine blk_drewN ?_ _ | refine blk_drew ?_ | refine blk_alloc ?_ _)); refine blk_put (cs := #[.bool t694, .int .i64 0, .int .i64 0, .int .u64 0]) ?_ 1 _ rfl; (with_reducible repeat (first | refine blk_drewN ?_ _ | refine blk_drew ?_ | refine blk_alloc ?_ _)); refine blk_put (cs := #[.bool false, .int .i64 0, .int .i64 0, .int .u64 0]) ?_ 0 _ rfl; (with_reducible repeat (first | refine blk_drewN ?_ _ | refine blk_drew ?_ | refine blk_alloc ?_ _)); exact BK698.out⟩, ⟨hb2_ HB.out GE693.out GE698.out⟩⟩
     ·rw [if_neg c23] at H
      have c23b0 : (t695 == 0) = false := beq_eq_false_iff_ne.mpr c23
      have c23b1 : (t695 != 0) = true := bne_iff_ne.mpr c23
      by_cases c27 : t690 = 0
      ·rw [if_pos c27] at H
       have c27b0 : (t690 == 0) = true := beq_iff_eq.mpr c27
       have c27b1 : (t690 != 0) = false := bne_eq_false_iff_eq.mpr c27
       clear c27
       have H' := A_ H
       clear H
       have hnb28 := NB693_698.out
       have hnc28 := NB698_693.out
       have hcz29_0 : w11.cell? ⟨gb693, 0, none⟩ = some (.bool t689) := bc_ BK693.out 0
       have hcz29_1 : w11.cell? ⟨gb693, 1, none⟩ = some (.int .i64 t690) := bc_ BK693.out 1
       have hcz29_2 : w11.cell? ⟨gb693, 2, none⟩ = some (.int .i64 t691) := bc_ BK693.out 2
       have hcz29_3 : w11.cell? ⟨gb693, 3, none⟩ = some (.int .u64 t692) := bc_ BK693.out 3
       have hfz29_0 := blk_frozen BK693.out 0
       have hfz29_1 := blk_frozen BK693.out 1
       have hfz29_2 := blk_frozen BK693.out 2
       have hfz29_3 := blk_frozen BK693.out 3
       have hcz30_0 : w11.cell? ⟨gb698, 0, none⟩ = some (.bool false) := bc_ BK698.out 0
       have hcz30_1 : w11.cell? ⟨gb698, 1, none⟩ = some (.int .i64 0) := bc_ BK698.out 1
       have hcz30_2 : w11.cell? ⟨gb698, 2, none⟩ = some (.int .i64 0) := bc_ BK698.out 2
       have hcz30_3 : w11.cell? ⟨gb698, 3, none⟩ = some (.int .u64 0) := bc_ BK698.out 3
       have hfz30_0 := blk_frozen BK698.out 0
       have hfz30_1 := blk_frozen BK698.out 1
       have hfz30_2 := blk_frozen BK698.out 2
       have hfz30_3 := blk_frozen BK698.out 3
       go_wp2
       go_meet
       case rel => exact ⟨_, ((t695 == 2)), sm_, H', ⟨by first | omega | exact Nat.le_refl _⟩, ⟨bf4_ BK693.out NB693_698.out NB693_698.out NB693_698.out NB693_698.out⟩, ⟨by (with_reducible repeat (first | refine blk_drewN ?_ _ | refine blk_drew ?_ | refine blk_alloc ?_ _)); refine blk_put (cs := #[.bool t694, .int .i64 t695, .int .i64 t696, .int .u64 0]) ?_ 3 _ rfl; (with_reducible repeat (first | refine blk_drewN ?_ _ | refine blk_drew ?_ | refine blk_alloc ?_ _)); refine blk_put (cs := #[.bool t694, .int .i64 t695, .int .i64 0, .int .u64 0]) ?_ 2 _ rfl; (with_reducible repeat (first | refine blk_drewN ?_ _ | refine blk_drew ?_ | refine blk_alloc ?_ _)); refine blk_put (cs := #[.bool t694, .int .i64 0, .int .i64 0, .int .u64 0]) ?_ 1 _ rfl; (with_reducible repeat (first | refine blk_drewN ?_ _ | refine blk_drew ?_ | refine blk_alloc ?_ _)); refine blk_put (cs := #[.bool false, .int .i64 0, .int .i64 0, .int .u64 0]) ?_ 0 _ rfl; (with_reducible repeat (first | refine blk_drewN ?_ _ | refine blk_drew ?_ | refine blk_alloc ?_ _)); exact BK698.out⟩, ⟨hb2_ HB.out GE693.out GE698.out⟩⟩
      ·rw [if_neg c27] at H
       have c27b0 : (t690 == 0) = false := beq_eq_false_iff_ne.mpr c27
       have c27b1 : (t690 != 0) = true := bne_iff_ne.mpr c27
       have H' := A_ H
       clear H
       have hnb31 := NB693_698.out
       have hnc31 := NB698_693.out
       have hcz32_0 : w11.cell? ⟨gb693, 0, none⟩ = some (.bool t689) := bc_ BK693.out 0
       have hcz32_1 : w11.cell? ⟨gb693, 1, none⟩ = some (.int .i64 t690) := bc_ BK693.out 1
       have hcz32_2 : w11.cell? ⟨gb693, 2, none⟩ = some (.int .i64 t691) := bc_ BK693.out 2
       have hcz32_3 : w11.cell? ⟨gb693, 3, none⟩ = some (.int .u64 t692) := bc_ BK693.out 3
       have hfz32_0 := blk_frozen BK693.out 0
       have hfz32_1 := blk_frozen BK693.out 1
       have hfz32_2 := blk_frozen BK693.out 2
       have hfz32_3 := blk_frozen BK693.out 3
       have hcz33_0 : w11.cell? ⟨gb698, 0, none⟩ = some (.bool false) := bc_ BK698.out 0
       have hcz33_1 : w11.cell? ⟨gb698, 1, none⟩ = some (.int .i64 0) := bc_ BK698.out 1
       have hcz33_2 : w11.cell? ⟨gb698, 2, none⟩ = some (.int .i64 0) := bc_ BK698.out 2
       have hcz33_3 : w11.cell? ⟨gb698, 3, none⟩ = some (.int .u64 0) := bc_ BK698.out 3
       have hfz33_0 := blk_frozen BK698.out 0
       have hfz33_1 := blk_frozen BK698.out 1
       have hfz33_2 := blk_frozen BK698.out 2
       have hfz33_3 := blk_frozen BK698.out 3
       go_wp2
       go_meet
       case rel => exact ⟨_, (false), sm_, H', ⟨by first | omega | exact Nat.le_refl _⟩, ⟨bf4_ BK693.out NB693_698.out NB693_698.out NB693_698.out NB693_698.out⟩, ⟨by (with_reducible repeat (first | refine blk_drewN ?_ _ | refine blk_drew ?_ | refine blk_alloc ?_ _)); refine blk_put (cs := #[.bool t694, .int .i64 t695, .int .i64 t696, .int .u64 0]) ?_ 3 _ rfl; (with_reducible repeat (first | refine blk_drewN ?_ _ | refine blk_drew ?_ | refine blk_alloc ?_ _)); refine blk_put (cs := #[.bool t694, .int .i64 t695, .int .i64 0, .int .u64 0]) ?_ 2 _ rfl; (with_reducible repeat (first | refine blk_drewN ?_ _ | refine blk_drew ?_ | refine blk_alloc ?_ _)); refine blk_put (cs := #[.bool t694, .int .i64 0, .int .i64 0, .int .u64 0]) ?_ 1 _ rfl; (with_reducible repeat (first | refine blk_drewN ?_ _ | refine blk_drew ?_ | refine blk_alloc ?_ _)); refine blk_put (cs := #[.bool false, .int .i64 0, .int .i64 0, .int .u64 0]) ?_ 0 _ rfl; (with_reducible repeat (first | refine blk_drewN ?_ _ | refine blk_drew ?_ | refine blk_alloc ?_ _)); exact BK698.out⟩, ⟨hb2_ HB.out GE693.out GE698.out⟩⟩
    ·rw [if_neg c22] at H
     have c22b0 : (t690 == 2) = false := beq_eq_false_iff_ne.mpr c22
     have c22b1 : (t690 != 2) = true := bne_iff_ne.mpr c22
     by_cases c34 : t690 = 0
     ·rw [if_pos c34] at H
      have c34b0 : (t690 == 0) = true := beq_iff_eq.mpr c34
      have c34b1 : (t690 != 0) = false := bne_eq_false_iff_eq.mpr c34
      clear c34
      have H' := A_ H
      clear H
      have hnb35 := NB693_698.out
      have hnc35 := NB698_693.out
      have hcz36_0 : w11.cell? ⟨gb693, 0, none⟩ = some (.bool t689) := bc_ BK693.out 0
      have hcz36_1 : w11.cell? ⟨gb693, 1, none⟩ = some (.int .i64 t690) := bc_ BK693.out 1
      have hcz36_2 : w11.cell? ⟨gb693, 2, none⟩ = some (.int .i64 t691) := bc_ BK693.out 2
      have hcz36_3 : w11.cell? ⟨gb693, 3, none⟩ = some (.int .u64 t692) := bc_ BK693.out 3
      have hfz36_0 := blk_frozen BK693.out 0
      have hfz36_1 := blk_frozen BK693.out 1
      have hfz36_2 := blk_frozen BK693.out 2
      have hfz36_3 := blk_frozen BK693.out 3
      have hcz37_0 : w11.cell? ⟨gb698, 0, none⟩ = some (.bool false) := bc_ BK698.out 0
      have hcz37_1 : w11.cell? ⟨gb698, 1, none⟩ = some (.int .i64 0) := bc_ BK698.out 1
      have hcz37_2 : w11.cell? ⟨gb698, 2, none⟩ = some (.int .i64 0) := bc_ BK698.out 2
      have hcz37_3 : w11.cell? ⟨gb698, 3, none⟩ = some (.int .u64 0) := bc_ BK698.out 3
      have hfz37_0 := blk_frozen BK698.out 0
      have hfz37_1 := blk_frozen BK698.out 1
      have hfz37_2 := blk_frozen BK698.out 2
      have hfz37_3 := blk_frozen BK698.out 3
      go_wp2
      go_meet
      case rel => exact ⟨_, ((t695 == 2)), sm_, H', ⟨by first | omega | exact Nat.le_refl _⟩, ⟨bf4_ BK693.out NB693_698.out NB693_698.out NB693_698.out NB693_698.out⟩, ⟨by (with_reducible repeat (first | refine blk_drewN ?_ _ | refine blk_drew ?_ | refine blk_alloc ?_ _)); refine blk_put (cs := #[.bool t694, .int .i64 t695, .int .i64 t696, .int .u64 0]) ?_ 3 _ rfl; (with_reducible repeat (first | refine blk_drewN ?_ _ | refine blk_drew ?_ | refine blk_alloc ?_ _)); refine blk_put (cs := #[.bool t694, .int .i64 t695, .int .i64 0, .int .u64 0]) ?_ 2 _ rfl; (with_reducible repeat (first | refine blk_drewN ?_ _ | refine blk_drew ?_ | refine blk_alloc ?_ _)); refine blk_put (cs := #[.bool t694, .int .i64 0, .int .i64 0, .int .u64 0]) ?_ 1 _ rfl; (with_reducible repeat (first | refine blk_drewN ?_ _ | refine blk_drew ?_ | refine blk_alloc ?_ _)); refine blk_put (cs := #[.bool false, .int .i64 0, .int .i64 0, .int .u64 0]) ?_ 0 _ rfl; (with_reducible repeat (first | refine blk_drewN ?_ _ | refine blk_drew ?_ | refine blk_alloc ?_ _)); exact BK698.out⟩, ⟨hb2_ HB.out GE693.out GE698.out⟩⟩
     ·rw [if_neg c34] at H
      have c34b0 : (t690 == 0) = false := beq_eq_false_iff_ne.mpr c34
      have c34b1 : (t690 != 0) = true := bne_iff_ne.mpr c34
      have H' := A_ H
      clear H
      have hnb38 := NB693_698.out
      have hnc38 := NB698_693.out
      have hcz39_0 : w11.cell? ⟨gb693, 0, none⟩ = some (.bool t689) := bc_ BK693.out 0
      have hcz39_1 : w11.cell? ⟨gb693, 1, none⟩ = some (.int .i64 t690) := bc_ BK693.out 1
      have hcz39_2 : w11.cell? ⟨gb693, 2, none⟩ = some (.int .i64 t691) := bc_ BK693.out 2
      have hcz39_3 : w11.cell? ⟨gb693, 3, none⟩ = some (.int .u64 t692) := bc_ BK693.out 3
      have hfz39_0 := blk_frozen BK693.out 0
      have hfz39_1 := blk_frozen BK693.out 1
      have hfz39_2 := blk_frozen BK693.out 2
      have hfz39_3 := blk_frozen BK693.out 3
      have hcz40_0 : w11.cell? ⟨gb698, 0, none⟩ = some (.bool false) := bc_ BK698.out 0
      have hcz40_1 : w11.cell? ⟨gb698, 1, none⟩ = some (.int .i64 0) := bc_ BK698.out 1
      have hcz40_2 : w11.cell? ⟨gb698, 2, none⟩ = some (.int .i64 0) := bc_ BK698.out 2
      have hcz40_3 : w11.cell? ⟨gb698, 3, none⟩ = some (.int .u64 0) := bc_ BK698.out 3
      have hfz40_0 := blk_frozen BK698.out 0
      have hfz40_1 := blk_frozen BK698.out 1
      have hfz40_2 := blk_frozen BK698.out 2
      have hfz40_3 := blk_frozen BK698.out 3
      go_wp2
      go_meet
      case rel => exact ⟨_, (false), sm_, H', ⟨by first | omega | exact Nat.le_refl _⟩, ⟨bf4_ BK693.out NB693_698.out NB693_698.out NB693_698.out NB693_698.out⟩, ⟨by (with_reducible repeat (first | refine blk_drewN ?_ _ | refine blk_drew ?_ | refine blk_alloc ?_ _)); refine blk_put (cs := #[.bool t694, .int .i64 t695, .int .i64 t696, .int .u64 0]) ?_ 3 _ rfl; (with_reducible repeat (first | refine blk_drewN ?_ _ | refine blk_drew ?_ | refine blk_alloc ?_ _)); refine blk_put (cs := #[.bool t694, .int .i64 t695, .int .i64 0, .int .u64 0]) ?_ 2 _ rfl; (with_reducible repeat (first | refine blk_drewN ?_ _ | refine blk_drew ?_ | refine blk_alloc ?_ _)); refine blk_put (cs := #[.bool t694, .int .i64 0, .int .i64 0, .int .u64 0]) ?_ 1 _ rfl; (with_reducible repeat (first | refine blk_drewN ?_ _ | refine blk_drew ?_ | refine blk_alloc ?_ _)); refine blk_put (cs := #[.bool false, .int .i64 0, .int .i64 0, .int .u64 0]) ?_ 0 _ rfl; (with_reducible repeat (first | refine blk_drewN ?_ _ | refine blk_drew ?_ | refine blk_alloc ?_ _)); exact BK698.out⟩, ⟨hb2_ HB.out GE693.out GE698.out⟩⟩
 case rest =>
  clear HC6
  try clear c1
  try clear c2
  try clear p2
  try clear c3
  try clear c5
  try clear c12
  try clear c15
  try clear c15b0
  try clear c15b1
  try clear c16
  try clear c18
  try clear c18b0
  try clear c18b1
  try clear c19
  try clear c22
  try clear c22b0
  try clear c22b1
  try clear c23
  try clear c23b0
  try clear c23b1
  try clear c24
  try clear c27
  try clear c27b0
  try clear c27b1
  try clear c28
  try clear c31
  try clear c34
  try clear c34b0
  try clear c34b1
  try clear c35
  try clear c38
  try clear hcz13_0
  try clear hcz13_1
  try clear hcz13_2
  try clear hcz13_3
  try clear hcz14_0
  try clear hcz14_1
  try clear hcz14_2
  try clear hcz14_3
  try clear hcz17_0
  try clear hcz17_1
  try clear hcz17_2
  try clear hcz17_3
  try clear hcz20_0
  try clear hcz20_1
  try clear hcz20_2
  try clear hcz20_3
  try clear hcz21_0
  try clear hcz21_1
  try clear hcz21_2
  try clear hcz21_3
  try clear hcz25_0
  try clear hcz25_1
  try clear hcz25_2
  try clear hcz25_3
  try clear hcz26_0
  try clear hcz26_1
  try clear hcz26_2
  try clear hcz26_3
  try clear hcz29_0
  try clear hcz29_1
  try clear hcz29_2
  try clear hcz29_3
  try clear hcz30_0
  try clear hcz30_1
  try clear hcz30_2
  try clear hcz30_3
  try clear hcz32_0
  try clear hcz32_1
  try clear hcz32_2
  try clear hcz32_3
  try clear hcz33_0
  try clear hcz33_1
  try clear hcz33_2
  try clear hcz33_3
  try clear hcz36_0
  try clear hcz36_1
  try clear hcz36_2
  try clear hcz36_3
  try clear hcz37_0
  try clear hcz37_1
  try clear hcz37_2
  try clear hcz37_3
  try clear hcz39_0
  try clear hcz39_1
  try clear hcz39_2
  try clear hcz39_3
  try clear hcz40_0
  try clear hcz40_1
  try clear hcz40_2
  try clear hcz40_3
  try clear hcz9_0
  try clear hcz9_1
  try clear hcz9_2
  try clear hcz9_3
  try clear hfz13_0
  try clear hfz13_1
  try clear hfz13_2
  try clear hfz13_3
  try clear hfz14_0
  try clear hfz14_1
  try clear hfz14_2
  try clear hfz14_3
  try clear hfz17_0
  try clear hfz17_1
  try clear hfz17_2
  try clear hfz17_3
  try clear hfz20_0
  try clear hfz20_1
  try clear hfz20_2
  try clear hfz20_3
  try clear hfz21_0
  try clear hfz21_1
  try clear hfz21_2
  try clear hfz21_3
  try clear hfz25_0
  try clear hfz25_1
  try clear hfz25_2
  try clear hfz25_3
  try clear hfz26_0
  try clear hfz26_1
  try clear hfz26_2
  try clear hfz26_3
  try clear hfz29_0
  try clear hfz29_1
  try clear hfz29_2
  try clear hfz29_3
  try clear hfz30_0
  try clear hfz30_1
  try clear hfz30_2
  try clear hfz30_3
  try clear hfz32_0
  try clear hfz32_1
  try clear hfz32_2
  try clear hfz32_3
  try clear hfz33_0
  try clear hfz33_1
  try clear hfz33_2
  try clear hfz33_3
  try clear hfz36_0
  try clear hfz36_1
  try clear hfz36_2
  try clear hfz36_3
  try clear hfz37_0
  try clear hfz37_1
  try clear hfz37_2
  try clear hfz37_3
  try clear hfz39_0
  try clear hfz39_1
  try clear hfz39_2
  try clear hfz39_3
  try clear hfz40_0
  try clear hfz40_1
  try clear hfz40_2
  try clear hfz40_3
  try clear hfz9_0
  try clear hfz9_1
  try clear hfz9_2
  try clear hfz9_3
  obtain ⟨kq, x48_5, rfl, HA, HJ5, BK693, BK698, HB⟩ := hcut
  cases kq with
  | zero => exact absurd HA.out (by simp [r5_Mul.j0])
  | succ kj5 =>
   have H := HA.out
   clear HA
   simp only [r5_Mul.j0] at H
   by_cases c41 : x48_5 = true
   ·subst c41
    have H1 : ((r2_Nan.f kj5 a0).bind fun t699 => (some t699)) = some r := by rw [if_pos rfl] at H; exact H
    clear H;have H := H1;clear H1
    replace H := ob_ H
    obtain ⟨t699, A420, H⟩ := H
    replace H : (some t699) = some r := H
    have A42 := A_ A420;clear A420
    obtain rfl := Option.some.inj H
    go_wp2_with (first | ((with_reducible refine gate_callee (f := 117) rfl ?_); refine gl_ (some 50) Try.func117 #[.int .i64 a0] ?_; (with_reducible refine (r2_Nan.calls kj5 a0 t699 _ A42.out).mono ?_); rintro e w' ⟨rfl, ⟨nd, rfl⟩⟩; refine ⟨_, rfl, ?_⟩))
    go_ret
    exact ⟨er_, hb2_ HB.out GE693.out GE698.out⟩
   ·replace c41 := Bool.eq_false_iff.mpr c41
    subst c41
    have H1 : (if t690 = 2 then (r5_Mul.j1 kj5 a0 (t689 != t694) true t689 t690 t691 t692 t694 t695 t696 t697) else (r5_Mul.j1 kj5 a0 (t689 != t694) (t695 == 2) t689 t690 t691 t692 t694 t695 t696 t697)) = some r := by rw [if_neg (show ¬ (false = true) by decide)] at H; exact H
    clear H;have H := H1;clear H1;have HC43 := A_ H;clear H
    go_upto_region 6 with (fail)
    go_cut [58] (fun v58 wc => ∃ (kq : Nat) (x58_42 : Bool), v58 = .bool x58_42 ∧ Aside0 (r5_Mul.j1 kq a0 (t689 != t694) x58_42 t689 t690 t691 t692 t694 t695 t696 t697 = some r) ∧ Aside0 (kq ≤ kj5) ∧ Aside0 (wc.heap[gb693]? = some (.cells #[.bool t689, .int .i64 t690, .int .i64 t691, .int .u64 t692] 59 (0, 0))) ∧ Aside0 (wc.heap[gb698]? = some (.cells #[.bool t694, .int .i64 t695, .int .i64 t696, .int .u64 t697] 59 (0, 0))) ∧ Aside0 (Below w.heap.size w wc))
    case first =>
     have H := HC43.out
     clear HC43
     by_cases c44 : t690 = 2
     ·rw [if_pos c44] at H
      have c44b0 : (t690 == 2) = true := beq_iff_eq.mpr c44
      have c44b1 : (t690 != 2) = false := bne_eq_false_iff_eq.mpr c44
      clear c44
      (first | rw [c44b0] | (simp only [i64_w, i32_w]; rw [c44b0]) | skip)
      have H' := A_ H
      clear H
      have hnb45 := NB693_698.out
      have hnc45 := NB698_693.out
      have hcz46_0 : wc.cell? ⟨gb693, 0, none⟩ = some (.bool t689) := bc_ BK693.out 0
      have hcz46_1 : wc.cell? ⟨gb693, 1, none⟩ = some (.int .i64 t690) := bc_ BK693.out 1
      have hcz46_2 : wc.cell? ⟨gb693, 2, none⟩ = some (.int .i64 t691) := bc_ BK693.out 2
      have hcz46_3 : wc.cell? ⟨gb693, 3, none⟩ = some (.int .u64 t692) := bc_ BK693.out 3
      have hfz46_0 := blk_frozen BK693.out 0
      have hfz46_1 := blk_frozen BK693.out 1
      have hfz46_2 := blk_frozen BK693.out 2
      have hfz46_3 := blk_frozen BK693.out 3
      go_wp2
      go_meet
      case rel => exact ⟨_, (true), sm_, H', ⟨by have := HJ5.out; first | omega | exact Nat.le_refl _⟩, ⟨bk_ BK693.out⟩, ⟨bk_ BK698.out⟩, ⟨hb2_ HB.out GE693.out GE698.out⟩⟩
     ·rw [if_neg c44] at H
      have c44b0 : (t690 == 2) = false := beq_eq_false_iff_ne.mpr c44
      have c44b1 : (t690 != 2) = true := bne_iff_ne.mpr c44
      (first | rw [c44b0] | (simp only [i64_w, i32_w]; rw [c44b0]) | skip)
      have H' := A_ H
      clear H
      have hnb47 := NB693_698.out
      have hnc47 := NB698_693.out
      have hcz48_0 : wc.cell? ⟨gb693, 0, none⟩ = some (.bool t689) := bc_ BK693.out 0
      have hcz48_1 : wc.cell? ⟨gb693, 1, none⟩ = some (.int .i64 t690) := bc_ BK693.out 1
      have hcz48_2 : wc.cell? ⟨gb693, 2, none⟩ = some (.int .i64 t691) := bc_ BK693.out 2
      have hcz48_3 : wc.cell? ⟨gb693, 3, none⟩ = some (.int .u64 t692) := bc_ BK693.out 3
      have hfz48_0 := blk_frozen BK693.out 0
      have hfz48_1 := blk_frozen BK693.out 1
      have hfz48_2 := blk_frozen BK693.out 2
      have hfz48_3 := blk_frozen BK693.out 3
      have hcz49_0 : wc.cell? ⟨gb698, 0, none⟩ = some (.bool t694) := bc_ BK698.out 0
      have hcz49_1 : wc.cell? ⟨gb698, 1, none⟩ = some (.int .i64 t695) := bc_ BK698.out 1
      have hcz49_2 : wc.cell? ⟨gb698, 2, none⟩ = some (.int .i64 t696) := bc_ BK698.out 2
      have hcz49_3 : wc.cell? ⟨gb698, 3, none⟩ = some (.int .u64 t697) := bc_ BK698.out 3
      have hfz49_0 := blk_frozen BK698.out 0
      have hfz49_1 := blk_frozen BK698.out 1
      have hfz49_2 := blk_frozen BK698.out 2
      have hfz49_3 := blk_frozen BK698.out 3
      go_wp2
      go_meet
      case rel => exact ⟨_, ((t695 == 2)), sm_, H', ⟨by have := HJ5.out; first | omega | exact Nat.le_refl _⟩, ⟨bk_ BK693.out⟩, ⟨bk_ BK698.out⟩, ⟨hb2_ HB.out GE693.out GE698.out⟩⟩
    case rest =>
     clear HC43
     try clear c1
     try clear c2
     try clear p2
     try clear c3
     try clear c4
     try clear c5
     try clear c11
     try clear c12
     try clear c15
     try clear c15b0
     try clear c15b1
     try clear c16
     try clear c18
     try clear c18b0
     try clear c18b1
     try clear c19
     try clear c22
     try clear c22b0
     try clear c22b1
     try clear c23
     try clear c23b0
     try clear c23b1
     try clear c24
     try clear c27
     try clear c27b0
     try clear c27b1
     try clear c28
     try clear c31
     try clear c34
     try clear c34b0
     try clear c34b1
     try clear c35
     try clear c38
     try clear c41
     try clear c44
     try clear c44b0
     try clear c44b1
     try clear c45
     try clear c47
     try clear hcz13_0
     try clear hcz13_1
     try clear hcz13_2
     try clear hcz13_3
     try clear hcz14_0
     try clear hcz14_1
     try clear hcz14_2
     try clear hcz14_3
     try clear hcz17_0
     try clear hcz17_1
     try clear hcz17_2
     try clear hcz17_3
     try clear hcz20_0
     try clear hcz20_1
     try clear hcz20_2
     try clear hcz20_3
     try clear hcz21_0
     try clear hcz21_1
     try clear hcz21_2
     try clear hcz21_3
     try clear hcz25_0
     try clear hcz25_1
     try clear hcz25_2
     try clear hcz25_3
     try clear hcz26_0
     try clear hcz26_1
     try clear hcz26_2
     try clear hcz26_3
     try clear hcz29_0
     try clear hcz29_1
     try clear hcz29_2
     try clear hcz29_3
     try clear hcz30_0
     try clear hcz30_1
     try clear hcz30_2
     try clear hcz30_3
     try clear hcz32_0
     try clear hcz32_1
     try clear hcz32_2
     try clear hcz32_3
     try clear hcz33_0
     try clear hcz33_1
     try clear hcz33_2
     try clear hcz33_3
     try clear hcz36_0
     try clear hcz36_1
     try clear hcz36_2
     try clear hcz36_3
     try clear hcz37_0
     try clear hcz37_1
     try clear hcz37_2
     try clear hcz37_3
     try clear hcz39_0
     try clear hcz39_1
     try clear hcz39_2
     try clear hcz39_3
     try clear hcz40_0
     try clear hcz40_1
     try clear hcz40_2
     try clear hcz40_3
     try clear hcz46_0
     try clear hcz46_1
     try clear hcz46_2
     try clear hcz46_3
     try clear hcz48_0
     try clear hcz48_1
     try clear hcz48_2
     try clear hcz48_3
     try clear hcz49_0
     try clear hcz49_1
     try clear hcz49_2
     try clear hcz49_3
     try clear hcz9_0
     try clear hcz9_1
     try clear hcz9_2
     try clear hcz9_3
     try clear hfz13_0
     try clear hfz13_1
     try clear hfz13_2
     try clear hfz13_3
     try clear hfz14_0
     try clear hfz14_1
     try clear hfz14_2
     try clear hfz14_3
     try clear hfz17_0
     try clear hfz17_1
     try clear hfz17_2
     try clear hfz17_3
     try clear hfz20_0
     try clear hfz20_1
     try clear hfz20_2
     try clear hfz20_3
     try clear hfz21_0
     try clear hfz21_1
     try clear hfz21_2
     try clear hfz21_3
     try clear hfz25_0
     try clear hfz25_1
     try clear hfz25_2
     try clear hfz25_3
     try clear hfz26_0
     try clear hfz26_1
     try clear hfz26_2
     try clear hfz26_3
     try clear hfz29_0
     try clear hfz29_1
     try clear hfz29_2
     try clear hfz29_3
     try clear hfz30_0
     try clear hfz30_1
     try clear hfz30_2
     try clear hfz30_3
     try clear hfz32_0
     try clear hfz32_1
     try clear hfz32_2
     try clear hfz32_3
     try clear hfz33_0
     try clear hfz33_1
     try clear hfz33_2
     try clear hfz33_3
     try clear hfz36_0
     try clear hfz36_1
     try clear hfz36_2
     try clear hfz36_3
     try clear hfz37_0
     try clear hfz37_1
     try clear hfz37_2
     try clear hfz37_3
     try clear hfz39_0
     try clear hfz39_1
     try clear hfz39_2
     try clear hfz39_3
     try clear hfz40_0
     try clear hfz40_1
     try clear hfz40_2
     try clear hfz40_3
     try clear hfz46_0
     try clear hfz46_1
     try clear hfz46_2
     try clear hfz46_3
     try clear hfz48_0
     try clear hfz48_1
     try clear hfz48_2
     try clear hfz48_3
     try clear hfz49_0
     try clear hfz49_1
     try clear hfz49_2
     try clear hfz49_3
     try clear hfz9_0
     try clear hfz9_1
     try clear hfz9_2
     try clear hfz9_3
     try clear p2
     obtain ⟨kq, x58_42, rfl, HA, HJ42, BK693, BK698, HB⟩ := hcut
     cases kq with
     | zero => exact absurd HA.out (by simp [r5_Mul.j1])
     | succ kj42 =>
      have H := HA.out
      clear HA
      simp only [r5_Mul.j1] at H
      by_cases c50 : x58_42 = true
      ·subst c50
       have H1 : ((r2_Inf.f kj42 a0 (t689 != t694)).bind fun t700 => (some t700)) = some r := by rw [if_pos rfl] at H; exact H
       clear H;have H := H1;clear H1
       replace H := ob_ H
       obtain ⟨t700, A510, H⟩ := H
       replace H : (some t700) = some r := H
       have A51 := A_ A510;clear A510
       obtain rfl := Option.some.inj H
       go_wp2_with (first | ((with_reducible refine gate_callee (f := 114) rfl ?_); refine gl_ (some 61) Try.func114 #[.int .i64 a0, .bool (t689 != t694)] ?_; (with_reducible refine (r2_Inf.calls kj42 a0 (t689 != t694) t700 _ A51.out).mono ?_); rintro e w' ⟨rfl, ⟨nd, rfl⟩⟩; refine ⟨_, rfl, ?_⟩))
       go_ret
       exact ⟨er_, hb2_ HB.out GE693.out GE698.out⟩
      ·replace c50 := Bool.eq_false_iff.mpr c50
       subst c50
       have H1 : ((r1_Of.f kj42 t692).bind fun t701 => ((r1_Of.f kj42 t697).bind fun t704 => ((r1_Mul.f kj42 t701 t704).bind fun t707 => ((r3_Exact.f kj42 a0 (t689 != t694) t707 (wrap64 (t691 + t696))).bind fun t710 => (some t710))))) = some r := by rw [if_neg (show ¬ (false = true) by decide)] at H; exact H
       clear H;have H := H1;clear H1
       replace H := ob_ H
       obtain ⟨t701, A520, H⟩ := H
       replace H : ((r1_Of.f kj42 t697).bind fun t704 => ((r1_Mul.f kj42 t701 t704).bind fun t707 => ((r3_Exact.f kj42 a0 (t689 != t694) t707 (wrap64 (t691 + t696))).bind fun t710 => (some t710)))) = some r := H
       have A52 := A_ A520;clear A520
       replace H := ob_ H
       obtain ⟨t704, A530, H⟩ := H
       replace H : ((r1_Mul.f kj42 t701 t704).bind fun t707 => ((r3_Exact.f kj42 a0 (t689 != t694) t707 (wrap64 (t691 + t696))).bind fun t710 => (some t710))) = some r := H
       have A53 := A_ A530;clear A530
       replace H := ob_ H
       obtain ⟨t707, A540, H⟩ := H
       replace H : ((r3_Exact.f kj42 a0 (t689 != t694) t707 (wrap64 (t691 + t696))).bind fun t710 => (some t710)) = some r := H
       have A54 := A_ A540;clear A540
       replace H := ob_ H
       obtain ⟨t710, A550, H⟩ := H
       replace H : (some t710) = some r := H
       have A55 := A_ A550;clear A550
       obtain rfl := Option.some.inj H
       try go_wp2
       have n0_ := A_ (blk_drew BK693.out)
       have n1_ := A_ (blk_drew BK698.out)
       have n2_ := A_ (below_drew1 HB.out)
       clear BK693;clear BK698;clear HB;have BK693 := n0_;have BK698 := n1_;have HB := n2_;clear n0_ n1_ n2_
       refine start_ (n := 16) (S := fun w' => w'.cell? ⟨gb693, 0, none⟩ = some (.bool t689) ∧ w'.cell? ⟨gb693, 1, none⟩ = some (.int .i64 t690) ∧ w'.cell? ⟨gb693, 2, none⟩ = some (.int .i64 t691) ∧ w'.cell? ⟨gb693, 3, none⟩ = some (.int .u64 t692) ∧ w'.cell? ⟨gb698, 0, none⟩ = some (.bool t694) ∧ w'.cell? ⟨gb698, 1, none⟩ = some (.int .i64 t695) ∧ w'.cell? ⟨gb698, 2, none⟩ = some (.int .i64 t696) ∧ w'.cell? ⟨gb698, 3, none⟩ = some (.int .u64 t697)) (ds := []) #[false, false, false, false, false, false, false, false, false, false, false, false, false, false, false, false] (by kernel_rfl) rfl rfl ⟨bc_ BK693.out 0, bc_ BK693.out 1, bc_ BK693.out 2, bc_ BK693.out 3, bc_ BK698.out 0, bc_ BK698.out 1, bc_ BK698.out 2, bc_ BK698.out 3⟩ (fun hHeld => ?_); refine with_tabW r5_Mul.tab8 r5_Mul.bits8 (fun HT_ HW_ => ?_)
       generalize wc.drew = w56 at BK693 BK698 HB hHeld ⊢
       refine pu_ 0 (some 62) #[true, false, false, false, false, false, false, false, false, false, false, false, false, false, false, false] rfl rfl (any_of HT_.out (by kernel_rfl)) ?_
       refine pu_ 1 (some 63) #[true, true, false, false, false, false, false, false, false, false, false, false, false, false, false, false] rfl rfl (any_of HT_.out (by kernel_rfl)) ?_
       refine pu_ 2 (some 64) #[true, true, true, false, false, false, false, false, false, false, false, false, false, false, false, false] rfl rfl (any_of HT_.out (by kernel_rfl)) ?_
       refine pu_ 5 (some 67) #[true, true, true, false, false, true, false, false, false, false, false, false, false, false, false, false] rfl rfl (any_of HT_.out (by kernel_rfl)) ?_
       refine pu_ 9 (some 71) #[true, true, true, false, false, true, false, false, false, true, false, false, false, false, false, false] rfl rfl (any_of HT_.out (by kernel_rfl)) ?_
       refine pu_ 11 (some 73) #[true, true, true, false, false, true, false, false, false, true, false, true, false, false, false, false] rfl rfl (any_of HT_.out (by kernel_rfl)) ?_
       refine tk8_ 3 (some 65) #[true, true, true, true, false, true, false, false, false, true, false, true, false, false, false, false] rfl rfl (take_ofW HT_.out HW_.out (by kernel_rfl)) hHeld ?_
       refine tk8_ 6 (some 68) #[true, true, true, true, false, true, true, false, false, true, false, true, false, false, false, false] rfl rfl (take_ofW HT_.out HW_.out (by kernel_rfl)) hHeld ?_
       refine tk8_ 10 (some 72) #[true, true, true, true, false, true, true, false, false, true, true, true, false, false, false, false] rfl rfl (take_ofW HT_.out HW_.out (by kernel_rfl)) hHeld ?_
       refine tk8_ 12 (some 74) #[true, true, true, true, false, true, true, false, false, true, true, true, true, false, false, false] rfl rfl (take_ofW HT_.out HW_.out (by kernel_rfl)) hHeld ?_
       refine pu_ 13 (some 75) #[true, true, true, true, false, true, true, false, false, true, true, true, true, true, false, false] rfl rfl (any_of HT_.out (by kernel_rfl)) ?_
       refine one_ (i := 4) (N := some 66) #[true, true, true, true, true, true, true, false, false, true, true, true, true, true, false, false] rfl rfl (one_of HT_.out (by kernel_rfl)) (by decide) (fun K hK => ?_)
       refine goes_ Try.func46 (by kernel_rfl) rfl #[.int .u64 t692] (by rfl) rfl rfl mp_ ?_
       with_reducible refine (r1_Of.calls kj42 t692 t701 _ A52.out).mono ?_
       rintro e w57 ⟨v702, rfl, ho0, hb⟩
       refine ⟨_, rfl, ?_⟩
       have n0_ := A_ (Kd.R_lower ho0 (below_size (hb2_ HB.out GE693.out GE698.out)))
       have n1_ := A_ (bb_ BK693.out hb)
       have n2_ := A_ (bb_ BK698.out hb)
       have n3_ := A_ (below_step (hb2_ HB.out GE693.out GE698.out) hb)
       clear BK693;clear BK698;clear HB;have HO703 := n0_;have BK693 := n1_;have BK698 := n2_;have HB := n3_;clear n0_ n1_ n2_ n3_;(try clear hb);(try clear hb2);(try clear hk);(try clear hi);(try clear ho0)
       refine hK.out _ _ ⟨bc_ BK693.out 0, bc_ BK693.out 1, bc_ BK693.out 2, bc_ BK693.out 3, bc_ BK698.out 0, bc_ BK698.out 1, bc_ BK698.out 2, bc_ BK698.out 3⟩ (fun hHeld => ?_)
       clear hK K
       refine norm_ (a' := ?_) ?_ ?_
       rotate_left
       ·show Act.put _ (some 66) _ = _
        simp only [Act.put, lI_, l0_, lS_, i64_w, i32_w]
        rfl
       refine one_ (i := 7) (N := some 69) #[true, true, true, true, true, true, true, true, false, true, true, true, true, true, false, false] rfl rfl (one_of HT_.out (by kernel_rfl)) (by decide) (fun K hK => ?_)
       refine goes_ Try.func46 (by kernel_rfl) rfl #[.int .u64 t697] (by rfl) rfl rfl mp_ ?_
       with_reducible refine (r1_Of.calls kj42 t697 t704 _ A53.out).mono ?_
       rintro e w58 ⟨v705, rfl, ho0, hb⟩
       refine ⟨_, rfl, ?_⟩
       have n0_ := A_ (Kd.R_elder' (kr_ HO703.out) (Kd.R_base ho0) hb)
       have n1_ := A_ (Kd.R_lower (Kd.R_new' ho0 (Kd.R_lt (kr_ HO703.out))) (below_size (hb2_ HB.out GE693.out GE698.out)))
       have n2_ := A_ (bb_ BK693.out hb)
       have n3_ := A_ (bb_ BK698.out hb)
       have n4_ := A_ (below_step (hb2_ HB.out GE693.out GE698.out) hb)
       clear HO703;clear BK693;clear BK698;clear HB;have HO703 := n0_;have HO706 := n1_;have BK693 := n2_;have BK698 := n3_;have HB := n4_;clear n0_ n1_ n2_ n3_ n4_;(try clear hb);(try clear hb2);(try clear hk);(try clear hi);(try clear ho0)
       obtain ⟨Ao59, co59, eo59⟩ := Kd.R_slice HO703.out
       (first | subst eo59 | (injection eo59 with f1_ f2_ f3_; have f4_ := f1_.symm; have f5_ := f3_.symm; clear f1_ f2_ f3_; subst f4_; subst f5_))
       obtain ⟨Ao60, co60, eo60⟩ := Kd.R_slice HO706.out
       (first | subst eo60 | (injection eo60 with f1_ f2_ f3_; have f4_ := f1_.symm; have f5_ := f3_.symm; clear f1_ f2_ f3_; subst f4_; subst f5_))
       refine hK.out _ _ ⟨bc_ BK693.out 0, bc_ BK693.out 1, bc_ BK693.out 2, bc_ BK693.out 3, bc_ BK698.out 0, bc_ BK698.out 1, bc_ BK698.out 2, bc_ BK698.out 3⟩ (fun hHeld => ?_)
       clear hK K
       refine norm_ (a' := ?_) ?_ ?_
       rotate_left
       ·show Act.put _ (some 69) _ = _
        simp only [Act.put, lI_, l0_, lS_, i64_w, i32_w]
        rfl
       refine one_ (i := 8) (N := some 70) #[true, true, true, true, true, true, true, true, true, true, true, true, true, true, false, false] rfl rfl (one_of HT_.out (by kernel_rfl)) (by decide) (fun K hK => ?_)
       refine goes_ Try.func126 (by kernel_rfl) rfl #[.agg #[.slice Ao59 t701.length co59], .agg #[.slice Ao60 t704.length co60]] (by rfl) rfl rfl mp_ ?_
       with_reducible refine (r1_Mul.calls kj42 _ _ t701 _ _ t704 t707 _ ?side1 ?side2 ?side3 ?side4 A54.out).mono ?_
       (case side1 => repeat (first | exact (Kd.R_reads' HO703.out).2.2 | (with_reducible refine Kd.C_alloc ?_ _) | (with_reducible refine Kd.C_drewN ?_ _) | (with_reducible refine Kd.C_drew ?_)))
       (case side2 => exact (Kd.R_reads' HO703.out).2.1)
       (case side3 => repeat (first | exact (Kd.R_reads' HO706.out).2.2 | (with_reducible refine Kd.C_alloc ?_ _) | (with_reducible refine Kd.C_drewN ?_ _) | (with_reducible refine Kd.C_drew ?_)))
       (case side4 => exact (Kd.R_reads' HO706.out).2.1)
       rintro e w61 ⟨v708, rfl, ho0, hb⟩
       refine ⟨_, rfl, ?_⟩
       have n0_ := A_ (Kd.R_elder' (kr_ HO703.out) (Kd.R_base ho0) hb)
       have n1_ := A_ (Kd.R_elder' (kr_ HO706.out) (Kd.R_base ho0) hb)
       have n2_ := A_ (Kd.R_lower (Kd.R_new' (Kd.R_new' ho0 (Kd.R_lt (kr_ HO703.out))) (Kd.R_lt (kr_ HO706.out))) (below_size (hb2_ HB.out GE693.out GE698.out)))
       have n3_ := A_ (bb_ BK693.out hb)
       have n4_ := A_ (bb_ BK698.out hb)
       have n5_ := A_ (below_step (hb2_ HB.out GE693.out GE698.out) hb)
       clear HO703;clear HO706;clear BK693;clear BK698;clear HB;have HO703 := n0_;have HO706 := n1_;have HO709 := n2_;have BK693 := n3_;have BK698 := n4_;have HB := n5_;clear n0_ n1_ n2_ n3_ n4_ n5_;(try clear hb);(try clear hb2);(try clear hk);(try clear hi);(try clear ho0)
       obtain ⟨Ao62, co62, eo62⟩ := Kd.R_slice HO709.out
       (first | subst eo62 | (injection eo62 with f1_ f2_ f3_; have f4_ := f1_.symm; have f5_ := f3_.symm; clear f1_ f2_ f3_; subst f4_; subst f5_))
       refine hK.out _ _ ⟨bc_ BK693.out 0, bc_ BK693.out 1, bc_ BK693.out 2, bc_ BK693.out 3, bc_ BK698.out 0, bc_ BK698.out 1, bc_ BK698.out 2, bc_ BK698.out 3⟩ (fun hHeld => ?_)
       clear hK K
       refine norm_ (a' := ?_) ?_ ?_
       rotate_left
       ·show Act.put _ (some 70) _ = _
        simp only [Act.put, lI_, l0_, lS_, i64_w, i32_w]
        rfl
       refine one_ (i := 14) (N := some 76) #[true, true, true, true, true, true, true, true, true, true, true, true, true, true, true, false] rfl rfl (one_of HT_.out (by kernel_rfl)) (by decide) (fun K hK => ?_)
       refine goes_ Try.func45 (by kernel_rfl) rfl #[.int .i64 a0, .bool (t689 != t694), .agg #[.slice Ao62 t707.length co62], .int .i64 (wrap64 (t691 + t696))] (by rfl) rfl rfl mp_ ?_
       with_reducible refine (r3_Exact.calls kj42 a0 (t689 != t694) _ _ t707 (wrap64 (t691 + t696)) t710 _ ?side1 ?side2 A55.out).mono ?_
       (case side1 => repeat (first | exact (Kd.R_reads' HO709.out).2.2 | (with_reducible refine Kd.C_alloc ?_ _) | (with_reducible refine Kd.C_drewN ?_ _) | (with_reducible refine Kd.C_drew ?_)))
       (case side2 => exact (Kd.R_reads' HO709.out).2.1)
       rintro e w63 ⟨rfl, hb⟩
       refine ⟨_, rfl, ?_⟩
       have n0_ := A_ (Kd.R_below (kr_ HO703.out) hb)
       have n1_ := A_ (Kd.R_below (kr_ HO706.out) hb)
       have n2_ := A_ (Kd.R_below (kr_ HO709.out) hb)
       have n3_ := A_ (bb_ BK693.out hb)
       have n4_ := A_ (bb_ BK698.out hb)
       have n5_ := A_ (below_step (hb2_ HB.out GE693.out GE698.out) hb)
       clear HO703;clear HO706;clear HO709;clear BK693;clear BK698;clear HB;have HO703 := n0_;have HO706 := n1_;have HO709 := n2_;have BK693 := n3_;have BK698 := n4_;have HB := n5_;clear n0_ n1_ n2_ n3_ n4_ n5_;(try clear hb);(try clear hb2);(try clear hk);(try clear hi)
       refine hK.out _ _ ⟨bc_ BK693.out 0, bc_ BK693.out 1, bc_ BK693.out 2, bc_ BK693.out 3, bc_ BK698.out 0, bc_ BK698.out 1, bc_ BK698.out 2, bc_ BK698.out 3⟩ (fun hHeld => ?_)
       clear hK K
       refine norm_ (a' := ?_) ?_ ?_
       rotate_left
       ·show Act.put _ (some 76) _ = _
        simp only [Act.put, lI_, l0_, lS_, i64_w, i32_w]
        rfl
       refine pu_ 15 (some 6) #[true, true, true, true, true, true, true, true, true, true, true, true, true, true, true, true] rfl rfl (any_of HT_.out (by kernel_rfl)) ?_
       refine done_ (done_of HT_.out (by kernel_rfl)) ?_
       try go_wp2
       go_ret
       exact ⟨er_, hb2_ HB.out GE693.out GE698.out⟩
def L05_ProductMuls.f (k : Nat) (a0 : Int) (a1 : Int) (a2 : Int) : Option (Bool) := (L05_awake.f k).bind fun t711 => (if t711 = true then ((product_Mul.f k a0 a1 a2).bind fun t712 => ((r2_Known.f a0).bind fun t713 => (if t713 = true then ((r5_Mul.f k a0 a1 a2).bind fun t714 => (some (t712 == t714))) else (some (t712 == 0))))) else (some false))
theorem L05_ProductMuls.mono : ∀ a0 a1 a2 k, LeO (L05_ProductMuls.f k a0 a1 a2) (L05_ProductMuls.f (k + 1) a0 a1 a2) := by
 intro a0 a1 a2 k
 unfold L05_ProductMuls.f
 repeat' first
   | (with_reducible exact product_Mul.mono _ _ _ _)
   | (with_reducible exact L05_awake.mono _)
   | (with_reducible exact r5_Mul.mono _ _ _ _)
   | (with_reducible exact LeO.refl _)
   | (with_reducible exact LeO.none _)
   | (with_reducible refine LeO.ite ?_ ?_)
   | (with_reducible refine LeO.bind ?_ (fun _ => ?_))
   | exact product_Mul.mono _ _ _ _
   | exact L05_awake.mono _
   | exact r5_Mul.mono _ _ _ _
   | exact LeO.none _
   | refine LeO.ite ?_ ?_
   | refine LeO.bind ?_ (fun _ => ?_)
theorem L05_ProductMuls.calls (k : Nat) (a0 : Int) (a1 : Int) (a2 : Int) (r : Bool) (w : World) (h : L05_ProductMuls.f k a0 a1 a2 = some r) (hr_ : Aside0 (r = true)) :
  Calls Try.prog 9 #[.int .i64 a0, .int .u64 a1, .int .u64 a2] w fun e w' => e = .returned (.bool r) ∧ Below w.heap.size w w' := by
 have HB := A_ (Below.refl w.heap.size w)
 have H : ((L05_awake.f k).bind fun t711 => (if t711 = true then ((product_Mul.f k a0 a1 a2).bind fun t712 => ((r2_Known.f a0).bind fun t713 => (if t713 = true then ((r5_Mul.f k a0 a1 a2).bind fun t714 => (some (t712 == t714))) else (some (t712 == 0))))) else (some false))) = some r := h
 clear h
 replace H := ob_ H
 obtain ⟨t711, A40, H⟩ := H
 replace H : (if t711 = true then ((product_Mul.f k a0 a1 a2).bind fun t712 => ((r2_Known.f a0).bind fun t713 => (if t713 = true then ((r5_Mul.f k a0 a1 a2).bind fun t714 => (some (t712 == t714))) else (some (t712 == 0))))) else (some false)) = some r := H
 have A4 := A_ A40;clear A40
 by_cases c5 : t711 = true
 ·subst c5
  have H1 : ((product_Mul.f k a0 a1 a2).bind fun t712 => ((r2_Known.f a0).bind fun t713 => (if t713 = true then ((r5_Mul.f k a0 a1 a2).bind fun t714 => (some (t712 == t714))) else (some (t712 == 0))))) = some r := by rw [if_pos rfl] at H; exact H
  clear H;have H := H1;clear H1
  replace H := ob_ H
  obtain ⟨t712, A60, H⟩ := H
  replace H : ((r2_Known.f a0).bind fun t713 => (if t713 = true then ((r5_Mul.f k a0 a1 a2).bind fun t714 => (some (t712 == t714))) else (some (t712 == 0)))) = some r := H
  have A6 := A_ A60;clear A60
  replace H := ob_ H
  obtain ⟨t713, A70, H⟩ := H
  replace H : (if t713 = true then ((r5_Mul.f k a0 a1 a2).bind fun t714 => (some (t712 == t714))) else (some (t712 == 0))) = some r := H
  have A7 := A_ A70;clear A70
  by_cases c8 : t713 = true
  ·subst c8
   have H1 : ((r5_Mul.f k a0 a1 a2).bind fun t714 => (some (t712 == t714))) = some r := by rw [if_pos rfl] at H; exact H
   clear H;have H := H1;clear H1
   replace H := ob_ H
   obtain ⟨t714, A90, H⟩ := H
   replace H : (some (t712 == t714)) = some r := H
   have A9 := A_ A90;clear A90
   obtain rfl := Option.some.inj H
   go_enter Try.func9, Try.ntmps9
   go_wp2_with (first | ((with_reducible refine gate_callee (f := 53) rfl ?_); refine gl_ (some 8) Try.func53 #[] ?_; (with_reducible refine (L05_awake.calls k  true _ A4.out).mono ?_); rintro e w10 ⟨rfl, hb⟩; refine ⟨_, rfl, ?_⟩; have n0_ := A_ (below_step (hb_ HB.out) hb); clear HB; have HB := n0_; clear n0_; (try clear hb); (try clear hb2); (try clear hk); (try clear hi)) | ((with_reducible refine gate_callee (f := 54) rfl ?_); refine gl_ (some 13) Try.func54 #[.int .i64 a0, .int .u64 a1, .int .u64 a2] ?_; (with_reducible refine (product_Mul.calls k a0 a1 a2 t712 _ A6.out).mono ?_); rintro e w11 ⟨rfl, hb⟩; refine ⟨_, rfl, ?_⟩; have n0_ := A_ (below_step (hb_ HB.out) hb); clear HB; have HB := n0_; clear n0_; (try clear hb); (try clear hb2); (try clear hk); (try clear hi)) | ((with_reducible refine gate_callee (f := 33) rfl ?_); refine gl_ (some 15) Try.func33 #[.int .i64 a0] ?_; (with_reducible refine (r2_Known.calls a0 true _ A7.out).mono ?_); rintro e w' ⟨rfl, ⟨nd, rfl⟩⟩; refine ⟨_, rfl, ?_⟩) | ((with_reducible refine gate_callee (f := 55) rfl ?_); refine gl_ (some 23) Try.func55 #[.int .i64 a0, .int .u64 a1, .int .u64 a2] ?_; (with_reducible refine (r5_Mul.calls k a0 a1 a2 t714 _ A9.out).mono ?_); rintro e w12 ⟨rfl, hb⟩; refine ⟨_, rfl, ?_⟩; have n0_ := A_ (below_step (hb_ HB.out) hb); clear HB; have HB := n0_; clear n0_; (try clear hb); (try clear hb2); (try clear hk); (try clear hi)))
   go_ret
   exact ⟨er_, hb_ HB.out⟩
  ·replace c8 := Bool.eq_false_iff.mpr c8
   subst c8
   have H1 : (some (t712 == 0)) = some r := by rw [if_neg (show ¬ (false = true) by decide)] at H; exact H
   clear H;have H := H1;clear H1
   obtain rfl := Option.some.inj H
   go_enter Try.func9, Try.ntmps9
   go_wp2_with (first | ((with_reducible refine gate_callee (f := 53) rfl ?_); refine gl_ (some 8) Try.func53 #[] ?_; (with_reducible refine (L05_awake.calls k  true _ A4.out).mono ?_); rintro e w13 ⟨rfl, hb⟩; refine ⟨_, rfl, ?_⟩; have n0_ := A_ (below_step (hb_ HB.out) hb); clear HB; have HB := n0_; clear n0_; (try clear hb); (try clear hb2); (try clear hk); (try clear hi)) | ((with_reducible refine gate_callee (f := 54) rfl ?_); refine gl_ (some 13) Try.func54 #[.int .i64 a0, .int .u64 a1, .int .u64 a2] ?_; (with_reducible refine (product_Mul.calls k a0 a1 a2 t712 _ A6.out).mono ?_); rintro e w14 ⟨rfl, hb⟩; refine ⟨_, rfl, ?_⟩; have n0_ := A_ (below_step (hb_ HB.out) hb); clear HB; have HB := n0_; clear n0_; (try clear hb); (try clear hb2); (try clear hk); (try clear hi)) | ((with_reducible refine gate_callee (f := 33) rfl ?_); refine gl_ (some 15) Try.func33 #[.int .i64 a0] ?_; (with_reducible refine (r2_Known.calls a0 false _ A7.out).mono ?_); rintro e w' ⟨rfl, ⟨nd, rfl⟩⟩; refine ⟨_, rfl, ?_⟩))
   go_ret
   exact ⟨er_, hb_ HB.out⟩
 ·replace c5 := Bool.eq_false_iff.mpr c5
  subst c5
  have H1 : (some false) = some r := by rw [if_neg (show ¬ (false = true) by decide)] at H; exact H
  clear H;have H := H1;clear H1
  exact absurd ((Option.some.inj H).trans hr_.out) (by decide)
def L05_ProductMuls.Pure : Prop := ∀ (a0 : Int) (a1 : Int) (a2 : Int), (Lit.int .i64 a0).wf = true → (Lit.int .u64 a1).wf = true → (Lit.int .u64 a2).wf = true → ∃ k, L05_ProductMuls.f k a0 a1 a2 = some true
theorem L05_ProductMuls.walk (P : L05_ProductMuls.Pure) (a0 : Int) (a1 : Int) (a2 : Int) (w : World) (w0 : (Lit.int .i64 a0).wf = true) (w1 : (Lit.int .u64 a1).wf = true) (w2 : (Lit.int .u64 a2).wf = true) :
  Calls Try.prog 9 #[.int .i64 a0, .int .u64 a1, .int .u64 a2] w fun e w' => e = .returned (.bool true) ∧ Below w.heap.size w w' := by
 obtain ⟨k, h⟩ := P a0 a1 a2 w0 w1 w2
 refine (L05_ProductMuls.calls k a0 a1 a2 true w h ⟨rfl⟩).mono ?_
 rintro e w' ⟨rfl, hd⟩
 exact ⟨rfl, hd⟩
end Go.Proofs.Ytgcgheilbngcoaa.PA
section
set_option linter.unusedVariables false
set_option linter.unusedSimpArgs false
namespace Go.Proofs.Ytgcgheilbngcoaa.Th
open Go.RowKit Go.Proofs.YtgcgheilbngcoaaW.PrintWords Go.Proofs.YtgcgheilbngcoaaW.PrintLast Go.Proofs.YtgcgheilbngcoaaW.PrintMore Go.Proofs.Ytgcgheilbngcoaa.PA Bit Flo
theorem two_i {n : Int} (m : Nat) (h : n = m) (hm : m < 64) : Ev (fun k => r2_Two.f k n) ((2 ^ m : Nat) : Int) := by subst h; exact two_f m hm

theorem r2E32 : r2_E.f 32 = some 8 := by decide +kernel
theorem r2F32 : r2_F.f 32 = some 23 := by decide +kernel
theorem r2B32 : r2_B.f 32 = some 127 := by decide +kernel
theorem r2Tf32 : Ev (fun k => r2_Two.f k 23) ((8388608 : Nat) : Int) := by have h := two_i (n := 23) 23 rfl (by decide); rw [show (2 : Nat) ^ 23 = 8388608 by decide] at h; exact h
theorem r2Te32 : Ev (fun k => r2_Two.f k 8) ((256 : Nat) : Int) := by have h := two_i (n := 8) 8 rfl (by decide); rw [show (2 : Nat) ^ 8 = 256 by decide] at h; exact h
theorem r2Ts32 : Ev (fun k => r2_Two.f k (wrap64 (32 - 1))) ((2147483648 : Nat) : Int) := by have h := two_i (n := wrap64 (32 - 1)) 31 (by decide +kernel) (by decide); rw [show (2 : Nat) ^ 31 = 2147483648 by decide] at h; exact h
theorem r2Th32 : Ev (fun k => r2_Two.f k (wrap64 (23 - 1))) ((4194304 : Nat) : Int) := by have h := two_i (n := wrap64 (23 - 1)) 22 (by decide +kernel) (by decide); rw [show (2 : Nat) ^ 22 = 4194304 by decide] at h; exact h
theorem r2Exp32 (a : Nat) (ha : a < 18446744073709551616) : Ev (fun k => r2_Exp.f k 32 a) ((a / 8388608 % 256 : Nat) : Int) := by
  unfold r2_Exp.f
  refine Ev.bs (r2Cut 32 a (by decide)) (Ev.bs r2F32 (Ev.bind r2Tf32 (Ev.neg (by decide) (Ev.bs r2E32 (Ev.bind r2Te32 (Ev.neg (by decide) (Ev.out ?_)))))))
  have hc : cutN 32 a = a % 4294967296 := by unfold cutN; rw [if_pos rfl]
  rw [hc, Int.tdiv_eq_ediv_of_nonneg (by omega), u64_id (by omega) (by omega), Int.tmod_eq_emod_of_nonneg (by omega), w64_id (by omega) (by omega)]
  omega
theorem r2Frac32 (a : Nat) (ha : a < 18446744073709551616) : Ev (fun k => r2_Frac.f k 32 a) ((a % 8388608 : Nat) : Int) := by
  unfold r2_Frac.f
  refine Ev.bs r2F32 (Ev.bind r2Tf32 (Ev.neg (by decide) (Ev.out ?_)))
  rw [Int.tmod_eq_emod_of_nonneg (by omega)]; omega
theorem r2Top32 : Ev (fun k => r2_Top.f k 32) ((255 : Nat) : Int) := by
  unfold r2_Top.f
  exact Ev.bs r2E32 (Ev.bind r2Te32 (Ev.out (by decide +kernel)))
theorem r2Make32 (s : Bool) (e fr : Nat) (he : e ≤ 255) (hf : fr < 8388608) : Ev (fun k => r2_Make.f k 32 s e fr) ((mkN 32 (e * 8388608 + fr) s : Nat) : Int) := by
  unfold r2_Make.f
  refine Ev.bs r2F32 (Ev.bind r2Tf32 ?_)
  rw [u64_id (n := (e : Int)) (by omega) (by omega), u64_id (n := (e : Int) * ((8388608 : Nat) : Int)) (by omega) (by omega), u64_id (n := (e : Int) * ((8388608 : Nat) : Int) + fr) (by omega) (by omega)]
  unfold mkN
  rw [show sb 32 = 2147483648 by decide]
  cases s
  · exact Ev.neg (by decide) (Ev.out (by simp))
  · refine Ev.pos rfl (Ev.bind r2Ts32 (Ev.out ?_))
    rw [u64_id (by omega) (by omega)]; simp only [if_true]; omega
theorem r2Nan32 : Ev (fun k => r2_Nan.f k 32) ((nanN 32 : Nat) : Int) := by
  unfold r2_Nan.f
  refine Ev.bind r2Top32 (Ev.bs r2F32 (Ev.bind r2Th32 (Ev.bind (r2Make32 false 255 4194304 (by decide) (by decide)) (Ev.out (by decide)))))
theorem r2Inf32 (s : Bool) : Ev (fun k => r2_Inf.f k 32 s) ((mkN 32 f32.inf s : Nat) : Int) := by
  unfold r2_Inf.f
  have h := r2Make32 s 255 0 (by decide) (by decide)
  exact Ev.bind r2Top32 (Ev.bind h (Ev.out (by rw [inf32])))
theorem r2Open32 (a : Nat) (ha : a < 18446744073709551616) : Ev (fun k => r2_Open.f k 32 a) (opn 32 a) := by
  rw [opn32]
  unfold r2_Open.f
  refine Ev.bind (r2Exp32 a ha) (Ev.bind (r2Frac32 a ha) (Ev.bind (r2Neg 32 (by decide) a ha) (Ev.bind r2Top32 ?_)))
  unfold sgB
  rw [show sb 32 = 2147483648 by decide]
  have hP : a % 2147483648 % 8388608 = a % 8388608 := by omega
  have hQ : a % 2147483648 / 8388608 = a / 8388608 % 256 := by omega
  have hT : a / 8388608 % 256 < 256 := Nat.mod_lt _ (by decide)
  have hE : a % 2147483648 = a / 8388608 % 256 * 8388608 + a % 8388608 := by omega
  rw [hP, hQ, hE]
  generalize a / 8388608 % 256 = e at *
  have hF : a % 8388608 < 8388608 := Nat.mod_lt _ (by decide)
  generalize a % 8388608 = fr at *
  generalize decide (a / 2147483648 % 2 = 1) = s
  by_cases h1 : e = 255
  · subst h1
    refine Ev.pos rfl ?_
    by_cases h2 : fr = 0
    · subst h2
      refine Ev.pos rfl (Ev.out ?_)
      rw [if_neg (by omega), if_neg (by omega), if_pos (by omega)]
    · refine Ev.neg (by omega) (Ev.out ?_)
      rw [if_neg (by omega), if_neg (by omega), if_neg (by omega)]
  · refine Ev.neg (by omega) ?_
    by_cases h2 : e = 0
    · subst h2
      refine Ev.pos rfl ?_
      by_cases h3 : fr = 0
      · subst h3
        refine Ev.pos rfl (Ev.out ?_)
        rw [Nat.zero_mul, Nat.zero_add, if_pos rfl]
      · refine Ev.neg (by omega) (Ev.bs r2B32 (Ev.bs r2F32 (Ev.out ?_)))
        rw [if_neg (by omega), if_pos (by omega), if_pos (by omega), if_pos (by omega), show wrap64 (wrap64 (1 - 127) - 23) = (-149 : Int) by decide +kernel]
        simp
    · refine Ev.neg (by omega) (Ev.bs r2B32 (Ev.bs r2F32 (Ev.bs r2F32 (Ev.bind r2Tf32 (Ev.out ?_)))))
      rw [if_neg (by omega), if_pos (by omega), if_neg (by omega), if_neg (by omega)]
      rw [w64_id (n := ((e : Nat) : Int) - 127) (by omega) (by omega), w64_id (by omega) (by omega), u64_id (by omega) (by omega)]
      congr 2
      congr 1
      omega

theorem r2E64 : r2_E.f 64 = some 11 := by decide +kernel
theorem r2F64 : r2_F.f 64 = some 52 := by decide +kernel
theorem r2B64 : r2_B.f 64 = some 1023 := by decide +kernel
theorem r2Tf64 : Ev (fun k => r2_Two.f k 52) ((4503599627370496 : Nat) : Int) := by have h := two_i (n := 52) 52 rfl (by decide); rw [show (2 : Nat) ^ 52 = 4503599627370496 by decide] at h; exact h
theorem r2Te64 : Ev (fun k => r2_Two.f k 11) ((2048 : Nat) : Int) := by have h := two_i (n := 11) 11 rfl (by decide); rw [show (2 : Nat) ^ 11 = 2048 by decide] at h; exact h
theorem r2Ts64 : Ev (fun k => r2_Two.f k (wrap64 (64 - 1))) ((9223372036854775808 : Nat) : Int) := by have h := two_i (n := wrap64 (64 - 1)) 63 (by decide +kernel) (by decide); rw [show (2 : Nat) ^ 63 = 9223372036854775808 by decide] at h; exact h
theorem r2Th64 : Ev (fun k => r2_Two.f k (wrap64 (52 - 1))) ((2251799813685248 : Nat) : Int) := by have h := two_i (n := wrap64 (52 - 1)) 51 (by decide +kernel) (by decide); rw [show (2 : Nat) ^ 51 = 2251799813685248 by decide] at h; exact h
theorem r2Exp64 (a : Nat) (ha : a < 18446744073709551616) : Ev (fun k => r2_Exp.f k 64 a) ((a / 4503599627370496 % 2048 : Nat) : Int) := by
  unfold r2_Exp.f
  refine Ev.bs (r2Cut 64 a (by decide)) (Ev.bs r2F64 (Ev.bind r2Tf64 (Ev.neg (by decide) (Ev.bs r2E64 (Ev.bind r2Te64 (Ev.neg (by decide) (Ev.out ?_)))))))
  have hc : cutN 64 a = a % 18446744073709551616 := by unfold cutN; rw [if_neg (by decide), if_pos rfl]; omega
  rw [hc, Int.tdiv_eq_ediv_of_nonneg (by omega), u64_id (by omega) (by omega), Int.tmod_eq_emod_of_nonneg (by omega), w64_id (by omega) (by omega)]
  omega
theorem r2Frac64 (a : Nat) (ha : a < 18446744073709551616) : Ev (fun k => r2_Frac.f k 64 a) ((a % 4503599627370496 : Nat) : Int) := by
  unfold r2_Frac.f
  refine Ev.bs r2F64 (Ev.bind r2Tf64 (Ev.neg (by decide) (Ev.out ?_)))
  rw [Int.tmod_eq_emod_of_nonneg (by omega)]; omega
theorem r2Top64 : Ev (fun k => r2_Top.f k 64) ((2047 : Nat) : Int) := by
  unfold r2_Top.f
  exact Ev.bs r2E64 (Ev.bind r2Te64 (Ev.out (by decide +kernel)))
theorem r2Make64 (s : Bool) (e fr : Nat) (he : e ≤ 2047) (hf : fr < 4503599627370496) : Ev (fun k => r2_Make.f k 64 s e fr) ((mkN 64 (e * 4503599627370496 + fr) s : Nat) : Int) := by
  unfold r2_Make.f
  refine Ev.bs r2F64 (Ev.bind r2Tf64 ?_)
  rw [u64_id (n := (e : Int)) (by omega) (by omega), u64_id (n := (e : Int) * ((4503599627370496 : Nat) : Int)) (by omega) (by omega), u64_id (n := (e : Int) * ((4503599627370496 : Nat) : Int) + fr) (by omega) (by omega)]
  unfold mkN
  rw [show sb 64 = 9223372036854775808 by decide]
  cases s
  · exact Ev.neg (by decide) (Ev.out (by simp))
  · refine Ev.pos rfl (Ev.bind r2Ts64 (Ev.out ?_))
    rw [u64_id (by omega) (by omega)]; simp only [if_true]; omega
theorem r2Nan64 : Ev (fun k => r2_Nan.f k 64) ((nanN 64 : Nat) : Int) := by
  unfold r2_Nan.f
  refine Ev.bind r2Top64 (Ev.bs r2F64 (Ev.bind r2Th64 (Ev.bind (r2Make64 false 2047 2251799813685248 (by decide) (by decide)) (Ev.out (by decide)))))
theorem r2Inf64 (s : Bool) : Ev (fun k => r2_Inf.f k 64 s) ((mkN 64 f64.inf s : Nat) : Int) := by
  unfold r2_Inf.f
  have h := r2Make64 s 2047 0 (by decide) (by decide)
  exact Ev.bind r2Top64 (Ev.bind h (Ev.out (by rw [inf64])))
theorem r2Open64 (a : Nat) (ha : a < 18446744073709551616) : Ev (fun k => r2_Open.f k 64 a) (opn 64 a) := by
  rw [opn64]
  unfold r2_Open.f
  refine Ev.bind (r2Exp64 a ha) (Ev.bind (r2Frac64 a ha) (Ev.bind (r2Neg 64 (by decide) a ha) (Ev.bind r2Top64 ?_)))
  unfold sgB
  rw [show sb 64 = 9223372036854775808 by decide]
  have hP : a % 9223372036854775808 % 4503599627370496 = a % 4503599627370496 := by omega
  have hQ : a % 9223372036854775808 / 4503599627370496 = a / 4503599627370496 % 2048 := by omega
  have hT : a / 4503599627370496 % 2048 < 2048 := Nat.mod_lt _ (by decide)
  have hE : a % 9223372036854775808 = a / 4503599627370496 % 2048 * 4503599627370496 + a % 4503599627370496 := by omega
  rw [hP, hQ, hE]
  generalize a / 4503599627370496 % 2048 = e at *
  have hF : a % 4503599627370496 < 4503599627370496 := Nat.mod_lt _ (by decide)
  generalize a % 4503599627370496 = fr at *
  generalize decide (a / 9223372036854775808 % 2 = 1) = s
  by_cases h1 : e = 2047
  · subst h1
    refine Ev.pos rfl ?_
    by_cases h2 : fr = 0
    · subst h2
      refine Ev.pos rfl (Ev.out ?_)
      rw [if_neg (by omega), if_neg (by omega), if_pos (by omega)]
    · refine Ev.neg (by omega) (Ev.out ?_)
      rw [if_neg (by omega), if_neg (by omega), if_neg (by omega)]
  · refine Ev.neg (by omega) ?_
    by_cases h2 : e = 0
    · subst h2
      refine Ev.pos rfl ?_
      by_cases h3 : fr = 0
      · subst h3
        refine Ev.pos rfl (Ev.out ?_)
        rw [Nat.zero_mul, Nat.zero_add, if_pos rfl]
      · refine Ev.neg (by omega) (Ev.bs r2B64 (Ev.bs r2F64 (Ev.out ?_)))
        rw [if_neg (by omega), if_pos (by omega), if_pos (by omega), if_pos (by omega), show wrap64 (wrap64 (1 - 1023) - 52) = (-1074 : Int) by decide +kernel]
        simp
    · refine Ev.neg (by omega) (Ev.bs r2B64 (Ev.bs r2F64 (Ev.bs r2F64 (Ev.bind r2Tf64 (Ev.out ?_)))))
      rw [if_neg (by omega), if_pos (by omega), if_neg (by omega), if_neg (by omega)]
      rw [w64_id (n := ((e : Nat) : Int) - 1023) (by omega) (by omega), w64_id (by omega) (by omega), u64_id (by omega) (by omega)]
      congr 2
      congr 1
      omega
theorem r2Open (w : Int) (hw : w = 32 ∨ w = 64) (a : Nat) (ha : a < 18446744073709551616) : Ev (fun k => r2_Open.f k w a) (opn w a) := by
  rcases hw with rfl | rfl
  · exact r2Open32 a ha
  · exact r2Open64 a ha
end Go.Proofs.Ytgcgheilbngcoaa.Th
end
section
set_option linter.unusedVariables false
set_option linter.unusedSimpArgs false
namespace Go.Proofs.Ytgcgheilbngcoaa.Th
open Go.RowKit Go.Proofs.YtgcgheilbngcoaaW.PrintWords Go.Proofs.YtgcgheilbngcoaaW.PrintLast Go.Proofs.YtgcgheilbngcoaaW.PrintMore Go.Proofs.Ytgcgheilbngcoaa.PA Bit Flo Dig
theorem inf_pos (w : Int) (hw : w = 32 ∨ w = 64) : 0 < (fmt w).inf := by rcases hw with rfl | rfl <;> decide
theorem kinds (w : Int) (hw : w = 32 ∨ w = 64) (a : Nat) : (magN w a = 0 ∧ opn w a = (sgB w a, 0, 0, 0)) ∨ (0 < magN w a ∧ magN w a < (fmt w).inf ∧ opn w a = (sgB w a, 1, (fmt w).ex (magN w a), ((fmt w).sg (magN w a) : Int))) ∨ (magN w a = (fmt w).inf ∧ opn w a = (sgB w a, 2, 0, 0)) ∨ ((fmt w).inf < magN w a ∧ opn w a = (false, 3, 0, 0)) := by
  have h0 := inf_pos w hw
  unfold opn; simp only
  by_cases h1 : magN w a = 0
  · left; rw [if_pos h1]; exact ⟨h1, rfl⟩
  · right; rw [if_neg h1]
    by_cases h2 : magN w a < (fmt w).inf
    · left; rw [if_pos h2]; exact ⟨by omega, h2, rfl⟩
    · right; rw [if_neg h2]
      by_cases h3 : magN w a = (fmt w).inf
      · left; rw [if_pos h3]; exact ⟨h3, rfl⟩
      · right; rw [if_neg h3]; exact ⟨by omega, rfl⟩
theorem ex_bd (w : Int) (hw : w = 32 ∨ w = 64) (m : Nat) (h : m < (fmt w).inf) : -1074 ≤ (fmt w).ex m ∧ (fmt w).ex m ≤ 971 := by
  rcases hw with rfl | rfl
  · rw [fmt32, inf32] at h; rw [fmt32, ex32]; split <;> omega
  · rw [fmt64, inf64] at h; rw [fmt64, ex64]; split <;> omega
theorem sg_64 (w : Int) (hw : w = 32 ∨ w = 64) (m : Nat) : (fmt w).sg m < 9007199254740992 := by
  have h := (fmt w).sg_lt m
  rcases hw with rfl | rfl
  · rw [fmt32] at h ⊢; rw [show (2 : Nat) ^ (f32.f + 1) = 16777216 by decide] at h; omega
  · rw [fmt64] at h ⊢; rw [show (2 : Nat) ^ (f64.f + 1) = 9007199254740992 by decide] at h; omega
end Go.Proofs.Ytgcgheilbngcoaa.Th
end
section
set_option linter.unusedVariables false
set_option linter.unusedSimpArgs false
namespace Go.Proofs.Ytgcgheilbngcoaa.Th
open Flo
theorem fmt_bd (w : Int) : (fmt w).f < 100 ∧ (-5000 < (fmt w).low ∧ (fmt w).low < 0) ∧ (fmt w).top < 5000 := by
  unfold fmt; split <;> decide
theorem fmt_f (w : Int) : (fmt w).f ≤ 52 := by unfold fmt; split <;> decide
theorem pk_ex (w : Int) (S : Nat) (e : Int) (hS : S < 340282366920938463463374607431768211456) : pkm (fmt w) S e false = (fmt w).rnd ((S : Rat) * tw e) := by
  have h := fmt_bd w
  rw [← pkx_f, pkm_rnd _ h.1 h.2.1 h.2.2 S e false hS]
abbrev Pt := Bool × Int × Int × Int
noncomputable def pv (p : Pt) : Rat := if p.2.1 = 1 then (if p.1 then -((p.2.2.2.toNat : Rat) * tw p.2.2.1) else (p.2.2.2.toNat : Rat) * tw p.2.2.1) else 0
noncomputable def fx (w : Int) (s : Rat) (z : Bool) : Nat := if s = 0 then mkN w 0 z else if s < 0 then mkN w ((fmt w).rnd (-s)) true else mkN w ((fmt w).rnd s) false
noncomputable def mulP (w : Int) (p q : Pt) : Nat :=
  if p.2.1 = 3 ∨ q.2.1 = 3 ∨ p.2.1 = 2 ∧ q.2.1 = 0 ∨ p.2.1 = 0 ∧ q.2.1 = 2 then nanN w else if p.2.1 = 2 ∨ q.2.1 = 2 then mkN w (fmt w).inf (p.1 != q.1)
  else fx w (pv p * pv q) (p.1 != q.1)
theorem fx_pos (w : Int) {s : Rat} (h : 0 < s) (z : Bool) : fx w s z = mkN w ((fmt w).rnd s) false := by
  unfold fx; rw [if_neg (by grind), if_neg (by grind)]
theorem fx_neg (w : Int) {s : Rat} (h : 0 < s) (z : Bool) : fx w (-s) z = mkN w ((fmt w).rnd s) true := by
  unfold fx; rw [if_neg (by grind), if_pos (by grind), Rat.neg_neg]
theorem fx_zero (w : Int) (z : Bool) : fx w 0 z = mkN w 0 z := by unfold fx; rw [if_pos rfl]
theorem fx_sg (w : Int) {s : Rat} (h : 0 < s) (n z : Bool) : fx w (if n then -s else s) z = mkN w ((fmt w).rnd s) n := by
  cases n
  · exact fx_pos w h z
  · exact fx_neg w h z
end Go.Proofs.Ytgcgheilbngcoaa.Th
end
section
set_option linter.unusedVariables false
set_option linter.unusedSimpArgs false
namespace Go.Proofs.Ytgcgheilbngcoaa.Th
open Go.RowKit Go.Proofs.YtgcgheilbngcoaaW.PrintWords Go.Proofs.YtgcgheilbngcoaaW.PrintLast Go.Proofs.YtgcgheilbngcoaaW.PrintMore Go.Proofs.Ytgcgheilbngcoaa.PA Dig

theorem one_dg : Ev (fun k => r1_Of.f k 1) (dg 1) := of_dg 1 (by decide)
theorem cmp_nonneg (m n : Nat) : cmpN m n ≥ 0 ↔ n ≤ m := by unfold cmpN; split <;> (try split) <;> omega
theorem div_loop (A n : Nat) (hn0 : 0 < n) (hA : bl A < 100000000) (hn : bl n < 100000000) (s : Nat) : ∀ (q m : Nat), s < 100000000 → q * n + m = A → m < n * 2 ^ s →
    Ev (fun k => r1_Div.l0 k ((s : Int) - 1) (dg n) (dg q) (dg m)) (dg (A / n), dg (A % n)) := by
  induction s with
  | zero =>
    intro q m _ he hm
    refine Ev.step (fun _ => r1_Div.l0.eq_2 ..) ?_
    refine Ev.neg (by omega) (Ev.out ?_)
    rw [Nat.pow_zero, Nat.mul_one] at hm
    have h1 : A / n = q := by rw [← he, Nat.mul_comm, Nat.mul_add_div hn0, Nat.div_eq_of_lt hm, Nat.add_zero]
    have h2 : A % n = m := by rw [← he, Nat.mul_comm, Nat.mul_add_mod, Nat.mod_eq_of_lt hm]
    rw [h1, h2]
  | succ s ih =>
    intro q m hs he hm
    have e1 : (((s + 1 : Nat) : Int) - 1) = ((s : Nat) : Int) := by omega
    rw [e1]
    have hm2 : m ≤ A := by omega
    have hq2 : q ≤ A := Nat.le_trans (Nat.le_mul_of_pos_right q hn0) (by omega)
    have b1 := bl_mono hm2
    have b2 := bl_mono hq2
    have b3 := bl_shl n s
    have hw : wrap64 ((s : Int) - 1) = (s : Int) - 1 := w64_id (by omega) (by omega)
    refine Ev.step (fun _ => r1_Div.l0.eq_2 ..) ?_
    rw [hw]
    refine Ev.pos (by omega) (Ev.bind (shl_bl n s (by omega) (by omega)) (Ev.bind (cmp_bl m (n * 2 ^ s) (by omega) (by omega)) ?_))
    by_cases h : n * 2 ^ s ≤ m
    · refine Ev.pos ((cmp_nonneg _ _).2 h) (Ev.bind (sub_bl m (n * 2 ^ s) h (by omega)) (Ev.bind one_dg (Ev.bind (shl_bl 1 s (by omega) (by decide)) ?_)))
      have h3 : 2 ^ s ≤ A := Nat.le_trans (Nat.le_mul_of_pos_left _ hn0) (Nat.le_trans h hm2)
      have b4 := bl_mono h3
      rw [Nat.one_mul]
      refine Ev.bind (add_bl q (2 ^ s) (by omega) (by omega)) (ih (q + 2 ^ s) (m - n * 2 ^ s) (by omega) ?_ ?_)
      · rw [Nat.add_mul, Nat.mul_comm (2 ^ s) n]; omega
      · rw [Nat.pow_succ, ← Nat.mul_assoc] at hm; omega
    · exact Ev.neg (fun h' => h ((cmp_nonneg _ _).1 h')) (ih q m (by omega) he (by omega))
theorem div_dg (a b : Nat) (hb : 0 < b) (ha1 : bl a < 100000000) (hb1 : bl b < 100000000) : Ev (fun k => r1_Div.f k (dg a) (dg b)) (dg (a / b), dg (a % b)) := by
  unfold r1_Div.f
  refine Ev.bind (len_dg a (by omega)) (Ev.bind (len_dg b (by omega)) ?_)
  rw [w64_id (by omega) (by omega)]
  by_cases h : bl b ≤ bl a
  · rw [show ((bl a : Nat) : Int) - ((bl b : Nat) : Int) = (((bl a - bl b + 1 : Nat) : Int) - 1) by omega, ← dg_zero]
    have h4 := bl_pos.2 hb
    refine div_loop a b hb ha1 hb1 (bl a - bl b + 1) 0 a (by omega) (by simp) ?_
    have h1 := lt_two_bl a
    have h2 := two_bl_le hb
    have h3 : 2 ^ (bl b - 1) * 2 ^ (bl a - bl b + 1) ≤ b * 2 ^ (bl a - bl b + 1) := Nat.mul_le_mul_right _ h2
    rw [← Nat.pow_add, show bl b - 1 + (bl a - bl b + 1) = bl a by omega] at h3
    omega
  · refine Ev.step (fun _ => r1_Div.l0.eq_2 ..) ?_
    have h1 : a < b := by
      rcases Nat.lt_or_ge a b with h1 | h1
      · exact h1
      · exact absurd (bl_mono h1) h
    refine Ev.neg (by omega) (Ev.out ?_)
    rw [Nat.div_eq_of_lt h1, Nat.mod_eq_of_lt h1, dg_zero]
theorem dg_len_pos (n : Nat) : decide (((dg n).length : Int) > 0) = decide (0 < n) := by
  have := len_pos (n := n)
  by_cases h : 0 < n
  · rw [decide_eq_true h, decide_eq_true (by omega)]
  · rw [decide_eq_false h, decide_eq_false (by omega)]
theorem half_dg (a n : Nat) (ha : bl a < 100000000) (hn : n < 90000000) : Ev (fun k => r1_Half.f k (dg a) n) (dg (a / 2 ^ n), decide (0 < a % 2 ^ n)) := by
  unfold r1_Half.f
  have h1 := bl_two n
  refine Ev.bind one_dg (Ev.bind (shl_bl 1 n (by omega) (by decide)) ?_)
  rw [Nat.one_mul]
  refine Ev.bind (div_dg a (2 ^ n) (Nat.pow_pos (by decide)) ha (by omega)) (Ev.out ?_)
  rw [dg_len_pos]
end Go.Proofs.Ytgcgheilbngcoaa.Th
end
section
set_option linter.unusedVariables false
set_option linter.unusedSimpArgs false
namespace Go.Proofs.Ytgcgheilbngcoaa.Th
open Go.RowKit Go.Proofs.YtgcgheilbngcoaaW.PrintWords Go.Proofs.YtgcgheilbngcoaaW.PrintLast Go.Proofs.YtgcgheilbngcoaaW.PrintMore Go.Proofs.Ytgcgheilbngcoaa.PA Bit Dig Flo
theorem r2Fw (w : Int) (hw : w = 32 ∨ w = 64) : r2_F.f w = some (((fmt w).f : Nat) : Int) := by rcases hw with rfl | rfl <;> decide +kernel
theorem r3Low (w : Int) (hw : w = 32 ∨ w = 64) : r3_Low.f w = some (fmt w).low := by rcases hw with rfl | rfl <;> decide +kernel
theorem r2Topw (w : Int) (hw : w = 32 ∨ w = 64) : Ev (fun k => r2_Top.f k w) (((fmt w).top : Nat) : Int) := by rcases hw with rfl | rfl; exact r2Top32; exact r2Top64
theorem r2Tfw (w : Int) (hw : w = 32 ∨ w = 64) : Ev (fun k => r2_Two.f k (((fmt w).f : Nat) : Int)) ((2 ^ (fmt w).f : Nat) : Int) := two_f _ (by have := (fmt_f w); omega)
theorem r2Infw (w : Int) (hw : w = 32 ∨ w = 64) (s : Bool) : Ev (fun k => r2_Inf.f k w s) ((mkN w (fmt w).inf s : Nat) : Int) := by rcases hw with rfl | rfl; exact r2Inf32 s; exact r2Inf64 s
theorem r2Nanw (w : Int) (hw : w = 32 ∨ w = 64) : Ev (fun k => r2_Nan.f k w) ((nanN w : Nat) : Int) := by rcases hw with rfl | rfl; exact r2Nan32; exact r2Nan64
theorem r2Makew (w : Int) (hw : w = 32 ∨ w = 64) (s : Bool) (e fr : Nat) (he : e ≤ (fmt w).top) (hf : fr < 2 ^ (fmt w).f) : Ev (fun k => r2_Make.f k w s e fr) ((mkN w (e * 2 ^ (fmt w).f + fr) s : Nat) : Int) := by
  rcases hw with rfl | rfl
  · exact r2Make32 s e fr he hf
  · exact r2Make64 s e fr he hf
theorem len_zero (n : Nat) : ((dg n).length : Int) = 0 ↔ n = 0 := by
  have := @len_pos n
  omega
theorem quotS (a b : Nat) (hb : 0 < b) (ha1 : bl a < 10000000) (hb1 : bl b < 10000000) : Ev (fun k => r3_Quotient.f k (dg a) (dg b)) (dg (rne a b)) := by
  unfold r3_Quotient.f
  have hm : bl (a % b) ≤ bl a := bl_mono (Nat.mod_le _ _)
  have hq : bl (a / b) ≤ bl a := bl_mono (Nat.div_le_self _ _)
  have hs := bl_shl (a % b) 1
  refine Ev.bind (div_dg a b hb (by omega) (by omega)) (Ev.bind (shl_bl (a % b) 1 (by decide) (by omega)) ?_)
  rw [show a % b * 2 ^ 1 = 2 * (a % b) by omega] at *
  refine Ev.bind (cmp_bl _ b (by omega) (by omega)) ?_
  have yes : Ev (fun k => r3_Quotient.j0 k true (dg (a / b))) (dg (a / b + 1)) :=
    Ev.step (fun _ => r3_Quotient.j0.eq_2 ..) (Ev.pos rfl (Ev.bind (of_dg 1 (by decide)) (Ev.bind (add_bl (a / b) 1 (by omega) (by decide)) (Ev.out rfl))))
  have no : Ev (fun k => r3_Quotient.j0 k false (dg (a / b))) (dg (a / b)) :=
    Ev.step (fun _ => r3_Quotient.j0.eq_2 ..) (Ev.neg (by decide) (Ev.out rfl))
  unfold cmpN rne
  by_cases h1 : b < 2 * (a % b)
  · rw [if_neg (show ¬ 2 * (a % b) < b by omega), if_pos h1, if_pos (.inl h1)]
    exact Ev.pos (by decide) yes
  · by_cases h2 : 2 * (a % b) = b
    · rw [if_neg (show ¬ 2 * (a % b) < b by omega), if_neg h1]
      refine Ev.neg (by decide) (Ev.pos rfl (Ev.bs (uint_dg _) ?_))
      have e : (Int.tmod ((a / b % 18446744073709551616 : Nat) : Int) 2 == 1) = decide (a / b % 2 = 1) := by
        rw [Int.tmod_eq_emod_of_nonneg (by omega), Bool.eq_iff_iff]; simp; omega
      rw [e]
      by_cases h3 : a / b % 2 = 1
      · rw [decide_eq_true h3, if_pos (.inr ⟨h2, h3⟩)]; exact yes
      · rw [decide_eq_false h3, if_neg (by omega)]; exact no
    · rw [if_pos (show 2 * (a % b) < b by omega), if_neg (by omega)]
      exact Ev.neg (by decide) (Ev.neg (by decide) no)
theorem underS (a b : Nat) (s : Int) (ha1 : bl a < 1000000) (hb1 : bl b < 1000000) (hs : -1000000 < s ∧ s < 1000000) : Ev (fun k => r3_under.f k (dg a) (dg b) s) (decide ((a : Rat) * tw s < (b : Rat))) := by
  unfold r3_under.f
  have hc : ∀ m n : Nat, decide (cmpN m n < 0) = decide (m < n) := fun m n => by
    unfold cmpN
    by_cases h : m < n
    · rw [if_pos h, decide_eq_true h]; rfl
    · rw [if_neg h, decide_eq_false h]; split <;> rfl
  by_cases h : s ≥ 0
  · obtain ⟨n, rfl⟩ := Int.eq_ofNat_of_zero_le h
    have h2 := bl_shl a n
    refine Ev.pos h (Ev.bind (shl_bl a n (by omega) (by omega)) (Ev.bind (cmp_bl _ b (by omega) (by omega)) (Ev.out ?_)))
    rw [hc]
    refine decide_eq_decide.2 ?_
    rw [tw_nat, ← nat_lt]; push_cast; rfl
  · obtain ⟨n, hn⟩ := Int.eq_ofNat_of_zero_le (show 0 ≤ -s by omega)
    have h2 := bl_shl b n
    obtain rfl : s = -(n : Int) := by omega
    refine Ev.neg h ?_
    rw [w64_id (by omega) (by omega), Int.neg_neg]
    refine Ev.bind (shl_bl b n (by omega) (by omega)) (Ev.bind (cmp_bl a _ (by omega) (by omega)) (Ev.out ?_))
    rw [hc]
    refine decide_eq_decide.2 ?_
    have T := tw_pos (n : Int)
    have e1 : tw (-(n : Int)) * tw n = 1 := by rw [← tw_add, Int.add_left_neg, tw_zero]
    have e2 : ((b * 2 ^ n : Nat) : Rat) = (b : Rat) * tw n := by rw [tw_nat]; push_cast; rfl
    rw [← nat_lt, e2]
    constructor
    · intro h3
      refine lt_of_mul (t := tw n) ?_ T
      rw [Rat.mul_assoc, e1, Rat.mul_one]; exact h3
    · intro h3
      have := mul_lt h3 T
      rwa [Rat.mul_assoc, e1, Rat.mul_one] at this
theorem grainS (a b : Nat) (s : Int) (hb : 0 < b) (ha1 : bl a < 1000000) (hb1 : bl b < 1000000) (hs : -1000000 < s ∧ s < 1000000) : ∃ A B : Nat, 0 < B ∧ (∀ x : Rat, x * (b : Rat) = (a : Rat) * tw s → x * (B : Rat) = (A : Rat)) ∧ Ev (fun k => r3_grain.f k (dg a) (dg b) s) (dg (rne A B)) := by
  unfold r3_grain.f
  by_cases h : s ≥ 0
  · obtain ⟨n, rfl⟩ := Int.eq_ofNat_of_zero_le h
    have h2 := bl_shl a n
    refine ⟨a * 2 ^ n, b, hb, fun x hx => ?_, Ev.pos h (Ev.bind (shl_bl a n (by omega) (by omega)) (Ev.bind (quotS _ b hb (by omega) (by omega)) (Ev.out rfl)))⟩
    rw [hx, tw_nat]; push_cast; rfl
  · obtain ⟨n, hn⟩ := Int.eq_ofNat_of_zero_le (show 0 ≤ -s by omega)
    have h2 := bl_shl b n
    obtain rfl : s = -(n : Int) := by omega
    refine ⟨a, b * 2 ^ n, Nat.mul_pos hb (Nat.pow_pos (by decide)), fun x hx => ?_, ?_⟩
    · have e1 : tw (-(n : Int)) * tw n = 1 := by rw [← tw_add, Int.add_left_neg, tw_zero]
      have e2 : ((b * 2 ^ n : Nat) : Rat) = (b : Rat) * tw n := by rw [tw_nat]; push_cast; rfl
      rw [e2, ← Rat.mul_assoc, hx, Rat.mul_assoc, e1, Rat.mul_one]
    · refine Ev.neg h ?_
      rw [w64_id (by omega) (by omega), Int.neg_neg]
      exact Ev.bind (shl_bl b n (by omega) (by omega)) (Ev.bind (quotS a _ (Nat.mul_pos hb (Nat.pow_pos (by decide))) (by omega) (by omega)) (Ev.out rfl))
theorem finS (w : Int) (hw : w = 32 ∨ w = 64) (s : Bool) (q n : Nat) (hn : n < 2 ^ (fmt w).f * 2) (hl : 0 < q → 2 ^ (fmt w).f ≤ n) (hq : q < 1000000) :
    Ev (fun k => r3_Near.j2 k w s (((fmt w).f : Nat) : Int) ((q : Int) + (fmt w).low) (dg n)) ((mkN w (if (fmt w).top < q + 2 then (fmt w).inf else if n < 2 ^ (fmt w).f then n else (q + 1) * 2 ^ (fmt w).f + (n - 2 ^ (fmt w).f)) s : Nat) : Int) := by
  have hb := fmt_bd w
  have hp : 2 ^ (fmt w).f ≤ 4503599627370496 := by
    rw [show (4503599627370496 : Nat) = 2 ^ 52 by decide]; exact Nat.pow_le_pow_right (by decide) (fmt_f w)
  have ht := (fmt w).ht
  refine Ev.step (fun _ => r3_Near.j2.eq_2 ..) (Ev.bs (r3Low w hw) (Ev.bind (r2Topw w hw) ?_))
  rw [w64_id (n := (fmt w).low + ((fmt w).top : Int)) (by omega) (by omega), w64_id (by omega) (by omega)]
  by_cases c1 : (fmt w).top < q + 2
  · rw [if_pos c1]
    exact Ev.pos (by omega) (Ev.bind (r2Infw w hw s) (Ev.out rfl))
  · rw [if_neg c1]
    refine Ev.neg (by omega) (Ev.bs (uint_dg n) (Ev.bind (r2Tfw w hw) ?_))
    rw [Nat.mod_eq_of_lt (by omega)]
    by_cases c2 : n < 2 ^ (fmt w).f
    · rw [if_pos c2]
      have := r2Makew w hw s 0 n (Nat.zero_le _) c2
      rw [Nat.zero_mul, Nat.zero_add] at this
      exact Ev.pos (by exact_mod_cast c2) (Ev.bind this (Ev.out rfl))
    · rw [if_neg c2]
      have := r2Makew w hw s (q + 1) (n - 2 ^ (fmt w).f) (by omega) (by omega)
      refine Ev.neg (by intro k; exact c2 (by exact_mod_cast k)) (Ev.bs (r3Low w hw) (Ev.bind (r2Tfw w hw) ?_))
      rw [show (q : Int) + (fmt w).low - (fmt w).low = q by omega, w64_id (n := (q : Int)) (by omega) (by omega), w64_id (by omega) (by omega), u64_id (by omega) (by omega), show (n : Int) - ((2 ^ (fmt w).f : Nat) : Int) = ((n - 2 ^ (fmt w).f : Nat) : Int) by omega]
      exact Ev.bind this (Ev.out rfl)
theorem nearS (w : Int) (hw : w = 32 ∨ w = 64) (s : Bool) (a b : Nat) (kk : Int) (ha : 0 < a) (hb : 0 < b) (ha1 : bl a < 100000) (hb1 : bl b < 100000) (hk : -10000 < kk ∧ kk < 10000) (x : Rat) (hx : x * (b : Rat) = (a : Rat) * tw kk) :
    Ev (fun k => r3_Near.f k w s (dg a) (dg b) kk) ((mkN w ((fmt w).rnd x) s : Nat) : Int) := by
  have bd := fmt_bd w
  have hff := fmt_f w
  have h3 : ∀ n : Nat, 0 < n → 2 ^ bl n ≤ 2 * n := fun n h => by
    have h1 := two_bl_le h
    have h0 := bl_pos.2 h
    have : 2 ^ bl n = 2 ^ (bl n - 1) * 2 := by rw [← Nat.pow_succ]; congr 1; omega
    omega
  have mx_ : ∀ a b : Int, mx a b = max a b := fun a b => by unfold mx; split <;> omega
  unfold r3_Near.f
  refine Ev.bs (r2Fw w hw) (Ev.bind (len_dg a (by omega)) (Ev.bind (len_dg b (by omega)) (Ev.bs (r3Low w hw) (Ev.bs (r3Low w hw) ?_))))
  rw [w64_id (n := ((bl a : Nat) : Int) - ((bl b : Nat) : Int)) (by omega) (by omega), w64_id (n := ((bl a : Nat) : Int) - ((bl b : Nat) : Int) + kk) (by omega) (by omega), w64_id (by omega) (by omega), mx_]
  obtain ⟨q0, hq0⟩ : ∃ q0, max ((bl a : Int) - bl b + kk - (fmt w).f) (fmt w).low = q0 := ⟨_, rfl⟩
  rw [hq0]
  have hqb : (fmt w).low ≤ q0 ∧ q0 < 200000 := by omega
  have hB' : (0 : Rat) < (b : Rat) := by exact_mod_cast hb
  -- the test
  have hunder : Ev (fun k => r3_under.f k (dg a) (dg b) (kk - q0 - (fmt w).f)) (decide (x < tw (q0 + (fmt w).f))) := by
    have := underS a b (kk - q0 - (fmt w).f) (by omega) (by omega) (by omega)
    have e : decide ((a : Rat) * tw (kk - q0 - (fmt w).f) < (b : Rat)) = decide (x < tw (q0 + (fmt w).f)) := by
      refine decide_eq_decide.2 ?_
      have T := tw_pos (q0 + (fmt w).f)
      have e1 : tw kk = tw (kk - q0 - (fmt w).f) * tw (q0 + (fmt w).f) := by rw [← tw_add]; congr 1; omega
      constructor
      · intro h
        have := mul_lt h T
        rw [Rat.mul_assoc, ← e1, ← hx] at this
        exact lt_of_mul (t := (b : Rat)) (by grind) hB'
      · intro h
        have := mul_lt h hB'
        rw [hx, e1, ← Rat.mul_assoc] at this
        exact lt_of_mul (t := tw (q0 + (fmt w).f)) (by grind) T
    rw [e] at this
    exact this
  obtain ⟨q1, hq1⟩ : ∃ q1, (if (fmt w).low < q0 ∧ x < tw (q0 + (fmt w).f) then q0 - 1 else q0) = q1 := ⟨_, rfl⟩
  obtain ⟨d1, d2, d3⟩ := Fmt.Rnd.doc (fmt w) (h3 a ha) (lt_two_bl a) hb (h3 b hb) (lt_two_bl b) hx hq0.symm hq1.symm
  obtain ⟨q, hq⟩ := Int.eq_ofNat_of_zero_le (show 0 ≤ q1 - (fmt w).low by omega)
  have hqq : q1 = (q : Int) + (fmt w).low := by omega
  have hqn : q < 100000000 := by
    have : q1 ≤ q0 := by rw [← hq1]; split <;> omega
    omega
  obtain ⟨A, B, hBp, hAB, hg⟩ := grainS a b (kk - q1) hb (by omega) (by omega) (by omega)
  have hxe : x * (B : Rat) = (A : Rat) * tw (q + (fmt w).low) := by
    have T := tw_pos (-q1)
    have e1 : tw (-q1) * tw q1 = 1 := by rw [← tw_add, Int.add_left_neg, tw_zero]
    have e2 : tw (kk - q1) = tw kk * tw (-q1) := by rw [← tw_add]; congr 1
    have := hAB (x * tw (-q1)) (by rw [e2, ← Rat.mul_assoc, ← hx]; grind)
    rw [← this, ← hqq]
    grind
  have hx2 : x < tw (q + (fmt w).low + (fmt w).f + 1) := by rw [← hqq]; exact d2
  have hl2 : 0 < q → tw (q + (fmt w).low + (fmt w).f) ≤ x := fun h => by rw [← hqq]; exact d3 (by omega)
  obtain ⟨n1, n2⟩ := (fmt w).make_bd hx2 hl2 (fun h => (fmt w).near_lo hBp hxe h) ((fmt w).near_hi hBp hxe)
  have R := Fmt.Rnd.near (fmt w) hBp hxe hx2 hl2
  rw [(fmt w).rnd_of R, ← (fmt w).fin_eq n1 n2]
  have p2 : 2 ^ ((fmt w).f + 1) = 2 ^ (fmt w).f * 2 := Nat.pow_succ ..
  have pp := (fmt w).pow_pos
  generalize hN : rne A B = n at *
  have ln : bl n ≤ (fmt w).f + 2 := bl_le.2 (by rw [Nat.pow_succ]; omega)
  have hqs : q < 1000000 := by
    have : q1 ≤ q0 := by rw [← hq1]; split <;> omega
    omega
  have tail : Ev (fun k => r3_Near.j1 k w s kk (((fmt w).f : Nat) : Int) q1 (dg a) (dg b)) ((mkN w ((fmt w).fin q n) s : Nat) : Int) := by
    refine Ev.step (fun _ => r3_Near.j1.eq_2 ..) ?_
    rw [w64_id (n := kk - q1) (by omega) (by omega), w64_id (n := (((fmt w).f : Nat) : Int) + 1) (by omega) (by omega)]
    refine Ev.bind hg (Ev.bind (len_dg n (by omega)) ?_)
    by_cases c : n = 2 ^ ((fmt w).f + 1)
    · have hbn : bl n = (fmt w).f + 2 := by rw [c, bl_two]
      have hh := half_dg n 1 (by omega) (by decide)
      have e5 : n / 2 ^ 1 = 2 ^ (fmt w).f := by rw [c, Nat.pow_succ, Nat.pow_one]; omega
      rw [e5] at hh
      refine Ev.pos (by omega) (Ev.bind hh ?_)
      rw [w64_id (by omega) (by omega)]
      have := finS w hw s (q + 1) (2 ^ (fmt w).f) (by omega) (fun _ => Nat.le_refl _) (by omega)
      rw [show (((q + 1 : Nat) : Int) + (fmt w).low) = q1 + 1 by omega] at this
      have e6 : (fmt w).fin q n = (if (fmt w).top < q + 1 + 2 then (fmt w).inf else if 2 ^ (fmt w).f < 2 ^ (fmt w).f then 2 ^ (fmt w).f else (q + 1 + 1) * 2 ^ (fmt w).f + (2 ^ (fmt w).f - 2 ^ (fmt w).f)) := by
        unfold Fmt.fin
        rw [if_pos c, if_neg (Nat.lt_irrefl _), Nat.sub_self]
        rfl
      rw [e6]; exact this
    · have hbn : bl n ≤ (fmt w).f + 1 := bl_le.2 (by omega)
      refine Ev.neg (by omega) ?_
      have := finS w hw s q n (by omega) n2 hqs
      rw [← hqq] at this
      have e6 : (fmt w).fin q n = (if (fmt w).top < q + 2 then (fmt w).inf else if n < 2 ^ (fmt w).f then n else (q + 1) * 2 ^ (fmt w).f + (n - 2 ^ (fmt w).f)) := by
        unfold Fmt.fin
        rw [if_neg c]
      rw [e6]; exact this
  by_cases c : (fmt w).low < q0
  · refine Ev.pos c ?_
    rw [w64_id (n := kk - q0) (by omega) (by omega), w64_id (n := kk - q0 - ((fmt w).f : Int)) (by omega) (by omega)]
    refine Ev.bind hunder (Ev.step (fun _ => r3_Near.j0.eq_2 ..) ?_)
    by_cases c2 : x < tw (q0 + (fmt w).f)
    · rw [decide_eq_true c2]
      rw [if_pos ⟨c, c2⟩] at hq1
      refine Ev.pos rfl ?_
      rw [w64_id (by omega) (by omega), hq1]; exact tail
    · rw [decide_eq_false c2]
      rw [if_neg (fun h => c2 h.2)] at hq1
      refine Ev.neg (by decide) ?_
      rw [hq1]; exact tail
  · rw [if_neg (fun h => c h.1)] at hq1
    refine Ev.neg c (Ev.step (fun _ => r3_Near.j0.eq_2 ..) (Ev.neg (by decide) ?_))
    rw [hq1]; exact tail
theorem zero_mul' (w : Int) (hw : w = 32 ∨ w = 64) (s : Bool) : Ev (fun k => r2_Make.f k w s 0 0) ((mkN w 0 s : Nat) : Int) := by
  have := r2Makew w hw s 0 0 (Nat.zero_le _) ((fmt w).pow_pos)
  rwa [Nat.zero_mul] at this
theorem exactS (w : Int) (hw : w = 32 ∨ w = 64) (s : Bool) (n : Nat) (e : Int) (hn : bl n < 2900) : Ev (fun k => r3_Exact.f k w s (dg n) e) ((mkN w ((fmt w).rnd ((n : Rat) * tw e)) s : Nat) : Int) := by
  have bd := fmt_bd w
  have hff := fmt_f w
  have ht := (fmt w).ht
  unfold r3_Exact.f
  have z := zero_mul' w hw s
  by_cases h0 : n = 0
  · subst h0
    rw [show ((0 : Nat) : Rat) * tw e = 0 by simp, Fmt.rnd_zero]
    exact Ev.pos ((len_zero 0).2 rfl) (Ev.step (fun _ => r3_Exact.j0.eq_2 ..) (Ev.pos rfl (Ev.bind z (Ev.out rfl))))
  · refine Ev.neg (fun k => h0 ((len_zero n).1 k)) (Ev.step (fun _ => r3_Exact.j0.eq_2 ..) ?_)
    have hlt := lt_two_bl n
    by_cases c1 : e < -4000
    · have : (fmt w).rnd ((n : Rat) * tw e) = 0 := by
        refine (fmt w).rnd_of (Fmt.Rnd.tiny _ ?_)
        have h4 := mul_lt (nat_lt.2 hlt) (tw_pos e)
        rw [← tw_nat, ← tw_add] at h4
        have h5 : tw ((bl n : Nat) + e) ≤ tw ((fmt w).low - 1) := tw_le (by
          have : -1100 ≤ (fmt w).low := by unfold fmt; split <;> decide
          omega)
        grind
      rw [this]
      exact Ev.pos (decide_eq_true c1) (Ev.bind z (Ev.out rfl))
    · refine Ev.neg (fun k => c1 (of_decide_eq_true k)) ?_
      by_cases c2 : e > 4000
      · have : (fmt w).rnd ((n : Rat) * tw e) = (fmt w).inf := by
          refine (fmt w).rnd_inf ?_
          rw [(fmt w).val_inf]
          have h2 : ((1 : Nat) : Rat) ≤ (n : Rat) := nat_le.2 (by omega)
          have h3 := mul_le h2 (tw_pos e)
          have h4 : tw ((fmt w).top - 1 + (fmt w).low + (fmt w).f) ≤ tw e := tw_le (by
            have : ((fmt w).top : Int) - 1 + (fmt w).low + (fmt w).f ≤ 1100 := by unfold fmt; split <;> decide
            omega)
          have h5 : ((1 : Nat) : Rat) * tw e = tw e := by simp
          rw [h5] at h3
          exact Rat.le_trans h4 h3
        rw [this]
        exact Ev.pos c2 (Ev.bind (r2Infw w hw s) (Ev.out rfl))
      · refine Ev.neg c2 (Ev.bind (of_dg 1 (by decide)) (Ev.bind (nearS w hw s n 1 e (by omega) (by decide) (by omega) (by decide) (by omega) _ ?_) (Ev.out rfl)))
        simp
end Go.Proofs.Ytgcgheilbngcoaa.Th
end
section
set_option linter.unusedVariables false
set_option linter.unusedSimpArgs false
namespace Go.Proofs.Ytgcgheilbngcoaa.Th
open Go.RowKit Go.Proofs.YtgcgheilbngcoaaW.PrintWords Go.Proofs.YtgcgheilbngcoaaW.PrintLast Go.Proofs.YtgcgheilbngcoaaW.PrintMore Go.Proofs.Ytgcgheilbngcoaa.PA Bit Flo
theorem packE (w : Int) (hw : w = 32 ∨ w = 64) (s : Bool) (h l : Nat) (hh : h < 18446744073709551616) (hl : l < 18446744073709551616) (e : Int) (m : Bool) : round_Pack.f w s h l e m = some ((mkN w (pkm (fmt w) (wn h l) e m) s : Nat) : Int) := by
  unfold round_Pack.f
  rw [if_pos (by omega), if_pos hw, Int.toNat_natCast, Int.toNat_natCast]
theorem packV (w : Int) (hw : w = 32 ∨ w = 64) (s : Bool) (V : Nat) (hV : V < 340282366920938463463374607431768211456) (e : Int) (m : Bool) : round_Pack.f w s ((V / 18446744073709551616 : Nat) : Int) ((V % 18446744073709551616 : Nat) : Int) e m = some ((mkN w (pkm (fmt w) V e m) s : Nat) : Int) := by
  rw [packE w hw s _ _ (hi64 hV) (lo64 V), wn_div]
theorem shN (w : Int) (hw : w = 32 ∨ w = 64) : shape_Nan.f w = some ((nanN w : Nat) : Int) := by rcases hw with rfl | rfl; exact shNan32; exact shNan64
theorem pv0 {p : Pt} (h : p.2.1 ≠ 1) : pv p = 0 := by unfold pv; rw [if_neg h]
theorem pv1 (s : Bool) (e : Int) (g : Nat) : pv (s, 1, e, (g : Int)) = if s then -((g : Rat) * tw e) else (g : Rat) * tw e := by
  unfold pv; rw [if_pos rfl]; simp
theorem pos_tw {g : Nat} (h : 0 < g) (e : Int) : 0 < (g : Rat) * tw e := Rat.mul_pos (by exact_mod_cast h) (tw_pos e)
def PtOk (p : Pt) : Prop := (p.2.1 = 0 ∨ p.2.1 = 1 ∨ p.2.1 = 2 ∨ p.2.1 = 3) ∧ (p.2.1 = 1 → 0 < p.2.2.2) ∧ (p.2.1 ≠ 1 → p.2.2.2 = 0 ∧ p.2.2.1 = 0) ∧ 0 ≤ p.2.2.2 ∧ p.2.2.2 < 9007199254740992 ∧ -1100 ≤ p.2.2.1 ∧ p.2.2.1 ≤ 1000
theorem opn_ok (w : Int) (hw : w = 32 ∨ w = 64) (a : Nat) : PtOk (opn w a) := by
  rcases kinds w hw a with ⟨_, h⟩ | ⟨h1, h2, h⟩ | ⟨_, h⟩ | ⟨_, h⟩ <;> rw [h]
  · exact ⟨.inl rfl, fun h => absurd h (by simp), fun _ => ⟨rfl, rfl⟩, by simp, by simp, by simp, by simp⟩
  · have h3 := ex_bd w hw _ h2
    have h4 := sg_64 w hw (magN w a)
    refine ⟨.inr (.inl rfl), fun _ => ?_, fun h => absurd rfl h, by simp, by simp; omega, by simp; omega, by simp; omega⟩
    have : 0 < (fmt w).val (magN w a) := (fmt w).val_pos.2 h1
    unfold Fmt.val at this
    rcases Nat.eq_zero_or_pos ((fmt w).sg (magN w a)) with h5 | h5
    · rw [h5] at this; simp at this
    · simp; omega
  · exact ⟨.inr (.inr (.inl rfl)), fun h => absurd h (by simp), fun _ => ⟨rfl, rfl⟩, by simp, by simp, by simp, by simp⟩
  · exact ⟨.inr (.inr (.inr rfl)), fun h => absurd h (by simp), fun _ => ⟨rfl, rfl⟩, by simp, by simp, by simp, by simp⟩
end Go.Proofs.Ytgcgheilbngcoaa.Th
end
section
set_option linter.unusedVariables false
set_option linter.unusedSimpArgs false
namespace Go.Proofs.Ytgcgheilbngcoaa.Th
open Go.RowKit Go.Proofs.YtgcgheilbngcoaaW.PrintWords Go.Proofs.YtgcgheilbngcoaaW.PrintLast Go.Proofs.YtgcgheilbngcoaaW.PrintMore Go.Proofs.Ytgcgheilbngcoaa.PA Bit Dig Flo
theorem mul_pv (s t : Bool) (e e2 : Int) (g g2 : Nat) : pv (s, 1, e, (g : Int)) * pv (t, 1, e2, (g2 : Int)) = if (s != t) then -(((g * g2 : Nat) : Rat) * tw (e + e2)) else ((g * g2 : Nat) : Rat) * tw (e + e2) := by
  rw [pv1, pv1, tw_add]
  push_cast
  generalize tw e = x
  generalize tw e2 = y
  cases s <;> cases t <;> simp <;> grind
theorem mul_fx (w : Int) (s t : Bool) (e e2 : Int) {g g2 : Nat} (h : 0 < g) (h2 : 0 < g2) (z : Bool) : fx w (pv (s, 1, e, (g : Int)) * pv (t, 1, e2, (g2 : Int))) z = mkN w ((fmt w).rnd (((g * g2 : Nat) : Rat) * tw (e + e2))) (s != t) := by
  rw [mul_pv]
  exact fx_sg w (pos_tw (Nat.mul_pos h h2) _) _ z
set_option maxRecDepth 20000 in
theorem mulProg (w : Int) (hw : w = 32 ∨ w = 64) (p q : Pt) (hp : PtOk p) (hq : PtOk q) : Ev (fun k => product_parts.f k w p.1 p.2.1 p.2.2.1 p.2.2.2 q.1 q.2.1 q.2.2.1 q.2.2.2) ((mulP w p q : Nat) : Int) := by
  obtain ⟨s, kd, e, g⟩ := p
  obtain ⟨t, kd2, e2, g2⟩ := q
  obtain ⟨h1, h2, h0, h3, h4, h5, h6⟩ := hp
  obtain ⟨k1, k2, k0, k3, k4, k5, k6⟩ := hq
  simp only at h1 h2 h0 h3 h4 h5 h6 k1 k2 k0 k3 k4 k5 k6
  obtain ⟨g, rfl⟩ := Int.eq_ofNat_of_zero_le h3
  obtain ⟨g2, rfl⟩ := Int.eq_ofNat_of_zero_le k3
  simp only
  generalize hR : mulP w (s, kd, e, (g : Int)) (t, kd2, e2, (g2 : Int)) = R
  unfold product_parts.f
  have fin : 0 < g → 0 < g2 → Ev (fun k => (wide_Mul.f (g : Int) (g2 : Int)).bind fun bt => (round_Pack.f w (s != t) bt.1 bt.2 (wrap64 (e + e2)) false).bind fun t => some t) ((mkN w ((fmt w).rnd (((g * g2 : Nat) : Rat) * tw (e + e2))) (s != t) : Nat) : Int) := by
    intro _ _
    have hlt : g * g2 < 340282366920938463463374607431768211456 := by
      have := Nat.mul_lt_mul'' (show g < 9007199254740992 by omega) (show g2 < 9007199254740992 by omega)
      omega
    refine Ev.bs (mulW g g2 (by omega) (by omega)) ?_
    rw [w64_id (n := e + e2) (by omega) (by omega)]
    refine Ev.bs (packV w hw (s != t) (g * g2) hlt (e + e2) false) (Ev.out ?_)
    rw [pk_ex w _ _ hlt]
  rcases h1 with rfl | rfl | rfl | rfl <;> rcases k1 with rfl | rfl | rfl | rfl
  all_goals
    simp [mulP, pv0, fx_zero] at hR
    subst hR
    repeat (first
      | (with_reducible refine Ev.pos (by decide) ?_)
      | (with_reducible refine Ev.neg (by decide) ?_)
      | (with_reducible refine Ev.step (fun _ => product_parts.j0.eq_2 ..) ?_)
      | (with_reducible refine Ev.step (fun _ => product_parts.j1.eq_2 ..) ?_)
      | (with_reducible refine Ev.step (fun _ => product_parts.j2.eq_2 ..) ?_))
  all_goals first
    | (rw [mul_fx w s t e e2 (by have := h2 rfl; omega) (by have := k2 rfl; omega)]
       exact fin (by have := h2 rfl; omega) (by have := k2 rfl; omega))
    | (exact Ev.bs (shN w hw) (Ev.out rfl))
    | (exact Ev.bs (shI w hw _) (Ev.out rfl))
    | (exact Ev.bs (shZ w hw _) (Ev.out rfl))
theorem prodE (w : Int) (hw : w = 32 ∨ w = 64) (a b : Nat) (ha : a < 18446744073709551616) (hb : b < 18446744073709551616) : Ev (fun k => product_Mul.f k w a b) ((mulP w (opn w a) (opn w b) : Nat) : Int) := by
  unfold product_Mul.f
  refine Ev.bs (show product_known.f w = some true by rcases hw with rfl | rfl <;> rfl) (Ev.pos rfl (Ev.bind (openS w hw a ha) (Ev.bind (openS w hw b hb) ?_)))
  exact Ev.bind (mulProg w hw _ _ (opn_ok w hw a) (opn_ok w hw b)) (Ev.out rfl)
theorem prod_no {w : Int} (hw : ¬ (w = 32 ∨ w = 64)) (a b : Int) : Ev (fun k => product_Mul.f k w a b) 0 := by
  unfold product_Mul.f
  refine Ev.bs (show product_known.f w = some false by unfold product_known.f; rw [if_neg (by omega)]; congr 1; rw [beq_eq_false_iff_ne]; omega) (Ev.neg (by decide) (Ev.out rfl))
theorem bl53 {g : Nat} (h : g < 9007199254740992) : bl g ≤ 53 := bl_le.2 h
set_option maxRecDepth 20000 in
theorem mulRef (w : Int) (hw : w = 32 ∨ w = 64) (a b : Nat) (ha : a < 18446744073709551616) (hb : b < 18446744073709551616) : Ev (fun k => r5_Mul.f k w a b) ((mulP w (opn w a) (opn w b) : Nat) : Int) := by
  unfold r5_Mul.f
  refine Ev.bind (r2Open w hw a ha) (Ev.bind (r2Open w hw b hb) ?_)
  have hp := opn_ok w hw a
  have hq := opn_ok w hw b
  generalize opn w a = p at *
  generalize opn w b = q at *
  obtain ⟨s, kd, e, g⟩ := p
  obtain ⟨t, kd2, e2, g2⟩ := q
  obtain ⟨h1, h2, h0, h3, h4, h5, h6⟩ := hp
  obtain ⟨k1, k2, k0, k3, k4, k5, k6⟩ := hq
  simp only at h1 h2 h0 h3 h4 h5 h6 k1 k2 k0 k3 k4 k5 k6
  obtain ⟨g, rfl⟩ := Int.eq_ofNat_of_zero_le h3
  obtain ⟨g2, rfl⟩ := Int.eq_ofNat_of_zero_le k3
  simp only
  generalize hR : mulP w (s, kd, e, (g : Int)) (t, kd2, e2, (g2 : Int)) = R
  have tail : Ev (fun k => (r1_Of.f k (g : Int)).bind fun t701 => ((r1_Of.f k (g2 : Int)).bind fun t704 => ((r1_Mul.f k t701 t704).bind fun t707 => ((r3_Exact.f k w (s != t) t707 (wrap64 (e + e2))).bind fun t710 => (some t710))))) ((mkN w ((fmt w).rnd (((g * g2 : Nat) : Rat) * tw (e + e2))) (s != t) : Nat) : Int) := by
    have b1 := bl53 (show g < 9007199254740992 by omega)
    have b2 := bl53 (show g2 < 9007199254740992 by omega)
    have b3 := bl_mul g g2
    rw [w64_id (n := e + e2) (by omega) (by omega)]
    exact Ev.bind (of_dg g (by omega)) (Ev.bind (of_dg g2 (by omega)) (Ev.bind (mul_bl g g2 (by omega) (by omega)) (Ev.bind (exactS w hw (s != t) (g * g2) (e + e2) (by omega)) (Ev.out rfl))))
  have z : g = 0 ∨ g2 = 0 → ((mkN w ((fmt w).rnd (((g * g2 : Nat) : Rat) * tw (e + e2))) (s != t) : Nat) : Int) = ((mkN w 0 (s != t) : Nat) : Int) := by
    intro h
    have : g * g2 = 0 := by rcases h with h | h <;> rw [h] <;> simp
    rw [this, show ((0 : Nat) : Rat) * tw (e + e2) = 0 by simp, Fmt.rnd_zero]
  rcases h1 with rfl | rfl | rfl | rfl <;> rcases k1 with rfl | rfl | rfl | rfl
  all_goals
    simp [mulP, pv0, fx_zero] at hR
    subst hR
    repeat (first
      | (with_reducible refine Ev.pos (by decide) ?_)
      | (with_reducible refine Ev.neg (by decide) ?_)
      | (with_reducible refine Ev.step (fun _ => r5_Mul.j0.eq_2 ..) ?_)
      | (with_reducible refine Ev.step (fun _ => r5_Mul.j1.eq_2 ..) ?_)
      | (exact Ev.bind (r2Nanw w hw) (Ev.out rfl))
      | (exact Ev.bind (r2Infw w hw _) (Ev.out rfl)))
  · have := (h0 (by decide)).1
    rw [← z (.inl (by omega))]
    exact tail
  · have := (h0 (by decide)).1
    rw [← z (.inl (by omega))]
    exact tail
  · have := (k0 (by decide)).1
    rw [← z (.inr (by omega))]
    exact tail
  · rw [mul_fx w s t e e2 (by have := h2 rfl; omega) (by have := k2 rfl; omega)]
    exact tail
theorem awake05 : Ev (fun k => L05_awake.f k) true := Ev.of (fun k => L05_awake.mono k) (k := 12) (by decide +kernel)
theorem ProductMulsP : L05_ProductMuls.Pure := by
  intro w a b hw0 ha0 hb0
  obtain ⟨ha1, ha2⟩ := wf_u64 ha0
  obtain ⟨a, rfl⟩ := Int.eq_ofNat_of_zero_le ha1
  have ha : a < 18446744073709551616 := by omega
  obtain ⟨hb1, hb2⟩ := wf_u64 hb0
  obtain ⟨b, rfl⟩ := Int.eq_ofNat_of_zero_le hb1
  have hb : b < 18446744073709551616 := by omega
  refine Ev.rounds ?_
  unfold L05_ProductMuls.f
  refine Ev.bind awake05 (Ev.pos rfl ?_)
  by_cases hw : w = 32 ∨ w = 64
  · refine Ev.bind (prodE w hw a b ha hb) (Ev.bs (known_f w) ?_)
    rw [decide_eq_true hw]
    exact Ev.pos rfl (Ev.bind (mulRef w hw a b ha hb) (Ev.out (by simp)))
  · refine Ev.bind (prod_no hw a b) (Ev.bs (known_f w) ?_)
    rw [decide_eq_false hw]
    exact Ev.neg (by decide) (Ev.out rfl)
end Go.Proofs.Ytgcgheilbngcoaa.Th
end
namespace Go.Proofs.Ytgcgheilbngcoaa.Pure
theorem ProductMuls : Go.Proofs.Ytgcgheilbngcoaa.PA.L05_ProductMuls.Pure := Go.Proofs.Ytgcgheilbngcoaa.Th.ProductMulsP
end Go.Proofs.Ytgcgheilbngcoaa.Pure
namespace Go.Proofs.Ytgcgheilbngcoaa.Facts
abbrev ch (n : Nat) : Char := Char.ofNat n
theorem words_word (w : List Char) (r : List Char) (h : w.all (fun c => c != ch 32) = true) : wordsSigns (w ++ ch 32 :: r) = w :: wordsSigns r := by
  induction w with
  | nil => rfl
  | cons c w ih =>
    rw [List.all_cons, Bool.and_eq_true] at h
    have hc : c ≠ ch 32 := bne_iff_ne.1 h.1
    rw [List.cons_append]
    rw [wordsSigns.eq_3 c _ (fun e => hc e), ih h.2]
def w1 : List Char := [ch 104, ch 97, ch 114, ch 110, ch 101, ch 115, ch 115]
def w2 : List Char := [ch 99, ch 52, ch 101, ch 97, ch 51, ch 48, ch 102, ch 56, ch 56, ch 48, ch 57, ch 101, ch 101, ch 98, ch 52, ch 101, ch 99, ch 54, ch 56, ch 57, ch 54, ch 49, ch 101, ch 50, ch 51, ch 53, ch 56, ch 100, ch 101, ch 53, ch 100, ch 56, ch 56, ch 53, ch 102, ch 54, ch 48, ch 50, ch 97, ch 50, ch 101, ch 99, ch 52, ch 98, ch 57, ch 52, ch 98, ch 100, ch 49, ch 54, ch 100, ch 57, ch 97, ch 54, ch 102, ch 57, ch 48, ch 52, ch 98, ch 52, ch 102, ch 56, ch 52, ch 55]
def w3 : List Char := [ch 99, ch 117, ch 116]
set_option maxRecDepth 100000 in
def tailSigns : List Char := [ch 97, ch 116, ch 32, ch 116, ch 114, ch 117, ch 110, ch 110, ch 105, ch 111, ch 110, ch 47, ch 116, ch 114, ch 117, ch 110, ch 110, ch 105, ch 111, ch 110, ch 108, ch 97, ch 119, ch 49, ch 50, ch 46, ch 67, ch 104, ch 111, ch 112, ch 84, ch 114, ch 97, ch 112, ch 115, ch 32, ch 116, ch 114, ch 117, ch 110, ch 110, ch 105, ch 111, ch 110, ch 47, ch 116, ch 114, ch 117, ch 110, ch 110, ch 105, ch 111, ch 110, ch 108, ch 97, ch 119, ch 49, ch 50, ch 46, ch 67, ch 104, ch 111, ch 112, ch 79, ch 114, ch 100, ch 101, ch 114, ch 32, ch 116, ch 114, ch 117, ch 110, ch 110, ch 105, ch 111, ch 110, ch 47, ch 116, ch 114, ch 117, ch 110, ch 110, ch 105, ch 111, ch 110, ch 108, ch 97, ch 119, ch 48, ch 51, ch 46, ch 82, ch 111, ch 117, ch 110, ch 100, ch 80, ch 97, ch 99, ch 107, ch 115, ch 32, ch 116, ch 114, ch 117, ch 110, ch 110, ch 105, ch 111, ch 110, ch 47, ch 116, ch 114, ch 117, ch 110, ch 110, ch 105, ch 111, ch 110, ch 108, ch 97, ch 119, ch 48, ch 51, ch 46, ch 82, ch 111, ch 117, ch 110, ch 100, ch 82, ch 105, ch 115, ch 101, ch 115, ch 32, ch 116, ch 114, ch 117, ch 110, ch 110, ch 105, ch 111, ch 110, ch 47, ch 116, ch 114, ch 117, ch 110, ch 110, ch 105, ch 111, ch 110, ch 108, ch 97, ch 119, ch 48, ch 51, ch 46, ch 82, ch 111, ch 117, ch 110, ch 100, ch 87, ch 104, ch 111, ch 108, ch 101, ch 115, ch 32, ch 116, ch 114, ch 117, ch 110, ch 110, ch 105, ch 111, ch 110, ch 47, ch 116, ch 114, ch 117, ch 110, ch 110, ch 105, ch 111, ch 110, ch 108, ch 97, ch 119, ch 48, ch 51, ch 46, ch 82, ch 111, ch 117, ch 110, ch 100, ch 75, ch 101, ch 101, ch 112, ch 115, ch 32, ch 116, ch 114, ch 117, ch 110, ch 110, ch 105, ch 111, ch 110, ch 47, ch 116, ch 114, ch 117, ch 110, ch 110, ch 105, ch 111, ch 110, ch 108, ch 97, ch 119, ch 48, ch 53, ch 46, ch 80, ch 114, ch 111, ch 100, ch 117, ch 99, ch 116, ch 77, ch 117, ch 108, ch 115, ch 32, ch 116, ch 114, ch 117, ch 110, ch 110, ch 105, ch 111, ch 110, ch 47, ch 116, ch 114, ch 117, ch 110, ch 110, ch 105, ch 111, ch 110, ch 108, ch 97, ch 119, ch 49, ch 49, ch 46, ch 67, ch 97, ch 115, ch 116, ch 79, ch 114, ch 100, ch 101, ch 114, ch 32, ch 116, ch 114, ch 117, ch 110, ch 110, ch 105, ch 111, ch 110, ch 47, ch 116, ch 114, ch 117, ch 110, ch 110, ch 105, ch 111, ch 110, ch 108, ch 97, ch 119, ch 49, ch 49, ch 46, ch 67, ch 97, ch 115, ch 116, ch 84, ch 117, ch 114, ch 110, ch 115, ch 32, ch 116, ch 114, ch 117, ch 110, ch 110, ch 105, ch 111, ch 110, ch 47, ch 116, ch 114, ch 117, ch 110, ch 110, ch 105, ch 111, ch 110, ch 108, ch 97, ch 119, ch 48, ch 57, ch 46, ch 87, ch 104, ch 111, ch 108, ch 101, ch 77, ch 97, ch 107, ch 101, ch 115, ch 32, ch 116, ch 114, ch 117, ch 110, ch 110, ch 105, ch 111, ch 110, ch 47, ch 116, ch 114, ch 117, ch 110, ch 110, ch 105, ch 111, ch 110, ch 108, ch 97, ch 119, ch 48, ch 53, ch 46, ch 80, ch 114, ch 111, ch 100, ch 117, ch 99, ch 116, ch 83, ch 99, ch 97, ch 108, ch 101, ch 115, ch 32, ch 116, ch 114, ch 117, ch 110, ch 110, ch 105, ch 111, ch 110, ch 47, ch 116, ch 114, ch 117, ch 110, ch 110, ch 105, ch 111, ch 110, ch 108, ch 97, ch 119, ch 48, ch 55, ch 46, ch 82, ch 97, ch 100, ch 105, ch 120, ch 82, ch 111, ch 111, ch 116, ch 115, ch 32, ch 116, ch 114, ch 117, ch 110, ch 110, ch 105, ch 111, ch 110, ch 47, ch 116, ch 114, ch 117, ch 110, ch 110, ch 105, ch 111, ch 110, ch 108, ch 97, ch 119, ch 48, ch 57, ch 46, ch 87, ch 104, ch 111, ch 108, ch 101, ch 75, ch 101, ch 101, ch 112, ch 115, ch 32, ch 116, ch 114, ch 117, ch 110, ch 110, ch 105, ch 111, ch 110, ch 47, ch 116, ch 114, ch 117, ch 110, ch 110, ch 105, ch 111, ch 110, ch 108, ch 97, ch 119, ch 48, ch 53, ch 46, ch 80, ch 114, ch 111, ch 100, ch 117, ch 99, ch 116, ch 75, ch 101, ch 101, ch 112, ch 115, ch 32, ch 116, ch 114, ch 117, ch 110, ch 110, ch 105, ch 111, ch 110, ch 47, ch 116, ch 114, ch 117, ch 110, ch 110, ch 105, ch 111, ch 110, ch 108, ch 97, ch 119, ch 48, ch 55, ch 46, ch 82, ch 97, ch 100, ch 105, ch 120, ch 75, ch 101, ch 101, ch 112, ch 115, ch 32, ch 116, ch 114, ch 117, ch 110, ch 110, ch 105, ch 111, ch 110, ch 47, ch 116, ch 114, ch 117, ch 110, ch 110, ch 105, ch 111, ch 110, ch 108, ch 97, ch 119, ch 48, ch 54, ch 46, ch 81, ch 117, ch 111, ch 116, ch 105, ch 101, ch 110, ch 116, ch 68, ch 105, ch 118, ch 115, ch 32, ch 116, ch 114, ch 117, ch 110, ch 110, ch 105, ch 111, ch 110, ch 47, ch 116, ch 114, ch 117, ch 110, ch 110, ch 105, ch 111, ch 110, ch 108, ch 97, ch 119, ch 48, ch 55, ch 46, ch 82, ch 97, ch 100, ch 105, ch 120, ch 83, ch 99, ch 97, ch 108, ch 101, ch 32, ch 116, ch 114, ch 117, ch 110, ch 110, ch 105, ch 111, ch 110, ch 47, ch 116, ch 114, ch 117, ch 110, ch 110, ch 105, ch 111, ch 110, ch 108, ch 97, ch 119, ch 48, ch 54, ch 46, ch 81, ch 117, ch 111, ch 116, ch 105, ch 101, ch 110, ch 116, ch 75, ch 101, ch 101, ch 112, ch 115, ch 32, ch 116, ch 114, ch 117, ch 110, ch 110, ch 105, ch 111, ch 110, ch 47, ch 116, ch 114, ch 117, ch 110, ch 110, ch 105, ch 111, ch 110, ch 108, ch 97, ch 119, ch 48, ch 52, ch 46, ch 83, ch 117, ch 109, ch 65, ch 100, ch 100, ch 115, ch 32, ch 116, ch 114, ch 117, ch 110, ch 110, ch 105, ch 111, ch 110, ch 47, ch 116, ch 114, ch 117, ch 110, ch 110, ch 105, ch 111, ch 110, ch 108, ch 97, ch 119, ch 48, ch 52, ch 46, ch 83, ch 117, ch 109, ch 79, ch 114, ch 100, ch 101, ch 114, ch 32, ch 116, ch 114, ch 117, ch 110, ch 110, ch 105, ch 111, ch 110, ch 47, ch 116, ch 114, ch 117, ch 110, ch 110, ch 105, ch 111, ch 110, ch 108, ch 97, ch 119, ch 48, ch 52, ch 46, ch 83, ch 117, ch 109, ch 67, ch 108, ch 111, ch 115, ch 101, ch 32, ch 116, ch 114, ch 117, ch 110, ch 110, ch 105, ch 111, ch 110, ch 47, ch 116, ch 114, ch 117, ch 110, ch 110, ch 105, ch 111, ch 110, ch 108, ch 97, ch 119, ch 48, ch 52, ch 46, ch 83, ch 117, ch 109, ch 84, ch 111, ch 116, ch 97, ch 108, ch 115, ch 32, ch 116, ch 114, ch 117, ch 110, ch 110, ch 105, ch 111, ch 110, ch 47, ch 116, ch 114, ch 117, ch 110, ch 110, ch 105, ch 111, ch 110, ch 108, ch 97, ch 119, ch 48, ch 54, ch 46, ch 81, ch 117, ch 111, ch 116, ch 105, ch 101, ch 110, ch 116, ch 83, ch 99, ch 97, ch 108, ch 101, ch 32, ch 116, ch 114, ch 117, ch 110, ch 110, ch 105, ch 111, ch 110, ch 47, ch 116, ch 114, ch 117, ch 110, ch 110, ch 105, ch 111, ch 110, ch 108, ch 97, ch 119, ch 48, ch 52, ch 46, ch 83, ch 117, ch 109, ch 75, ch 101, ch 101, ch 112, ch 115, ch 32, ch 116, ch 114, ch 117, ch 110, ch 110, ch 105, ch 111, ch 110, ch 47, ch 116, ch 114, ch 117, ch 110, ch 110, ch 105, ch 111, ch 110, ch 108, ch 97, ch 119, ch 48, ch 57, ch 46, ch 87, ch 104, ch 111, ch 108, ch 101, ch 72, ch 97, ch 108, ch 102, ch 32, ch 116, ch 114, ch 117, ch 110, ch 110, ch 105, ch 111, ch 110, ch 47, ch 116, ch 114, ch 117, ch 110, ch 110, ch 105, ch 111, ch 110, ch 108, ch 97, ch 119, ch 48, ch 53, ch 46, ch 80, ch 114, ch 111, ch 100, ch 117, ch 99, ch 116, ch 84, ch 119, ch 105, ch 99, ch 101]
set_option maxRecDepth 100000 in
theorem head_list : Try.prog.initOrder.toList = w1 ++ ch 32 :: (w2 ++ ch 32 :: (w3 ++ ch 32 :: tailSigns)) :=
  (congrArg String.toList (show Try.prog.initOrder = String.ofList (w1 ++ ch 32 :: (w2 ++ ch 32 :: (w3 ++ ch 32 :: tailSigns))) from rfl)).trans String.toList_ofList
theorem words : ∃ rest, behindMainWord (wordsSigns Try.prog.initOrder.toList) = w3 :: rest := by
  refine ⟨wordsSigns tailSigns, ?_⟩
  rw [head_list, words_word w1 _ (by kernel_rfl), words_word w2 _ (by kernel_rfl), words_word w3 _ (by kernel_rfl)]
  generalize wordsSigns tailSigns = rest
  have e : ((w1 == "harness".toList || w1 == "ownmain".toList) && isSumSigns w2) = true := by kernel_rfl
  show (if ((w1 == "harness".toList || w1 == "ownmain".toList) && isSumSigns w2) = true then w3 :: rest else w1 :: w2 :: w3 :: rest) = w3 :: rest
  rw [if_pos e]
theorem c3 : (w3 == "gc".toList) = false ∧ (w3 == "spec".toList) = false ∧ (w3 == "cut".toList) = true ∧ (w3 == "carried".toList) = false ∧ (w3 == "finals".toList) = false := ⟨by kernel_rfl, by kernel_rfl, by kernel_rfl, by kernel_rfl, by kernel_rfl⟩
theorem strip (rest : List (List Char)) : stripLifts liftWords (w3 :: rest) = ([], w3 :: rest) := by
  have key : ∀ l : List String, l.all (fun o => !(w3 == o.toList)) = true → stripLifts l (w3 :: rest) = ([], w3 :: rest) := by
    intro l
    induction l with
    | nil => intro _; rfl
    | cons o l ih =>
      intro h
      rw [List.all_cons, Bool.and_eq_true] at h
      unfold stripLifts
      rw [if_neg (fun e => by have h1 := h.1; rw [e] at h1; cases h1)]
      exact ih h.2
  exact key liftWords (by kernel_rfl)
theorem make_of (P : Program) (h : ∃ rest, behindMainWord (wordsSigns P.initOrder.toList) = w3 :: rest) : P.make = some .cut := by
  obtain ⟨rest, h⟩ := h
  unfold Program.make
  rw [h]
  show (if (w3 == "gc".toList || w3 == "spec".toList) = true then some Make.whole else if (w3 == "cut".toList || (w3 == "finals".toList && rest.head? == some "cut".toList)) = true then some Make.cut else _) = some Make.cut
  rw [if_neg (by rw [c3.1, c3.2.1]; decide), if_pos (by rw [c3.2.2.1, Bool.true_or])]
set_option maxRecDepth 100000 in
theorem liftsFact : Try.prog.liftsFinal = false := by
  unfold Program.liftsFinal Program.headLifts
  rw [head_list]
  kernel_rfl
theorem doorFact : (!Try.prog.laysLater && !Try.prog.bearsReflect && Try.prog.doorFits []) = true := by kernel_rfl
theorem makeFact : Try.prog.make = some .cut := make_of _ words
theorem enter_of (P : Program) (h : ∃ rest, behindMainWord (wordsSigns P.initOrder.toList) = w3 :: rest) (d : (!P.laysLater && !P.bearsReflect && P.doorFits []) = true) : P.mayEnter = true := by
  obtain ⟨rest, h⟩ := h
  rw [Bool.and_eq_true, Bool.and_eq_true] at d
  have e : ((some w3 == some "cut".toList) : Bool) = true := by kernel_rfl
  unfold Program.mayEnter
  rw [h]
  show ((_ || _) || ((stripLifts liftWords (w3 :: rest)).2.head? == some "cut".toList && ((stripLifts liftWords (w3 :: rest)).1.contains "finals" || !P.laysLater) && ((stripLifts liftWords (w3 :: rest)).1.contains "reflectrows" || !P.bearsReflect) &&
      ((stripLifts liftWords (w3 :: rest)).1.contains "reflectrows" || !(stripLifts liftWords (w3 :: rest)).1.contains "leanrows") && P.doorFits (stripLifts liftWords (w3 :: rest)).1)) = true
  rw [strip, Bool.or_eq_true]
  refine .inr ?_
  rw [Bool.and_eq_true, Bool.and_eq_true, Bool.and_eq_true, Bool.and_eq_true, Bool.or_eq_true, Bool.or_eq_true]
  exact ⟨⟨⟨⟨e, .inr d.1.1⟩, .inr d.1.2⟩, rfl⟩, d.2⟩
theorem enterFact : Try.prog.mayEnter = true := enter_of _ words doorFact
end Go.Proofs.Ytgcgheilbngcoaa.Facts
