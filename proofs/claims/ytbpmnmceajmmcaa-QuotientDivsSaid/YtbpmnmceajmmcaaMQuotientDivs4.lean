/- What the Go functions that the statement QuotientDivs reaches compute, and the mathematics on it, in the order in which one leans on the other; for every input. -/
import Derived.Test.YtbpmnmceajmmcaaVQuotientDivs0
import Derived.Test.YtbpmnmceajmmcaaMQuotientDivs0
import Derived.Test.YtbpmnmceajmmcaaMQuotientDivs3
namespace Go.Proofs.Ytbpmnmceajmmcaa.PA
open Go.RowKit Go.Proofs.YtbpmnmceajmmcaaW.PrintWords Go.Proofs.YtbpmnmceajmmcaaW.PrintLast Go.Proofs.YtbpmnmceajmmcaaW.PrintMore
attribute [local go_sem] max2_int min2_int max_two min_two max_three min_three max_four min_four   -- for this text's walks alone
set_option linter.unusedVariables false
set_option linter.unusedSimpArgs false
set_option maxHeartbeats 8000000
set_option maxRecDepth 100000
def r1_Uint.f (l0_0 : List Int) : Option (Int) := (r1_at.f l0_0 1).bind fun t411 => ((r1_at.f l0_0 0).bind fun t412 => (some (IntKind.u64.wrap ((IntKind.u64.wrap (t411 * 4294967296)) + t412))))
theorem r1_Uint.calls (A0_0 : Option Addr) (c0_0 : Nat) (l0_0 : List Int) (r : Int) (w : World) (hr0_0 : Kd.C (Kd.int .u64) w A0_0 l0_0.length l0_0) (hc0_0 : l0_0.length ≤ c0_0) (h : r1_Uint.f l0_0 = some r) :
  Calls Try.prog 101 #[.agg #[.slice A0_0 l0_0.length c0_0]] w fun e w' => e = .returned (.int .u64 r) ∧ Below w.heap.size w w' := by
 have hu63 := Try.underlying63
 have HR0_0 := A_ hr0_0;have HC0_0 := A_ hc0_0;clear hr0_0 hc0_0
 have HB := A_ (Below.refl w.heap.size w)
 have H : ((r1_at.f l0_0 1).bind fun t411 => ((r1_at.f l0_0 0).bind fun t412 => (some (IntKind.u64.wrap ((IntKind.u64.wrap (t411 * 4294967296)) + t412))))) = some r := h
 clear h
 replace H := ob_ H
 obtain ⟨t411, A20, H⟩ := H
 replace H : ((r1_at.f l0_0 0).bind fun t412 => (some (IntKind.u64.wrap ((IntKind.u64.wrap (t411 * 4294967296)) + t412)))) = some r := H
 have A2 := A_ A20;clear A20
 replace H := ob_ H
 obtain ⟨t412, A30, H⟩ := H
 replace H : (some (IntKind.u64.wrap ((IntKind.u64.wrap (t411 * 4294967296)) + t412))) = some r := H
 have A3 := A_ A30;clear A30
 obtain rfl := Option.some.inj H
 go_enter Try.func101, Try.ntmps101
 go_wp2_with (first | ((with_reducible refine gate_dst (N := 1) rfl ?_); refine be_ 1 #[.slice A0_0 l0_0.length c0_0] 63 ?_; intro gb410 hg w4 hbox hb; have n0_ := A_ (below_step (hb_ HB.out) hb); have n1_ := A_ (hbox); have n2_ := A_ (sz_ hg (hb_ HB.out)); have n3_ := A_ (sz_ hg (hb_ HB.out)); clear HB; have HB := n0_; have BK410 := n1_; have GW410 := n2_; have GE410 := n3_; clear n0_ n1_ n2_ n3_; clear hb hbox hg; have hcz5_0 : w4.cell? ⟨gb410, 0, none⟩ = some (.slice A0_0 l0_0.length c0_0) := bc_ BK410.out 0; have hfz5_0 := blk_frozen BK410.out 0) | (go_at_call 93; (with_reducible refine (r1_at.calls _ _ l0_0 1 t411 _ ?side1 ?side2 A2.out).mono ?_); (case side1 => repeat (first | exact (Kd.C_below HR0_0.out HB.out) | (with_reducible refine Kd.C_alloc ?_ _) | (with_reducible refine Kd.C_drewN ?_ _) | (with_reducible refine Kd.C_drew ?_))); (case side2 => exact HC0_0.out); rintro e w' ⟨rfl, ⟨nd, rfl⟩⟩; (try first | exact ⟨rfl, _, World.drewN_drewN _ _ _⟩ | exact ⟨rfl, _, Eq.trans (World.drewN_drewN _ _ _) (congrArg (World.drewN _) (Nat.add_assoc _ _ _))⟩)) | (go_at_call 93; (with_reducible refine (r1_at.calls _ _ l0_0 0 t412 _ ?side1 ?side2 A3.out).mono ?_); (case side1 => repeat (first | exact (Kd.C_below HR0_0.out (hb1_ HB.out GE410.out)) | (with_reducible refine Kd.C_alloc ?_ _) | (with_reducible refine Kd.C_drewN ?_ _) | (with_reducible refine Kd.C_drew ?_))); (case side2 => exact HC0_0.out); rintro e w' ⟨rfl, ⟨nd, rfl⟩⟩; (try first | exact ⟨rfl, _, World.drewN_drewN _ _ _⟩ | exact ⟨rfl, _, Eq.trans (World.drewN_drewN _ _ _) (congrArg (World.drewN _) (Nat.add_assoc _ _ _))⟩)))
 repeat (go_quiet (first | ((with_reducible refine gate_dst (N := 1) rfl ?_); refine be_ 1 #[.slice A0_0 l0_0.length c0_0] 63 ?_; intro gb410 hg w4 hbox hb; have n0_ := A_ (below_step (hb_ HB.out) hb); have n1_ := A_ (hbox); have n2_ := A_ (sz_ hg (hb_ HB.out)); have n3_ := A_ (sz_ hg (hb_ HB.out)); clear HB; have HB := n0_; have BK410 := n1_; have GW410 := n2_; have GE410 := n3_; clear n0_ n1_ n2_ n3_; clear hb hbox hg; have hcz5_0 : w4.cell? ⟨gb410, 0, none⟩ = some (.slice A0_0 l0_0.length c0_0) := bc_ BK410.out 0; have hfz5_0 := blk_frozen BK410.out 0) | (go_at_call 93; (with_reducible refine (r1_at.calls _ _ l0_0 1 t411 _ ?side1 ?side2 A2.out).mono ?_); (case side1 => repeat (first | exact (Kd.C_below HR0_0.out HB.out) | (with_reducible refine Kd.C_alloc ?_ _) | (with_reducible refine Kd.C_drewN ?_ _) | (with_reducible refine Kd.C_drew ?_))); (case side2 => exact HC0_0.out); rintro e w' ⟨rfl, ⟨nd, rfl⟩⟩; (try first | exact ⟨rfl, _, World.drewN_drewN _ _ _⟩ | exact ⟨rfl, _, Eq.trans (World.drewN_drewN _ _ _) (congrArg (World.drewN _) (Nat.add_assoc _ _ _))⟩)) | (go_at_call 93; (with_reducible refine (r1_at.calls _ _ l0_0 0 t412 _ ?side1 ?side2 A3.out).mono ?_); (case side1 => repeat (first | exact (Kd.C_below HR0_0.out (hb1_ HB.out GE410.out)) | (with_reducible refine Kd.C_alloc ?_ _) | (with_reducible refine Kd.C_drewN ?_ _) | (with_reducible refine Kd.C_drew ?_))); (case side2 => exact HC0_0.out); rintro e w' ⟨rfl, ⟨nd, rfl⟩⟩; (try first | exact ⟨rfl, _, World.drewN_drewN _ _ _⟩ | exact ⟨rfl, _, Eq.trans (World.drewN_drewN _ _ _) (congrArg (World.drewN _) (Nat.add_assoc _ _ _))⟩))); try go_wp2_with (first | ((with_reducible refine gate_dst (N := 1) rfl ?_); refine be_ 1 #[.slice A0_0 l0_0.length c0_0] 63 ?_; intro gb410 hg w4 hbox hb; have n0_ := A_ (below_step (hb_ HB.out) hb); have n1_ := A_ (hbox); have n2_ := A_ (sz_ hg (hb_ HB.out)); have n3_ := A_ (sz_ hg (hb_ HB.out)); clear HB; have HB := n0_; have BK410 := n1_; have GW410 := n2_; have GE410 := n3_; clear n0_ n1_ n2_ n3_; clear hb hbox hg; have hcz5_0 : w4.cell? ⟨gb410, 0, none⟩ = some (.slice A0_0 l0_0.length c0_0) := bc_ BK410.out 0; have hfz5_0 := blk_frozen BK410.out 0) | (go_at_call 93; (with_reducible refine (r1_at.calls _ _ l0_0 1 t411 _ ?side1 ?side2 A2.out).mono ?_); (case side1 => repeat (first | exact (Kd.C_below HR0_0.out HB.out) | (with_reducible refine Kd.C_alloc ?_ _) | (with_reducible refine Kd.C_drewN ?_ _) | (with_reducible refine Kd.C_drew ?_))); (case side2 => exact HC0_0.out); rintro e w' ⟨rfl, ⟨nd, rfl⟩⟩; (try first | exact ⟨rfl, _, World.drewN_drewN _ _ _⟩ | exact ⟨rfl, _, Eq.trans (World.drewN_drewN _ _ _) (congrArg (World.drewN _) (Nat.add_assoc _ _ _))⟩)) | (go_at_call 93; (with_reducible refine (r1_at.calls _ _ l0_0 0 t412 _ ?side1 ?side2 A3.out).mono ?_); (case side1 => repeat (first | exact (Kd.C_below HR0_0.out (hb1_ HB.out GE410.out)) | (with_reducible refine Kd.C_alloc ?_ _) | (with_reducible refine Kd.C_drewN ?_ _) | (with_reducible refine Kd.C_drew ?_))); (case side2 => exact HC0_0.out); rintro e w' ⟨rfl, ⟨nd, rfl⟩⟩; (try first | exact ⟨rfl, _, World.drewN_drewN _ _ _⟩ | exact ⟨rfl, _, Eq.trans (World.drewN_drewN _ _ _) (congrArg (World.drewN _) (Nat.add_assoc _ _ _))⟩))))
 go_ret
 exact ⟨er_, hb1_ HB.out GE410.out⟩
def r1_Of.f (k : Nat) (a0 : Int) : Option (List Int) := (r1_trim.f k (([Int.tmod a0 4294967296, IntKind.u64.wrap (Int.tdiv a0 4294967296)] : List Int))).bind fun t362 => (some t362)
theorem r1_Of.mono : ∀ a0 k, LeO (r1_Of.f k a0) (r1_Of.f (k + 1) a0) := by
 intro a0 k
 unfold r1_Of.f
 repeat' first
   | (with_reducible exact r1_trim.mono _ _)
   | (with_reducible exact LeO.refl _)
   | (with_reducible exact LeO.none _)
   | (with_reducible refine LeO.ite ?_ ?_)
   | (with_reducible refine LeO.bind ?_ (fun _ => ?_))
   | exact r1_trim.mono _ _
   | exact LeO.none _
   | refine LeO.ite ?_ ?_
   | refine LeO.bind ?_ (fun _ => ?_)
theorem r1_Of.calls (k : Nat) (a0 : Int) (r : List Int) (w : World) (h : r1_Of.f k a0 = some r) :
  Calls Try.prog 62 #[.int .u64 a0] w fun e w' => ∃ v0_ : Value, e = .returned (.agg #[v0_]) ∧ Kd.R (Kd.int .u64) 22 w' w.heap.size (fun _ => True) v0_ r ∧ Below w.heap.size w w' := by
 have hu63 := Try.underlying63
 have HB := A_ (Below.refl w.heap.size w)
 have H : ((r1_trim.f k (([Int.tmod a0 4294967296, IntKind.u64.wrap (Int.tdiv a0 4294967296)] : List Int))).bind fun t362 => (some t362)) = some r := h
 clear h
 obtain ⟨y359, hy359⟩ : ∃ y_ : List Int, y_ = (([Int.tmod a0 4294967296, IntKind.u64.wrap (Int.tdiv a0 4294967296)] : List Int)) := ⟨_, rfl⟩
 replace H : ((r1_trim.f k y359).bind fun t362 => (some t362)) = some r := by first | (rw [hy359]; with_reducible exact H) | (have H2_ := (Option.bind_some _ _).symm.trans H; rw [hy359]; with_reducible exact H2_) | (have H2_ := (Option.bind_some _ _).symm.trans H; with_reducible exact H2_) | with_reducible exact H | (rw [hy359]; exact H) | exact H
 have Ny359 := A_ hy359;clear hy359
 replace H := ob_ H
 obtain ⟨t362, A20, H⟩ := H
 replace H : (some t362) = some r := H
 have A2 := A_ A20;clear A20
 obtain rfl := Option.some.inj H
 go_enter Try.func62, Try.ntmps62
 go_wp2_with (first | ((with_reducible refine gate_dst (N := 2) rfl ?_); refine be_ 2 #[.slice none 0 0] 63 ?_; intro gb358 hg w3 hbox hb; have n0_ := A_ (below_step (hb_ HB.out) hb); have n1_ := A_ (hbox); have n2_ := A_ (sz_ hg (hb_ HB.out)); have n3_ := A_ (sz_ hg (hb_ HB.out)); clear HB; have HB := n0_; have BK358 := n1_; have GW358 := n2_; have GE358 := n3_; clear n0_ n1_ n2_ n3_; clear hb hbox hg) | ((with_reducible refine gate_dst (N := 7) rfl ?_); refine Kd.R_lit (Kd.int .u64) _ 22 ?hg (N := 7) ?hd (xs := ([Int.tmod a0 4294967296, IntKind.u64.wrap (Int.tdiv a0 4294967296)] : List Int)) (inner := [.int .u64 (Int.tmod a0 4294967296), .int .u64 (IntKind.u64.wrap (Int.tdiv a0 4294967296))]) (ok := fun _ => True) (okp := fun _ => True) ?hr ?hp (fun _ hk => hk) trivial (Below.refl _ _) (Nat.le_refl _) (by simp) ?_; (case hd => rfl); (case hg => rfl); (case hr => first | (go_simp; done) | (go_simp; rfl)); (case hp => exact (Reps.one (show Kd.M (Kd.int .u64) _ _ _ (Int.tmod a0 4294967296) [.int .u64 (Int.tmod a0 4294967296)] from rfl) (Reps.one (show Kd.M (Kd.int .u64) _ _ _ (IntKind.u64.wrap (Int.tdiv a0 4294967296)) [.int .u64 (IntKind.u64.wrap (Int.tdiv a0 4294967296))] from rfl) (Reps.none _ _)))); intro v360 w4 ho5 hb hg_ hnew_; clear hg_ hnew_; (first | rw [← Ny359.out] at ho5 | (simp only [Int.reduceToNat] at ho5; rw [← Ny359.out] at ho5)); have n0_ := A_ (Kd.R_lower ho5 (below_size (hb1_ HB.out GE358.out))); have n1_ := A_ (bb_ BK358.out hb); have n2_ := A_ (below_step (hb1_ HB.out GE358.out) hb); clear BK358; clear HB; have HO361 := n0_; have BK358 := n1_; have HB := n2_; clear n0_ n1_ n2_; clear hb ho5; obtain ⟨Ao6, co6, eo6⟩ := Kd.R_slice HO361.out; subst eo6) | ((with_reducible refine gate_callee (f := 94) rfl ?_); refine gl_ (some 8) Try.func94 #[.slice Ao6 y359.length co6] ?_; (with_reducible refine (r1_trim.calls k (fun k_ => some k_ = (.slice Ao6 y359.length co6 : Value).ownBlock) (.slice Ao6 y359.length co6) y359 t362 w _ ?side1 ?side2 A2.out).mono ?_); (case side1 => exact hb1_ HB.out GE358.out); (case side2 => exact Kd.R_tight rfl HO361.out); rintro e w7 ⟨v363, rfl, ho0, hb, hkp⟩; refine ⟨_, rfl, ?_⟩; have n0_ := A_ (blk_kept (bk_ BK358.out) hkp (fun hs_ => (fun e_ => (Kd.R_ne HO361.out BK358.out (by decide)) e_) hs_)); have n1_ := A_ (Kd.R_mono (ok' := fun k_ => True) ho0 (fun k_ hk_ => trivial)); have n2_ := A_ (hb); clear BK358; clear HB; clear HO361; have BK358 := n0_; have HO364 := n1_; have HB := n2_; clear n0_ n1_ n2_; (try clear hb); (try clear hkp); (try clear ho0); obtain ⟨Ao8, co8, eo8⟩ := Kd.R_slice HO364.out; subst eo8; have hcz9_0 : w7.cell? ⟨gb358, 0, none⟩ = some (.slice none 0 0) := bc_ BK358.out 0; have hfz9_0 := blk_frozen BK358.out 0))
 refine bodyPost_ret (results_cell_row rfl _ _ gb358 63 #[.slice Ao8 t362.length co8] (0, 0) _ rfl (by (with_reducible repeat (first | refine blk_drewN ?_ _ | refine blk_drew ?_ | refine blk_alloc ?_ _)); refine blk_put (cs := #[.slice none 0 0]) ?_ 0 _ rfl; (with_reducible repeat (first | refine blk_drewN ?_ _ | refine blk_drew ?_ | refine blk_alloc ?_ _)); exact BK358.out) Try.underlying63 rfl (by kernel_rfl)) rfl ?_
 exact ⟨_, by first | rfl | (simp [errW_none, errW_some] <;> rfl) | (simp [*, errW_none, errW_some] <;> rfl), by (with_reducible repeat (first | apply Kd.R_alloc | apply Kd.R_drewN | apply Kd.R_drew)); exact Kd.R_mono (Kd.R_far (p := ⟨gb358, 0, none⟩) (Kd.R_types HO364.out BK358.out (by decide)) (fun _ hk => hk.2) (.slice Ao8 t362.length co8)) (fun _ hk => trivial), hb1_ HB.out GE358.out⟩
mutual
def r1_Shl.l0 : Nat → Int → List Int → Int → List Int → Option (List Int)
 | 0, _, _, _, _ => none
 | k + 1, x1, x5, x6, x370000 => if x6 < (wrap64 (Int.tdiv x1 32)) then (if x5.length < 17592186044416 then (r1_Shl.l0 k x1 (x5 ++ [0]) (wrap64 (x6 + 1)) x370000) else (none)) else (r1_Shl.l1 k x1 x5 1 0 x370000)
def r1_Shl.l1 : Nat → Int → List Int → Int → Int → List Int → Option (List Int)
 | 0, _, _, _, _, _ => none
 | k + 1, x1, x5, x7, x8, x370000 => if x8 < (Int.tmod x1 32) then (r1_Shl.l1 k x1 x5 (IntKind.u64.wrap (2 * x7)) (wrap64 (x8 + 1)) x370000) else (r1_Shl.l2 k x5 x7 0 0 x370000)
def r1_Shl.l2 : Nat → List Int → Int → Int → Int → List Int → Option (List Int)
 | 0, _, _, _, _, _ => none
 | k + 1, x5, x7, x9, x10, x370000 => if x10 < (x370000.length : Int) then (if 0 ≤ x10 then (if x5.length < 17592186044416 then (r1_Shl.l2 k (x5 ++ [Int.tmod (IntKind.u64.wrap ((IntKind.u64.wrap ((rd x370000 x10) * x7)) + x9)) 4294967296]) x7 (IntKind.u64.wrap (Int.tdiv (IntKind.u64.wrap ((IntKind.u64.wrap ((rd x370000 x10) * x7)) + x9)) 4294967296)) (wrap64 (x10 + 1)) x370000) else (none)) else (none)) else (if x5.length < 17592186044416 then ((r1_trim.f k (x5 ++ [x9])).bind fun t381 => (some t381)) else (none))
end
def r1_Shl.f (k : Nat) (l0_0 : List Int) (a1 : Int) : Option (List Int) := r1_Shl.l0 k a1 ([] : List Int) 0 l0_0
theorem r1_Shl.mono_l : ∀ k, (∀ y0 y1 y2 y3, LeO (r1_Shl.l0 k y0 y1 y2 y3) (r1_Shl.l0 (k + 1) y0 y1 y2 y3)) ∧ (∀ y0 y1 y2 y3 y4, LeO (r1_Shl.l1 k y0 y1 y2 y3 y4) (r1_Shl.l1 (k + 1) y0 y1 y2 y3 y4)) ∧ (∀ y0 y1 y2 y3 y4, LeO (r1_Shl.l2 k y0 y1 y2 y3 y4) (r1_Shl.l2 (k + 1) y0 y1 y2 y3 y4))
 | 0 => ⟨fun _ _ _ _ r h => by simp [r1_Shl.l0] at h, fun _ _ _ _ _ r h => by simp [r1_Shl.l1] at h, fun _ _ _ _ _ r h => by simp [r1_Shl.l2] at h⟩
 | k + 1 => by
  obtain ⟨ih0, ih1, ih2⟩ := r1_Shl.mono_l k
  refine ⟨?_, ?_, ?_⟩
  ·intro y0 y1 y2 y3
   unfold r1_Shl.l0
   repeat' first
   | (with_reducible exact ih0 _ _ _ _)
   | (with_reducible exact ih1 _ _ _ _ _)
   | (with_reducible exact ih2 _ _ _ _ _)
   | (with_reducible exact r1_trim.mono _ _)
   | (with_reducible exact LeO.refl _)
   | (with_reducible exact LeO.none _)
   | (with_reducible refine LeO.ite ?_ ?_)
   | (with_reducible refine LeO.bind ?_ (fun _ => ?_))
   | exact ih0 _ _ _ _
   | exact ih1 _ _ _ _ _
   | exact ih2 _ _ _ _ _
   | exact r1_trim.mono _ _
   | exact LeO.none _
   | refine LeO.ite ?_ ?_
   | refine LeO.bind ?_ (fun _ => ?_)
  ·intro y0 y1 y2 y3 y4
   unfold r1_Shl.l1
   repeat' first
   | (with_reducible exact ih0 _ _ _ _)
   | (with_reducible exact ih1 _ _ _ _ _)
   | (with_reducible exact ih2 _ _ _ _ _)
   | (with_reducible exact r1_trim.mono _ _)
   | (with_reducible exact LeO.refl _)
   | (with_reducible exact LeO.none _)
   | (with_reducible refine LeO.ite ?_ ?_)
   | (with_reducible refine LeO.bind ?_ (fun _ => ?_))
   | exact ih0 _ _ _ _
   | exact ih1 _ _ _ _ _
   | exact ih2 _ _ _ _ _
   | exact r1_trim.mono _ _
   | exact LeO.none _
   | refine LeO.ite ?_ ?_
   | refine LeO.bind ?_ (fun _ => ?_)
  ·intro y0 y1 y2 y3 y4
   unfold r1_Shl.l2
   repeat' first
   | (with_reducible exact ih0 _ _ _ _)
   | (with_reducible exact ih1 _ _ _ _ _)
   | (with_reducible exact ih2 _ _ _ _ _)
   | (with_reducible exact r1_trim.mono _ _)
   | (with_reducible exact LeO.refl _)
   | (with_reducible exact LeO.none _)
   | (with_reducible refine LeO.ite ?_ ?_)
   | (with_reducible refine LeO.bind ?_ (fun _ => ?_))
   | exact ih0 _ _ _ _
   | exact ih1 _ _ _ _ _
   | exact ih2 _ _ _ _ _
   | exact r1_trim.mono _ _
   | exact LeO.none _
   | refine LeO.ite ?_ ?_
   | refine LeO.bind ?_ (fun _ => ?_)
theorem r1_Shl.mono : ∀ a0 a1 k, LeO (r1_Shl.f k a0 a1) (r1_Shl.f (k + 1) a0 a1) := by
 intro a0 a1 k
 obtain ⟨ih0, ih1, ih2⟩ := r1_Shl.mono_l k
 unfold r1_Shl.f
 repeat' first
   | (with_reducible exact ih0 _ _ _ _)
   | (with_reducible exact ih1 _ _ _ _ _)
   | (with_reducible exact ih2 _ _ _ _ _)
   | (with_reducible exact r1_trim.mono _ _)
   | (with_reducible exact LeO.refl _)
   | (with_reducible exact LeO.none _)
   | (with_reducible refine LeO.ite ?_ ?_)
   | (with_reducible refine LeO.bind ?_ (fun _ => ?_))
   | exact ih0 _ _ _ _
   | exact ih1 _ _ _ _ _
   | exact ih2 _ _ _ _ _
   | exact r1_trim.mono _ _
   | exact LeO.none _
   | refine LeO.ite ?_ ?_
   | refine LeO.bind ?_ (fun _ => ?_)
theorem r1_Shl.calls (k : Nat) (A0_0 : Option Addr) (c0_0 : Nat) (l0_0 : List Int) (a1 : Int) (r : List Int) (w : World) (hr0_0 : Kd.C (Kd.int .u64) w A0_0 l0_0.length l0_0) (hc0_0 : l0_0.length ≤ c0_0) (h : r1_Shl.f k l0_0 a1 = some r) :
  Calls Try.prog 78 #[.agg #[.slice A0_0 l0_0.length c0_0], .int .i64 a1] w fun e w' => ∃ v0_ : Value, e = .returned (.agg #[v0_]) ∧ Kd.R (Kd.int .u64) 22 w' w.heap.size (fun _ => True) v0_ r ∧ Below w.heap.size w w' := by
 have hu63 := Try.underlying63
 have HR0_0 := A_ hr0_0;have HC0_0 := A_ hc0_0;clear hr0_0 hc0_0
 have HB := A_ (Below.refl w.heap.size w)
 have H : (r1_Shl.l0 k a1 ([] : List Int) 0 l0_0) = some r := h
 clear h
 have H' := A_ H
 clear H
 go_enter Try.func78, Try.ntmps78
 go_wp2_with (first | ((with_reducible refine gate_dst (N := 2) rfl ?_); refine be_ 2 #[.slice A0_0 l0_0.length c0_0] 63 ?_; intro gb369 hg w3 hbox hb; have n0_ := A_ (below_step (hb_ HB.out) hb); have n1_ := A_ (hbox); have n2_ := A_ (sz_ hg (hb_ HB.out)); have n3_ := A_ (sz_ hg (hb_ HB.out)); clear HB; have HB := n0_; have BK369 := n1_; have GW369 := n2_; have GE369 := n3_; clear n0_ n1_ n2_ n3_; clear hb hbox hg) | ((with_reducible refine gate_dst (N := 4) rfl ?_); refine be_ 4 #[.slice none 0 0] 63 ?_; intro gb370 hg w4 hbox hb; have n0_ := A_ (bb_ BK369.out hb); have n1_ := A_ (below_step (hb1_ HB.out GE369.out) hb); have n2_ := A_ (hbox); have n3_ := A_ (sz_ hg (hb1_ HB.out GE369.out)); have n4_ := A_ (sz_ hg (hb1_ HB.out GE369.out)); have n5_ := A_ (nl_ hg BK369.out); have n6_ := A_ (ng_ hg BK369.out); clear BK369; clear HB; have BK369 := n0_; have HB := n1_; have BK370 := n2_; have GW370 := n3_; have GE370 := n4_; have NB369_370 := n5_; have NB370_369 := n6_; clear n0_ n1_ n2_ n3_ n4_ n5_ n6_; clear hb hbox hg))
 go_loopg [5, 6] k (fun kq v5 v6 w' => ∃ (x5_1 : List Int) (x6_1 : Int), v6 = .int .i64 x6_1 ∧ Aside0 (r1_Shl.l0 kq a1 x5_1 x6_1 l0_0 = some r) ∧ Aside0 (kq ≤ k) ∧ Aside0 (Kd.R (Kd.int .u64) 22 w' w.heap.size (fun _ => True) v5 x5_1) ∧ Aside0 (w'.heap[gb369]? = some (.cells #[(.slice A0_0 l0_0.length c0_0)] 63 (0, 0))) ∧ Aside0 (w'.heap[gb370]? = some (.cells #[(.slice none 0 0)] 63 (0, 0))) ∧ Aside0 (Below w.heap.size w w'))
 case atStart => exact ⟨(([] : List Int)), (0), sm_, H', ⟨Nat.le_refl _⟩, ⟨by first | exact Kd.R_nil _ _ _ _ _ | exact Kd.N_nil _ _ _ _ _ | exact Kd.V_nil _ _ _ _ _ | exact Kd.Q_nil _ _ _ _ _ | exact Kd.S_nil _ _ _ _ _⟩, ⟨bk_ BK369.out⟩, ⟨bk_ BK370.out⟩, ⟨hb2_ HB.out GE369.out GE370.out⟩⟩
 case round =>
  clear H'
  try clear p2
  obtain ⟨x5_1, x6_1, rfl, HA, HK1, HO_5, BK369, BK370, HB⟩ := hrel
  cases gk with
  | zero => exact absurd HA.out (by simp [r1_Shl.l0])
  | succ k1 =>
   have H := HA.out
   clear HA
   simp only [r1_Shl.l0] at H
   by_cases c5 : x6_1 < (wrap64 (Int.tdiv a1 32))
   ·rw [if_pos c5] at H
    have c5b0 : decide (x6_1 < (wrap64 (Int.tdiv a1 32))) = true := decide_eq_true c5
    clear c5
    by_cases c6 : x5_1.length < 17592186044416
    ·rw [if_pos c6] at H
     have LMc6 := A_ c6;clear c6
     obtain ⟨y371, hy371⟩ : ∃ y_ : List Int, y_ = (x5_1 ++ [0]) := ⟨_, rfl⟩
     replace H : (r1_Shl.l0 k1 a1 y371 (wrap64 (x6_1 + 1)) l0_0) = some r := by first | (rw [hy371]; with_reducible exact H) | (have H2_ := (Option.bind_some _ _).symm.trans H; rw [hy371]; with_reducible exact H2_) | (have H2_ := (Option.bind_some _ _).symm.trans H; with_reducible exact H2_) | with_reducible exact H | (rw [hy371]; exact H) | exact H
     have Ny371 := A_ hy371;clear hy371
     have H' := A_ H
     clear H
     go_wp2_with (first | ((with_reducible refine gate_builtin (b := .append) (xs := #[.tmp 18, .tmp 19]) rfl ?_); at_builtin; refine Kd.R_append (Kd.int .u64) (w0 := w) w.heap.size rfl (.tmp 18) (.tmp 19) 30 22 (.int .u64 0) 8 rfl Try.underlying30 info22 rfl (by decide) (by omega) u5 x5_1 0 [.int .u64 0] (fun _ => True) (fun _ => False) rfl rfl ?aP (fun _ hk => hk.elim) ?aF ?aO ?aB ?aS ?aL ?_; (case aP => exact rfl); (case aB => exact (hb2_ HB.out GE369.out GE370.out)); (case aF => exact (fun _ _ => trivial)); (case aO => exact (kr_ HO_5.out)); (case aS => exact (below_size (hb2_ HB.out GE369.out GE370.out))); (case aL => have := LMc6.out; omega); intro v372 w7 ho hb hg hat; rw [← Ny371.out] at ho; have n0_ := A_ (blk_grown (g := gb369) (o := .cells #[.slice A0_0 l0_0.length c0_0] 63 (0, 0)) (bk_ BK369.out) hg (Kd.R_ne HO_5.out BK369.out (by decide))); have n1_ := A_ (blk_grown (g := gb370) (o := .cells #[.slice none 0 0] 63 (0, 0)) (bk_ BK370.out) hg (Kd.R_ne HO_5.out BK370.out (by decide))); have n2_ := A_ (hb); have n3_ := A_ (ho); clear BK369; clear BK370; clear HB; clear HO_5; have BK369 := n0_; have BK370 := n1_; have HB := n2_; have HO373 := n3_; clear n0_ n1_ n2_ n3_; clear ho hb hg hat))
     go_roundg k1
     case measure => have := HK1.out; omega
     case rel => exact ⟨(y371), (wrap64 (x6_1 + 1)), sm_, H', ⟨by have := HK1.out; omega⟩, ⟨by (with_reducible repeat (first | apply Kd.R_alloc | apply Kd.R_drewN | apply Kd.R_drew)); exact HO373.out⟩, ⟨bk_ BK369.out⟩, ⟨bk_ BK370.out⟩, ⟨hb2_ HB.out GE369.out GE370.out⟩⟩
    ·rw [if_neg c6] at H
     exact absurd H (by simp)
   ·rw [if_neg c5] at H
    have c5b0 : decide (x6_1 < (wrap64 (Int.tdiv a1 32))) = false := decide_eq_false c5
    clear c5
    have H' := A_ H
    clear H
    go_wp2
    go_loopg [7, 8] k1 (fun kq v7 v8 w' => ∃ (x7_2 : Int) (x8_2 : Int), v7 = .int .u64 x7_2 ∧ v8 = .int .i64 x8_2 ∧ Aside0 (r1_Shl.l1 kq a1 x5_1 x7_2 x8_2 l0_0 = some r) ∧ Aside0 (kq ≤ k1) ∧ Aside0 (Kd.R (Kd.int .u64) 22 w' w.heap.size (fun _ => True) u5 x5_1) ∧ Aside0 (w'.heap[gb369]? = some (.cells #[(.slice A0_0 l0_0.length c0_0)] 63 (0, 0))) ∧ Aside0 (w'.heap[gb370]? = some (.cells #[(.slice none 0 0)] 63 (0, 0))) ∧ Aside0 (Below w.heap.size w w'))
    case atStart => exact ⟨(1), (0), sm_, sm_, H', ⟨Nat.le_refl _⟩, ⟨by (with_reducible repeat (first | apply Kd.R_alloc | apply Kd.R_drewN | apply Kd.R_drew)); exact HO_5.out⟩, ⟨bk_ BK369.out⟩, ⟨bk_ BK370.out⟩, ⟨hb2_ HB.out GE369.out GE370.out⟩⟩
    case round =>
     clear H'
     try clear p2
     try clear c5
     try clear c5b0
     try clear c6
     try clear p6
     try clear c7
     try clear p2
     obtain ⟨x7_2, x8_2, rfl, rfl, HA, HK2, HO_5, BK369, BK370, HB⟩ := hrel
     cases gk with
     | zero => exact absurd HA.out (by simp [r1_Shl.l1])
     | succ k2 =>
      have H := HA.out
      clear HA
      simp only [r1_Shl.l1] at H
      by_cases c8 : x8_2 < (Int.tmod a1 32)
      ·rw [if_pos c8] at H
       have c8b0 : decide (x8_2 < (Int.tmod a1 32)) = true := decide_eq_true c8
       clear c8
       have H' := A_ H
       clear H
       go_wp2
       go_roundg k2
       case measure => have := HK1.out; have := HK2.out; omega
       case rel => exact ⟨(IntKind.u64.wrap (2 * x7_2)), (wrap64 (x8_2 + 1)), sm_, sm_, H', ⟨by have := HK1.out; have := HK2.out; omega⟩, ⟨by (with_reducible repeat (first | apply Kd.R_alloc | apply Kd.R_drewN | apply Kd.R_drew)); exact HO_5.out⟩, ⟨bk_ BK369.out⟩, ⟨bk_ BK370.out⟩, ⟨hb2_ HB.out GE369.out GE370.out⟩⟩
      ·rw [if_neg c8] at H
       have c8b0 : decide (x8_2 < (Int.tmod a1 32)) = false := decide_eq_false c8
       clear c8
       have H' := A_ H
       clear H
       go_wp2
       go_loopg [5, 9, 10] k2 (fun kq v5 v9 v10 w' => ∃ (x5_3 : List Int) (x9_3 : Int) (x10_3 : Int), v9 = .int .u64 x9_3 ∧ v10 = .int .i64 x10_3 ∧ Aside0 (r1_Shl.l2 kq x5_3 x7_2 x9_3 x10_3 l0_0 = some r) ∧ Aside0 (kq ≤ k2) ∧ Aside0 (Kd.R (Kd.int .u64) 22 w' w.heap.size (fun _ => True) v5 x5_3) ∧ Aside0 (w'.heap[gb369]? = some (.cells #[(.slice A0_0 l0_0.length c0_0)] 63 (0, 0))) ∧ Aside0 (w'.heap[gb370]? = some (.cells #[(.slice none 0 0)] 63 (0, 0))) ∧ Aside0 (Below w.heap.size w w'))
       case atStart => exact ⟨(x5_1), (0), (0), sm_, sm_, H', ⟨Nat.le_refl _⟩, ⟨by (with_reducible repeat (first | apply Kd.R_alloc | apply Kd.R_drewN | apply Kd.R_drew)); exact HO_5.out⟩, ⟨bk_ BK369.out⟩, ⟨bk_ BK370.out⟩, ⟨hb2_ HB.out GE369.out GE370.out⟩⟩
       case round =>
        clear H'
        try clear p2
        try clear c5
        try clear c5b0
        try clear c6
        try clear p6
        try clear c7
        try clear c8
        try clear c8b0
        try clear p2
        try clear p6
        obtain ⟨x5_3, x9_3, x10_3, rfl, rfl, HA, HK3, HO_5, BK369, BK370, HB⟩ := hrel
        cases gk with
        | zero => exact absurd HA.out (by simp [r1_Shl.l2])
        | succ k3 =>
         have H := HA.out
         clear HA
         simp only [r1_Shl.l2] at H
         by_cases c9 : x10_3 < (l0_0.length : Int)
         ·rw [if_pos c9] at H
          have c9b0 : decide (x10_3 < (l0_0.length : Int)) = true := decide_eq_true c9
          clear c9
          by_cases c10 : 0 ≤ x10_3
          ·rw [if_pos c10] at H
           have c10b0 : decide (0 ≤ x10_3) = true := decide_eq_true c10
           clear c10
           by_cases c11 : x5_3.length < 17592186044416
           ·rw [if_pos c11] at H
            have LMc11 := A_ c11;clear c11
            obtain ⟨y375, hy375⟩ : ∃ y_ : List Int, y_ = (x5_3 ++ [Int.tmod (IntKind.u64.wrap ((IntKind.u64.wrap ((rd l0_0 x10_3) * x7_2)) + x9_3)) 4294967296]) := ⟨_, rfl⟩
            replace H : (r1_Shl.l2 k3 y375 x7_2 (IntKind.u64.wrap (Int.tdiv (IntKind.u64.wrap ((IntKind.u64.wrap ((rd l0_0 x10_3) * x7_2)) + x9_3)) 4294967296)) (wrap64 (x10_3 + 1)) l0_0) = some r := by first | (rw [hy375]; with_reducible exact H) | (have H2_ := (Option.bind_some _ _).symm.trans H; rw [hy375]; with_reducible exact H2_) | (have H2_ := (Option.bind_some _ _).symm.trans H; with_reducible exact H2_) | with_reducible exact H | (rw [hy375]; exact H) | exact H
            have Ny375 := A_ hy375;clear hy375
            have H' := A_ H
            clear H
            have hnb12 := NB369_370.out
            have hnc12 := NB370_369.out
            have hcz13_0 : wr.cell? ⟨gb369, 0, none⟩ = some (.slice A0_0 l0_0.length c0_0) := bc_ BK369.out 0
            have hfz13_0 := blk_frozen BK369.out 0
            have p374 : 0 ≤ (x10_3 : Int) := of_decide_eq_true (by first | (with_reducible assumption) | assumption)
            have q374 : x10_3 < (l0_0.length : Int) := of_decide_eq_true (by first | (with_reducible assumption) | assumption)
            obtain ⟨ad374, e374, hx374_0⟩ := Kd.at_int HR0_0.out x10_3 p374 q374
            cases e374
            replace hx374_0 := (HB.out.cell (World.block_lt_of_cell? w _ hx374_0)).trans hx374_0
            replace p374 := eq_true p374
            replace q374 := eq_true q374
            go_wp2_with (first | ((with_reducible refine gate_builtin (b := .append) (xs := #[.tmp 45, .tmp 48]) rfl ?_); at_builtin; refine Kd.R_append (Kd.int .u64) (w0 := w) w.heap.size rfl (.tmp 45) (.tmp 48) 30 22 (.int .u64 0) 8 rfl Try.underlying30 info22 rfl (by decide) (by omega) u5 x5_3 (Int.tmod (IntKind.u64.wrap ((IntKind.u64.wrap ((rd l0_0 x10_3) * x7_2)) + x9_3)) 4294967296) [.int .u64 (Int.tmod (IntKind.u64.wrap ((IntKind.u64.wrap ((rd l0_0 x10_3) * x7_2)) + x9_3)) 4294967296)] (fun _ => True) (fun _ => False) rfl rfl ?aP (fun _ hk => hk.elim) ?aF ?aO ?aB ?aS ?aL ?_; (case aP => exact rfl); (case aB => exact (hb2_ HB.out GE369.out GE370.out)); (case aF => exact (fun _ _ => trivial)); (case aO => exact (kr_ HO_5.out)); (case aS => exact (below_size (hb2_ HB.out GE369.out GE370.out))); (case aL => have := LMc11.out; omega); intro v376 w14 ho hb hg hat; rw [← Ny375.out] at ho; have n0_ := A_ (blk_grown (g := gb369) (o := .cells #[.slice (some ad374) l0_0.length c0_0] 63 (0, 0)) (bk_ BK369.out) hg (Kd.R_ne HO_5.out BK369.out (by decide))); have n1_ := A_ (blk_grown (g := gb370) (o := .cells #[.slice none 0 0] 63 (0, 0)) (bk_ BK370.out) hg (Kd.R_ne HO_5.out BK370.out (by decide))); have n2_ := A_ (hb); have n3_ := A_ (ho); clear BK369; clear BK370; clear HB; clear HO_5; have BK369 := n0_; have BK370 := n1_; have HB := n2_; have HO377 := n3_; clear n0_ n1_ n2_ n3_; clear ho hb hg hat))
            go_roundg k3
            case measure => have := HK1.out; have := HK2.out; have := HK3.out; omega
            case rel => exact ⟨(y375), (IntKind.u64.wrap (Int.tdiv (IntKind.u64.wrap ((IntKind.u64.wrap ((rd l0_0 x10_3) * x7_2)) + x9_3)) 4294967296)), (wrap64 (x10_3 + 1)), sm_, sm_, H', ⟨by have := HK1.out; have := HK2.out; have := HK3.out; omega⟩, ⟨by (with_reducible repeat (first | apply Kd.R_alloc | apply Kd.R_drewN | apply Kd.R_drew)); exact HO377.out⟩, ⟨bk_ BK369.out⟩, ⟨bk_ BK370.out⟩, ⟨hb2_ HB.out GE369.out GE370.out⟩⟩
           ·rw [if_neg c11] at H
            exact absurd H (by simp)
          ·rw [if_neg c10] at H
           exact absurd H (by simp)
         ·rw [if_neg c9] at H
          have c9b0 : decide (x10_3 < (l0_0.length : Int)) = false := decide_eq_false c9
          clear c9
          by_cases c15 : x5_3.length < 17592186044416
          ·rw [if_pos c15] at H
           have LMc15 := A_ c15;clear c15
           obtain ⟨y378, hy378⟩ : ∃ y_ : List Int, y_ = (x5_3 ++ [x9_3]) := ⟨_, rfl⟩
           replace H : ((r1_trim.f k3 y378).bind fun t381 => (some t381)) = some r := by first | (rw [hy378]; with_reducible exact H) | (have H2_ := (Option.bind_some _ _).symm.trans H; rw [hy378]; with_reducible exact H2_) | (have H2_ := (Option.bind_some _ _).symm.trans H; with_reducible exact H2_) | with_reducible exact H | (rw [hy378]; exact H) | exact H
           have Ny378 := A_ hy378;clear hy378
           replace H := ob_ H
           obtain ⟨t381, A160, H⟩ := H
           replace H : (some t381) = some r := H
           have A16 := A_ A160;clear A160
           obtain rfl := Option.some.inj H
           have hnb17 := NB369_370.out
           have hnc17 := NB370_369.out
           have hcz18_0 : wr.cell? ⟨gb369, 0, none⟩ = some (.slice A0_0 l0_0.length c0_0) := bc_ BK369.out 0
           have hfz18_0 := blk_frozen BK369.out 0
           go_wp2_with (first | ((with_reducible refine gate_builtin (b := .append) (xs := #[.tmp 52, .tmp 54]) rfl ?_); at_builtin; refine Kd.R_append (Kd.int .u64) (w0 := w) w.heap.size rfl (.tmp 52) (.tmp 54) 30 22 (.int .u64 0) 8 rfl Try.underlying30 info22 rfl (by decide) (by omega) u5 x5_3 x9_3 [.int .u64 x9_3] (fun _ => True) (fun _ => False) rfl rfl ?aP (fun _ hk => hk.elim) ?aF ?aO ?aB ?aS ?aL ?_; (case aP => exact rfl); (case aB => exact (hb2_ HB.out GE369.out GE370.out)); (case aF => exact (fun _ _ => trivial)); (case aO => exact (kr_ HO_5.out)); (case aS => exact (below_size (hb2_ HB.out GE369.out GE370.out))); (case aL => have := LMc15.out; omega); intro v379 w19 ho hb hg hat; rw [← Ny378.out] at ho; have n0_ := A_ (blk_grown (g := gb369) (o := .cells #[.slice A0_0 l0_0.length c0_0] 63 (0, 0)) (bk_ BK369.out) hg (Kd.R_ne HO_5.out BK369.out (by decide))); have n1_ := A_ (blk_grown (g := gb370) (o := .cells #[.slice none 0 0] 63 (0, 0)) (bk_ BK370.out) hg (Kd.R_ne HO_5.out BK370.out (by decide))); have n2_ := A_ (hb); have n3_ := A_ (ho); clear BK369; clear BK370; clear HB; clear HO_5; have BK369 := n0_; have BK370 := n1_; have HB := n2_; have HO380 := n3_; clear n0_ n1_ n2_ n3_; clear ho hb hg hat; obtain ⟨Ao20, co20, eo20⟩ := Kd.R_slice HO380.out; subst eo20) | ((with_reducible refine gate_callee (f := 94) rfl ?_); refine gl_ (some 56) Try.func94 #[.slice Ao20 y378.length co20] ?_; (with_reducible refine (r1_trim.calls k3 (fun k_ => some k_ = (.slice Ao20 y378.length co20 : Value).ownBlock) (.slice Ao20 y378.length co20) y378 t381 w _ ?side1 ?side2 A16.out).mono ?_); (case side1 => exact hb2_ HB.out GE369.out GE370.out); (case side2 => exact Kd.R_tight rfl HO380.out); rintro e w21 ⟨v382, rfl, ho0, hb, hkp⟩; refine ⟨_, rfl, ?_⟩; have n0_ := A_ (blk_kept (bk_ BK369.out) hkp (fun hs_ => (fun e_ => (Kd.R_ne HO380.out BK369.out (by decide)) e_) hs_)); have n1_ := A_ (blk_kept (bk_ BK370.out) hkp (fun hs_ => (fun e_ => (Kd.R_ne HO380.out BK370.out (by decide)) e_) hs_)); have n2_ := A_ (Kd.R_mono (ok' := fun k_ => True) ho0 (fun k_ hk_ => trivial)); have n3_ := A_ (hb); clear BK369; clear BK370; clear HB; clear HO380; have BK369 := n0_; have BK370 := n1_; have HO383 := n2_; have HB := n3_; clear n0_ n1_ n2_ n3_; (try clear hb); (try clear hkp); (try clear ho0); obtain ⟨Ao22, co22, eo22⟩ := Kd.R_slice HO383.out; subst eo22; have hcz23_0 : w21.cell? ⟨gb370, 0, none⟩ = some (.slice none 0 0) := bc_ BK370.out 0; have hfz23_0 := blk_frozen BK370.out 0))
           refine bodyPost_ret (results_cell_row rfl _ _ gb370 63 #[.slice Ao22 t381.length co22] (0, 0) _ rfl (by (with_reducible repeat (first | refine blk_drewN ?_ _ | refine blk_drew ?_ | refine blk_alloc ?_ _)); refine blk_put (cs := #[.slice none 0 0]) ?_ 0 _ rfl; (with_reducible repeat (first | refine blk_drewN ?_ _ | refine blk_drew ?_ | refine blk_alloc ?_ _)); exact BK370.out) Try.underlying63 rfl (by kernel_rfl)) rfl ?_
           exact ⟨_, by first | rfl | (simp [errW_none, errW_some] <;> rfl) | (simp [*, errW_none, errW_some] <;> rfl), by (with_reducible repeat (first | apply Kd.R_alloc | apply Kd.R_drewN | apply Kd.R_drew)); exact Kd.R_mono (Kd.R_far (p := ⟨gb370, 0, none⟩) (Kd.R_types HO383.out BK370.out (by decide)) (fun _ hk => hk.2) (.slice Ao22 t381.length co22)) (fun _ hk => trivial), hb2_ HB.out GE369.out GE370.out⟩
          ·rw [if_neg c15] at H
           exact absurd H (by simp)
def r1_Sub.l0 : Nat → List Int → Int → Int → List Int → List Int → Option (List Int)
 | 0, _, _, _, _, _ => none
 | k + 1, x5, x6, x7, x414000, x415000 => if x7 < (x414000.length : Int) then (if 0 ≤ x7 then ((r1_at.f x415000 x7).bind fun t417 => (if x5.length < 17592186044416 then (r1_Sub.l0 k (x5 ++ [Int.tmod (IntKind.u64.wrap ((IntKind.u64.wrap ((IntKind.u64.wrap ((rd x414000 x7) + 4294967296)) - t417)) - x6)) 4294967296]) (IntKind.u64.wrap (1 - (IntKind.u64.wrap (Int.tdiv (IntKind.u64.wrap ((IntKind.u64.wrap ((IntKind.u64.wrap ((rd x414000 x7) + 4294967296)) - t417)) - x6)) 4294967296)))) (wrap64 (x7 + 1)) x414000 x415000) else (none))) else (none)) else ((r1_trim.f k x5).bind fun t421 => (some t421))
def r1_Sub.f (k : Nat) (l0_0 : List Int) (l1_0 : List Int) : Option (List Int) := r1_Sub.l0 k ([] : List Int) 0 0 l0_0 l1_0
theorem r1_Sub.mono_l : ∀ k, (∀ y0 y1 y2 y3 y4, LeO (r1_Sub.l0 k y0 y1 y2 y3 y4) (r1_Sub.l0 (k + 1) y0 y1 y2 y3 y4))
 | 0 => fun _ _ _ _ _ r h => by simp [r1_Sub.l0] at h
 | k + 1 => by
  have ih0 := r1_Sub.mono_l k
  ·intro y0 y1 y2 y3 y4
   unfold r1_Sub.l0
   repeat' first
   | (with_reducible exact ih0 _ _ _ _ _)
   | (with_reducible exact r1_trim.mono _ _)
   | (with_reducible exact LeO.refl _)
   | (with_reducible exact LeO.none _)
   | (with_reducible refine LeO.ite ?_ ?_)
   | (with_reducible refine LeO.bind ?_ (fun _ => ?_))
   | exact ih0 _ _ _ _ _
   | exact r1_trim.mono _ _
   | exact LeO.none _
   | refine LeO.ite ?_ ?_
   | refine LeO.bind ?_ (fun _ => ?_)
theorem r1_Sub.mono : ∀ a0 a1 k, LeO (r1_Sub.f k a0 a1) (r1_Sub.f (k + 1) a0 a1) := by
 intro a0 a1 k
 have ih0 := r1_Sub.mono_l k
 unfold r1_Sub.f
 repeat' first
   | (with_reducible exact ih0 _ _ _ _ _)
   | (with_reducible exact r1_trim.mono _ _)
   | (with_reducible exact LeO.refl _)
   | (with_reducible exact LeO.none _)
   | (with_reducible refine LeO.ite ?_ ?_)
   | (with_reducible refine LeO.bind ?_ (fun _ => ?_))
   | exact ih0 _ _ _ _ _
   | exact r1_trim.mono _ _
   | exact LeO.none _
   | refine LeO.ite ?_ ?_
   | refine LeO.bind ?_ (fun _ => ?_)
theorem r1_Sub.calls (k : Nat) (A0_0 : Option Addr) (c0_0 : Nat) (l0_0 : List Int) (A1_0 : Option Addr) (c1_0 : Nat) (l1_0 : List Int) (r : List Int) (w : World) (hr0_0 : Kd.C (Kd.int .u64) w A0_0 l0_0.length l0_0) (hc0_0 : l0_0.length ≤ c0_0) (hr1_0 : Kd.C (Kd.int .u64) w A1_0 l1_0.length l1_0) (hc1_0 : l1_0.length ≤ c1_0) (h : r1_Sub.f k l0_0 l1_0 = some r) :
  Calls Try.prog 118 #[.agg #[.slice A0_0 l0_0.length c0_0], .agg #[.slice A1_0 l1_0.length c1_0]] w fun e w' => ∃ v0_ : Value, e = .returned (.agg #[v0_]) ∧ Kd.R (Kd.int .u64) 22 w' w.heap.size (fun _ => True) v0_ r ∧ Below w.heap.size w w' := by
 have hu63 := Try.underlying63
 have HR0_0 := A_ hr0_0;have HC0_0 := A_ hc0_0;clear hr0_0 hc0_0;have HR1_0 := A_ hr1_0;have HC1_0 := A_ hc1_0;clear hr1_0 hc1_0
 have HB := A_ (Below.refl w.heap.size w)
 have H : (r1_Sub.l0 k ([] : List Int) 0 0 l0_0 l1_0) = some r := h
 clear h
 have H' := A_ H
 clear H
 go_enter Try.func118, Try.ntmps118
 go_wp2_with (first | ((with_reducible refine gate_dst (N := 2) rfl ?_); refine be_ 2 #[.slice A0_0 l0_0.length c0_0] 63 ?_; intro gb413 hg w3 hbox hb; have n0_ := A_ (below_step (hb_ HB.out) hb); have n1_ := A_ (hbox); have n2_ := A_ (sz_ hg (hb_ HB.out)); have n3_ := A_ (sz_ hg (hb_ HB.out)); clear HB; have HB := n0_; have BK413 := n1_; have GW413 := n2_; have GE413 := n3_; clear n0_ n1_ n2_ n3_; clear hb hbox hg) | ((with_reducible refine gate_dst (N := 3) rfl ?_); refine be_ 3 #[.slice A1_0 l1_0.length c1_0] 63 ?_; intro gb414 hg w4 hbox hb; have n0_ := A_ (bb_ BK413.out hb); have n1_ := A_ (below_step (hb1_ HB.out GE413.out) hb); have n2_ := A_ (hbox); have n3_ := A_ (sz_ hg (hb1_ HB.out GE413.out)); have n4_ := A_ (sz_ hg (hb1_ HB.out GE413.out)); have n5_ := A_ (nl_ hg BK413.out); have n6_ := A_ (ng_ hg BK413.out); clear BK413; clear HB; have BK413 := n0_; have HB := n1_; have BK414 := n2_; have GW414 := n3_; have GE414 := n4_; have NB413_414 := n5_; have NB414_413 := n6_; clear n0_ n1_ n2_ n3_ n4_ n5_ n6_; clear hb hbox hg) | ((with_reducible refine gate_dst (N := 4) rfl ?_); refine be_ 4 #[.slice none 0 0] 63 ?_; intro gb415 hg w5 hbox hb; have n0_ := A_ (bb_ BK413.out hb); have n1_ := A_ (bb_ BK414.out hb); have n2_ := A_ (below_step (hb2_ HB.out GE413.out GE414.out) hb); have n3_ := A_ (hbox); have n4_ := A_ (sz_ hg (hb2_ HB.out GE413.out GE414.out)); have n5_ := A_ (sz_ hg (hb2_ HB.out GE413.out GE414.out)); have n6_ := A_ (nl_ hg BK413.out); have n7_ := A_ (ng_ hg BK413.out); have n8_ := A_ (nl_ hg BK414.out); have n9_ := A_ (ng_ hg BK414.out); clear BK413; clear BK414; clear HB; have BK413 := n0_; have BK414 := n1_; have HB := n2_; have BK415 := n3_; have GW415 := n4_; have GE415 := n5_; have NB413_415 := n6_; have NB415_413 := n7_; have NB414_415 := n8_; have NB415_414 := n9_; clear n0_ n1_ n2_ n3_ n4_ n5_ n6_ n7_ n8_ n9_; clear hb hbox hg))
 repeat (go_quiet (first | ((with_reducible refine gate_dst (N := 2) rfl ?_); refine be_ 2 #[.slice A0_0 l0_0.length c0_0] 63 ?_; intro gb413 hg w3 hbox hb; have n0_ := A_ (below_step (hb_ HB.out) hb); have n1_ := A_ (hbox); have n2_ := A_ (sz_ hg (hb_ HB.out)); have n3_ := A_ (sz_ hg (hb_ HB.out)); clear HB; have HB := n0_; have BK413 := n1_; have GW413 := n2_; have GE413 := n3_; clear n0_ n1_ n2_ n3_; clear hb hbox hg) | ((with_reducible refine gate_dst (N := 3) rfl ?_); refine be_ 3 #[.slice A1_0 l1_0.length c1_0] 63 ?_; intro gb414 hg w4 hbox hb; have n0_ := A_ (bb_ BK413.out hb); have n1_ := A_ (below_step (hb1_ HB.out GE413.out) hb); have n2_ := A_ (hbox); have n3_ := A_ (sz_ hg (hb1_ HB.out GE413.out)); have n4_ := A_ (sz_ hg (hb1_ HB.out GE413.out)); have n5_ := A_ (nl_ hg BK413.out); have n6_ := A_ (ng_ hg BK413.out); clear BK413; clear HB; have BK413 := n0_; have HB := n1_; have BK414 := n2_; have GW414 := n3_; have GE414 := n4_; have NB413_414 := n5_; have NB414_413 := n6_; clear n0_ n1_ n2_ n3_ n4_ n5_ n6_; clear hb hbox hg) | ((with_reducible refine gate_dst (N := 4) rfl ?_); refine be_ 4 #[.slice none 0 0] 63 ?_; intro gb415 hg w5 hbox hb; have n0_ := A_ (bb_ BK413.out hb); have n1_ := A_ (bb_ BK414.out hb); have n2_ := A_ (below_step (hb2_ HB.out GE413.out GE414.out) hb); have n3_ := A_ (hbox); have n4_ := A_ (sz_ hg (hb2_ HB.out GE413.out GE414.out)); have n5_ := A_ (sz_ hg (hb2_ HB.out GE413.out GE414.out)); have n6_ := A_ (nl_ hg BK413.out); have n7_ := A_ (ng_ hg BK413.out); have n8_ := A_ (nl_ hg BK414.out); have n9_ := A_ (ng_ hg BK414.out); clear BK413; clear BK414; clear HB; have BK413 := n0_; have BK414 := n1_; have HB := n2_; have BK415 := n3_; have GW415 := n4_; have GE415 := n5_; have NB413_415 := n6_; have NB415_413 := n7_; have NB414_415 := n8_; have NB415_414 := n9_; clear n0_ n1_ n2_ n3_ n4_ n5_ n6_ n7_ n8_ n9_; clear hb hbox hg)); try go_wp2_with (first | ((with_reducible refine gate_dst (N := 2) rfl ?_); refine be_ 2 #[.slice A0_0 l0_0.length c0_0] 63 ?_; intro gb413 hg w3 hbox hb; have n0_ := A_ (below_step (hb_ HB.out) hb); have n1_ := A_ (hbox); have n2_ := A_ (sz_ hg (hb_ HB.out)); have n3_ := A_ (sz_ hg (hb_ HB.out)); clear HB; have HB := n0_; have BK413 := n1_; have GW413 := n2_; have GE413 := n3_; clear n0_ n1_ n2_ n3_; clear hb hbox hg) | ((with_reducible refine gate_dst (N := 3) rfl ?_); refine be_ 3 #[.slice A1_0 l1_0.length c1_0] 63 ?_; intro gb414 hg w4 hbox hb; have n0_ := A_ (bb_ BK413.out hb); have n1_ := A_ (below_step (hb1_ HB.out GE413.out) hb); have n2_ := A_ (hbox); have n3_ := A_ (sz_ hg (hb1_ HB.out GE413.out)); have n4_ := A_ (sz_ hg (hb1_ HB.out GE413.out)); have n5_ := A_ (nl_ hg BK413.out); have n6_ := A_ (ng_ hg BK413.out); clear BK413; clear HB; have BK413 := n0_; have HB := n1_; have BK414 := n2_; have GW414 := n3_; have GE414 := n4_; have NB413_414 := n5_; have NB414_413 := n6_; clear n0_ n1_ n2_ n3_ n4_ n5_ n6_; clear hb hbox hg) | ((with_reducible refine gate_dst (N := 4) rfl ?_); refine be_ 4 #[.slice none 0 0] 63 ?_; intro gb415 hg w5 hbox hb; have n0_ := A_ (bb_ BK413.out hb); have n1_ := A_ (bb_ BK414.out hb); have n2_ := A_ (below_step (hb2_ HB.out GE413.out GE414.out) hb); have n3_ := A_ (hbox); have n4_ := A_ (sz_ hg (hb2_ HB.out GE413.out GE414.out)); have n5_ := A_ (sz_ hg (hb2_ HB.out GE413.out GE414.out)); have n6_ := A_ (nl_ hg BK413.out); have n7_ := A_ (ng_ hg BK413.out); have n8_ := A_ (nl_ hg BK414.out); have n9_ := A_ (ng_ hg BK414.out); clear BK413; clear BK414; clear HB; have BK413 := n0_; have BK414 := n1_; have HB := n2_; have BK415 := n3_; have GW415 := n4_; have GE415 := n5_; have NB413_415 := n6_; have NB415_413 := n7_; have NB414_415 := n8_; have NB415_414 := n9_; clear n0_ n1_ n2_ n3_ n4_ n5_ n6_ n7_ n8_ n9_; clear hb hbox hg)))
 go_loopg [5, 6, 7] k (fun kq v5 v6 v7 w' => ∃ (x5_1 : List Int) (x6_1 : Int) (x7_1 : Int), v6 = .int .u64 x6_1 ∧ v7 = .int .i64 x7_1 ∧ Aside0 (r1_Sub.l0 kq x5_1 x6_1 x7_1 l0_0 l1_0 = some r) ∧ Aside0 (kq ≤ k) ∧ Aside0 (Kd.R (Kd.int .u64) 22 w' w.heap.size (fun _ => True) v5 x5_1) ∧ Aside0 (w'.heap[gb413]? = some (.cells #[(.slice A0_0 l0_0.length c0_0)] 63 (0, 0))) ∧ Aside0 (w'.heap[gb414]? = some (.cells #[(.slice A1_0 l1_0.length c1_0)] 63 (0, 0))) ∧ Aside0 (w'.heap[gb415]? = some (.cells #[(.slice none 0 0)] 63 (0, 0))) ∧ Aside0 (Below w.heap.size w w'))
 case atStart => exact ⟨(([] : List Int)), (0), (0), sm_, sm_, H', ⟨Nat.le_refl _⟩, ⟨by first | exact Kd.R_nil _ _ _ _ _ | exact Kd.N_nil _ _ _ _ _ | exact Kd.V_nil _ _ _ _ _ | exact Kd.Q_nil _ _ _ _ _ | exact Kd.S_nil _ _ _ _ _⟩, ⟨bk_ BK413.out⟩, ⟨bk_ BK414.out⟩, ⟨bk_ BK415.out⟩, ⟨hb3_ HB.out GE413.out GE414.out GE415.out⟩⟩
 case round =>
  clear H'
  try clear c1
  try clear p2
  obtain ⟨x5_1, x6_1, x7_1, rfl, rfl, HA, HK1, HO_5, BK413, BK414, BK415, HB⟩ := hrel
  cases gk with
  | zero => exact absurd HA.out (by simp [r1_Sub.l0])
  | succ k1 =>
   have H := HA.out
   clear HA
   simp only [r1_Sub.l0] at H
   by_cases c6 : x7_1 < (l0_0.length : Int)
   ·rw [if_pos c6] at H
    have c6b0 : decide (x7_1 < (l0_0.length : Int)) = true := decide_eq_true c6
    clear c6
    by_cases c7 : 0 ≤ x7_1
    ·rw [if_pos c7] at H
     have c7b0 : decide (0 ≤ x7_1) = true := decide_eq_true c7
     clear c7
     replace H := ob_ H
     obtain ⟨t417, A80, H⟩ := H
     replace H : (if x5_1.length < 17592186044416 then (r1_Sub.l0 k1 (x5_1 ++ [Int.tmod (IntKind.u64.wrap ((IntKind.u64.wrap ((IntKind.u64.wrap ((rd l0_0 x7_1) + 4294967296)) - t417)) - x6_1)) 4294967296]) (IntKind.u64.wrap (1 - (IntKind.u64.wrap (Int.tdiv (IntKind.u64.wrap ((IntKind.u64.wrap ((IntKind.u64.wrap ((rd l0_0 x7_1) + 4294967296)) - t417)) - x6_1)) 4294967296)))) (wrap64 (x7_1 + 1)) l0_0 l1_0) else (none)) = some r := H
     have A8 := A_ A80;clear A80
     by_cases c9 : x5_1.length < 17592186044416
     ·rw [if_pos c9] at H
      have LMc9 := A_ c9;clear c9
      obtain ⟨y418, hy418⟩ : ∃ y_ : List Int, y_ = (x5_1 ++ [Int.tmod (IntKind.u64.wrap ((IntKind.u64.wrap ((IntKind.u64.wrap ((rd l0_0 x7_1) + 4294967296)) - t417)) - x6_1)) 4294967296]) := ⟨_, rfl⟩
      replace H : (r1_Sub.l0 k1 y418 (IntKind.u64.wrap (1 - (IntKind.u64.wrap (Int.tdiv (IntKind.u64.wrap ((IntKind.u64.wrap ((IntKind.u64.wrap ((rd l0_0 x7_1) + 4294967296)) - t417)) - x6_1)) 4294967296)))) (wrap64 (x7_1 + 1)) l0_0 l1_0) = some r := by first | (rw [hy418]; with_reducible exact H) | (have H2_ := (Option.bind_some _ _).symm.trans H; rw [hy418]; with_reducible exact H2_) | (have H2_ := (Option.bind_some _ _).symm.trans H; with_reducible exact H2_) | with_reducible exact H | (rw [hy418]; exact H) | exact H
      have Ny418 := A_ hy418;clear hy418
      have H' := A_ H
      clear H
      have hnb10 := NB413_414.out
      have hnc10 := NB414_413.out
      have hnb11 := NB413_415.out
      have hnc11 := NB415_413.out
      have hcz12_0 : wr.cell? ⟨gb413, 0, none⟩ = some (.slice A0_0 l0_0.length c0_0) := bc_ BK413.out 0
      have hfz12_0 := blk_frozen BK413.out 0
      have p416 : 0 ≤ (x7_1 : Int) := of_decide_eq_true (by first | (with_reducible assumption) | assumption)
      have q416 : x7_1 < (l0_0.length : Int) := of_decide_eq_true (by first | (with_reducible assumption) | assumption)
      obtain ⟨ad416, e416, hx416_0⟩ := Kd.at_int HR0_0.out x7_1 p416 q416
      cases e416
      replace hx416_0 := (HB.out.cell (World.block_lt_of_cell? w _ hx416_0)).trans hx416_0
      replace p416 := eq_true p416
      replace q416 := eq_true q416
      have hnb13 := NB414_415.out
      have hnc13 := NB415_414.out
      have hcz14_0 : wr.cell? ⟨gb414, 0, none⟩ = some (.slice A1_0 l1_0.length c1_0) := bc_ BK414.out 0
      have hfz14_0 := blk_frozen BK414.out 0
      go_wp2_with (first | (go_at_call 93; (with_reducible refine (r1_at.calls _ _ l1_0 x7_1 t417 _ ?side1 ?side2 A8.out).mono ?_); (case side1 => repeat (first | exact (Kd.C_below HR1_0.out HB.out) | (with_reducible refine Kd.C_alloc ?_ _) | (with_reducible refine Kd.C_drewN ?_ _) | (with_reducible refine Kd.C_drew ?_))); (case side2 => exact HC1_0.out); rintro e w' ⟨rfl, ⟨nd, rfl⟩⟩; (try first | exact ⟨rfl, _, World.drewN_drewN _ _ _⟩ | exact ⟨rfl, _, Eq.trans (World.drewN_drewN _ _ _) (congrArg (World.drewN _) (Nat.add_assoc _ _ _))⟩)) | ((with_reducible refine gate_builtin (b := .append) (xs := #[.tmp 29, .tmp 32]) rfl ?_); at_builtin; refine Kd.R_append (Kd.int .u64) (w0 := w) w.heap.size rfl (.tmp 29) (.tmp 32) 30 22 (.int .u64 0) 8 rfl Try.underlying30 info22 rfl (by decide) (by omega) u5 x5_1 (Int.tmod (IntKind.u64.wrap ((IntKind.u64.wrap ((IntKind.u64.wrap ((rd l0_0 x7_1) + 4294967296)) - t417)) - x6_1)) 4294967296) [.int .u64 (Int.tmod (IntKind.u64.wrap ((IntKind.u64.wrap ((IntKind.u64.wrap ((rd l0_0 x7_1) + 4294967296)) - t417)) - x6_1)) 4294967296)] (fun _ => True) (fun _ => False) rfl rfl ?aP (fun _ hk => hk.elim) ?aF ?aO ?aB ?aS ?aL ?_; (case aP => exact rfl); (case aB => exact (hb3_ HB.out GE413.out GE414.out GE415.out)); (case aF => exact (fun _ _ => trivial)); (case aO => exact (kr_ HO_5.out)); (case aS => exact (below_size (hb3_ HB.out GE413.out GE414.out GE415.out))); (case aL => have := LMc9.out; omega); intro v419 w15 ho hb hg hat; rw [← Ny418.out] at ho; have n0_ := A_ (blk_grown (g := gb413) (o := .cells #[.slice (some ad416) l0_0.length c0_0] 63 (0, 0)) (bk_ BK413.out) hg (Kd.R_ne HO_5.out BK413.out (by decide))); have n1_ := A_ (blk_grown (g := gb414) (o := .cells #[.slice A1_0 l1_0.length c1_0] 63 (0, 0)) (bk_ BK414.out) hg (Kd.R_ne HO_5.out BK414.out (by decide))); have n2_ := A_ (blk_grown (g := gb415) (o := .cells #[.slice none 0 0] 63 (0, 0)) (bk_ BK415.out) hg (Kd.R_ne HO_5.out BK415.out (by decide))); have n3_ := A_ (hb); have n4_ := A_ (ho); clear BK413; clear BK414; clear BK415; clear HB; clear HO_5; have BK413 := n0_; have BK414 := n1_; have BK415 := n2_; have HB := n3_; have HO420 := n4_; clear n0_ n1_ n2_ n3_ n4_; clear ho hb hg hat))
      repeat (go_quiet (first | (go_at_call 93; (with_reducible refine (r1_at.calls _ _ l1_0 x7_1 t417 _ ?side1 ?side2 A8.out).mono ?_); (case side1 => repeat (first | exact (Kd.C_below HR1_0.out HB.out) | (with_reducible refine Kd.C_alloc ?_ _) | (with_reducible refine Kd.C_drewN ?_ _) | (with_reducible refine Kd.C_drew ?_))); (case side2 => exact HC1_0.out); rintro e w' ⟨rfl, ⟨nd, rfl⟩⟩; (try first | exact ⟨rfl, _, World.drewN_drewN _ _ _⟩ | exact ⟨rfl, _, Eq.trans (World.drewN_drewN _ _ _) (congrArg (World.drewN _) (Nat.add_assoc _ _ _))⟩)) | ((with_reducible refine gate_builtin (b := .append) (xs := #[.tmp 29, .tmp 32]) rfl ?_); at_builtin; refine Kd.R_append (Kd.int .u64) (w0 := w) w.heap.size rfl (.tmp 29) (.tmp 32) 30 22 (.int .u64 0) 8 rfl Try.underlying30 info22 rfl (by decide) (by omega) u5 x5_1 (Int.tmod (IntKind.u64.wrap ((IntKind.u64.wrap ((IntKind.u64.wrap ((rd l0_0 x7_1) + 4294967296)) - t417)) - x6_1)) 4294967296) [.int .u64 (Int.tmod (IntKind.u64.wrap ((IntKind.u64.wrap ((IntKind.u64.wrap ((rd l0_0 x7_1) + 4294967296)) - t417)) - x6_1)) 4294967296)] (fun _ => True) (fun _ => False) rfl rfl ?aP (fun _ hk => hk.elim) ?aF ?aO ?aB ?aS ?aL ?_; (case aP => exact rfl); (case aB => exact (hb3_ HB.out GE413.out GE414.out GE415.out)); (case aF => exact (fun _ _ => trivial)); (case aO => exact (kr_ HO_5.out)); (case aS => exact (below_size (hb3_ HB.out GE413.out GE414.out GE415.out))); (case aL => have := LMc9.out; omega); intro v419 w15 ho hb hg hat; rw [← Ny418.out] at ho; have n0_ := A_ (blk_grown (g := gb413) (o := .cells #[.slice (some ad416) l0_0.length c0_0] 63 (0, 0)) (bk_ BK413.out) hg (Kd.R_ne HO_5.out BK413.out (by decide))); have n1_ := A_ (blk_grown (g := gb414) (o := .cells #[.slice A1_0 l1_0.length c1_0] 63 (0, 0)) (bk_ BK414.out) hg (Kd.R_ne HO_5.out BK414.out (by decide))); have n2_ := A_ (blk_grown (g := gb415) (o := .cells #[.slice none 0 0] 63 (0, 0)) (bk_ BK415.out) hg (Kd.R_ne HO_5.out BK415.out (by decide))); have n3_ := A_ (hb); have n4_ := A_ (ho); clear BK413; clear BK414; clear BK415; clear HB; clear HO_5; have BK413 := n0_; have BK414 := n1_; have BK415 := n2_; have HB := n3_; have HO420 := n4_; clear n0_ n1_ n2_ n3_ n4_; clear ho hb hg hat)); try go_wp2_with (first | (go_at_call 93; (with_reducible refine (r1_at.calls _ _ l1_0 x7_1 t417 _ ?side1 ?side2 A8.out).mono ?_); (case side1 => repeat (first | exact (Kd.C_below HR1_0.out HB.out) | (with_reducible refine Kd.C_alloc ?_ _) | (with_reducible refine Kd.C_drewN ?_ _) | (with_reducible refine Kd.C_drew ?_))); (case side2 => exact HC1_0.out); rintro e w' ⟨rfl, ⟨nd, rfl⟩⟩; (try first | exact ⟨rfl, _, World.drewN_drewN _ _ _⟩ | exact ⟨rfl, _, Eq.trans (World.drewN_drewN _ _ _) (congrArg (World.drewN _) (Nat.add_assoc _ _ _))⟩)) | ((with_reducible refine gate_builtin (b := .append) (xs := #[.tmp 29, .tmp 32]) rfl ?_); at_builtin; refine Kd.R_append (Kd.int .u64) (w0 := w) w.heap.size rfl (.tmp 29) (.tmp 32) 30 22 (.int .u64 0) 8 rfl Try.underlying30 info22 rfl (by decide) (by omega) u5 x5_1 (Int.tmod (IntKind.u64.wrap ((IntKind.u64.wrap ((IntKind.u64.wrap ((rd l0_0 x7_1) + 4294967296)) - t417)) - x6_1)) 4294967296) [.int .u64 (Int.tmod (IntKind.u64.wrap ((IntKind.u64.wrap ((IntKind.u64.wrap ((rd l0_0 x7_1) + 4294967296)) - t417)) - x6_1)) 4294967296)] (fun _ => True) (fun _ => False) rfl rfl ?aP (fun _ hk => hk.elim) ?aF ?aO ?aB ?aS ?aL ?_; (case aP => exact rfl); (case aB => exact (hb3_ HB.out GE413.out GE414.out GE415.out)); (case aF => exact (fun _ _ => trivial)); (case aO => exact (kr_ HO_5.out)); (case aS => exact (below_size (hb3_ HB.out GE413.out GE414.out GE415.out))); (case aL => have := LMc9.out; omega); intro v419 w15 ho hb hg hat; rw [← Ny418.out] at ho; have n0_ := A_ (blk_grown (g := gb413) (o := .cells #[.slice (some ad416) l0_0.length c0_0] 63 (0, 0)) (bk_ BK413.out) hg (Kd.R_ne HO_5.out BK413.out (by decide))); have n1_ := A_ (blk_grown (g := gb414) (o := .cells #[.slice A1_0 l1_0.length c1_0] 63 (0, 0)) (bk_ BK414.out) hg (Kd.R_ne HO_5.out BK414.out (by decide))); have n2_ := A_ (blk_grown (g := gb415) (o := .cells #[.slice none 0 0] 63 (0, 0)) (bk_ BK415.out) hg (Kd.R_ne HO_5.out BK415.out (by decide))); have n3_ := A_ (hb); have n4_ := A_ (ho); clear BK413; clear BK414; clear BK415; clear HB; clear HO_5; have BK413 := n0_; have BK414 := n1_; have BK415 := n2_; have HB := n3_; have HO420 := n4_; clear n0_ n1_ n2_ n3_ n4_; clear ho hb hg hat)))
      go_roundg k1
      case measure => have := HK1.out; omega
      case rel => exact ⟨(y418), (IntKind.u64.wrap (1 - (IntKind.u64.wrap (Int.tdiv (IntKind.u64.wrap ((IntKind.u64.wrap ((IntKind.u64.wrap ((rd l0_0 x7_1) + 4294967296)) - t417)) - x6_1)) 4294967296)))), (wrap64 (x7_1 + 1)), sm_, sm_, H', ⟨by have := HK1.out; omega⟩, ⟨by (with_reducible repeat (first | apply Kd.R_alloc | apply Kd.R_drewN | apply Kd.R_drew)); exact HO420.out⟩, ⟨bk_ BK413.out⟩, ⟨bk_ BK414.out⟩, ⟨bk_ BK415.out⟩, ⟨hb3_ HB.out GE413.out GE414.out GE415.out⟩⟩
     ·rw [if_neg c9] at H
      exact absurd H (by simp)
    ·rw [if_neg c7] at H
     exact absurd H (by simp)
   ·rw [if_neg c6] at H
    have c6b0 : decide (x7_1 < (l0_0.length : Int)) = false := decide_eq_false c6
    clear c6
    replace H := ob_ H
    obtain ⟨t421, A160, H⟩ := H
    replace H : (some t421) = some r := H
    have A16 := A_ A160;clear A160
    obtain rfl := Option.some.inj H
    have hnb17 := NB413_414.out
    have hnc17 := NB414_413.out
    have hnb18 := NB413_415.out
    have hnc18 := NB415_413.out
    have hcz19_0 : wr.cell? ⟨gb413, 0, none⟩ = some (.slice A0_0 l0_0.length c0_0) := bc_ BK413.out 0
    have hfz19_0 := blk_frozen BK413.out 0
    obtain ⟨Ao20, co20, eo20⟩ := Kd.R_slice HO_5.out
    subst eo20
    go_wp2_with (first | (go_at_call 94; (with_reducible refine (r1_trim.calls k1 (fun k_ => some k_ = (.slice Ao20 x5_1.length co20 : Value).ownBlock) (.slice Ao20 x5_1.length co20) x5_1 t421 w _ ?side1 ?side2 A16.out).mono ?_); (case side1 => exact hb3_ HB.out GE413.out GE414.out GE415.out); (case side2 => exact Kd.R_tight rfl HO_5.out); rintro e w21 ⟨v422, rfl, ho0, hb, hkp⟩; have n0_ := A_ (blk_kept (bk_ BK413.out) hkp (fun hs_ => (fun e_ => (Kd.R_ne HO_5.out BK413.out (by decide)) e_) hs_)); have n1_ := A_ (blk_kept (bk_ BK414.out) hkp (fun hs_ => (fun e_ => (Kd.R_ne HO_5.out BK414.out (by decide)) e_) hs_)); have n2_ := A_ (blk_kept (bk_ BK415.out) hkp (fun hs_ => (fun e_ => (Kd.R_ne HO_5.out BK415.out (by decide)) e_) hs_)); have n3_ := A_ (Kd.R_mono (ok' := fun k_ => True) ho0 (fun k_ hk_ => trivial)); have n4_ := A_ (hb); clear BK413; clear BK414; clear BK415; clear HB; clear HO_5; have BK413 := n0_; have BK414 := n1_; have BK415 := n2_; have HO423 := n3_; have HB := n4_; clear n0_ n1_ n2_ n3_ n4_; (try clear hb); (try clear hkp); (try clear ho0); obtain ⟨Ao22, co22, eo22⟩ := Kd.R_slice HO423.out; subst eo22; have hnb23 := NB415_414.out; have hnc23 := NB414_415.out; have hcz24_0 : w21.cell? ⟨gb415, 0, none⟩ = some (.slice none 0 0) := bc_ BK415.out 0; have hfz24_0 := blk_frozen BK415.out 0))
    repeat (go_quiet (first | (go_at_call 94; (with_reducible refine (r1_trim.calls k1 (fun k_ => some k_ = (.slice Ao20 x5_1.length co20 : Value).ownBlock) (.slice Ao20 x5_1.length co20) x5_1 t421 w _ ?side1 ?side2 A16.out).mono ?_); (case side1 => exact hb3_ HB.out GE413.out GE414.out GE415.out); (case side2 => exact Kd.R_tight rfl HO_5.out); rintro e w21 ⟨v422, rfl, ho0, hb, hkp⟩; have n0_ := A_ (blk_kept (bk_ BK413.out) hkp (fun hs_ => (fun e_ => (Kd.R_ne HO_5.out BK413.out (by decide)) e_) hs_)); have n1_ := A_ (blk_kept (bk_ BK414.out) hkp (fun hs_ => (fun e_ => (Kd.R_ne HO_5.out BK414.out (by decide)) e_) hs_)); have n2_ := A_ (blk_kept (bk_ BK415.out) hkp (fun hs_ => (fun e_ => (Kd.R_ne HO_5.out BK415.out (by decide)) e_) hs_)); have n3_ := A_ (Kd.R_mono (ok' := fun k_ => True) ho0 (fun k_ hk_ => trivial)); have n4_ := A_ (hb); clear BK413; clear BK414; clear BK415; clear HB; clear HO_5; have BK413 := n0_; have BK414 := n1_; have BK415 := n2_; have HO423 := n3_; have HB := n4_; clear n0_ n1_ n2_ n3_ n4_; (try clear hb); (try clear hkp); (try clear ho0); obtain ⟨Ao22, co22, eo22⟩ := Kd.R_slice HO423.out; subst eo22; have hnb23 := NB415_414.out; have hnc23 := NB414_415.out; have hcz24_0 : w21.cell? ⟨gb415, 0, none⟩ = some (.slice none 0 0) := bc_ BK415.out 0; have hfz24_0 := blk_frozen BK415.out 0)); try go_wp2_with (first | (go_at_call 94; (with_reducible refine (r1_trim.calls k1 (fun k_ => some k_ = (.slice Ao20 x5_1.length co20 : Value).ownBlock) (.slice Ao20 x5_1.length co20) x5_1 t421 w _ ?side1 ?side2 A16.out).mono ?_); (case side1 => exact hb3_ HB.out GE413.out GE414.out GE415.out); (case side2 => exact Kd.R_tight rfl HO_5.out); rintro e w21 ⟨v422, rfl, ho0, hb, hkp⟩; have n0_ := A_ (blk_kept (bk_ BK413.out) hkp (fun hs_ => (fun e_ => (Kd.R_ne HO_5.out BK413.out (by decide)) e_) hs_)); have n1_ := A_ (blk_kept (bk_ BK414.out) hkp (fun hs_ => (fun e_ => (Kd.R_ne HO_5.out BK414.out (by decide)) e_) hs_)); have n2_ := A_ (blk_kept (bk_ BK415.out) hkp (fun hs_ => (fun e_ => (Kd.R_ne HO_5.out BK415.out (by decide)) e_) hs_)); have n3_ := A_ (Kd.R_mono (ok' := fun k_ => True) ho0 (fun k_ hk_ => trivial)); have n4_ := A_ (hb); clear BK413; clear BK414; clear BK415; clear HB; clear HO_5; have BK413 := n0_; have BK414 := n1_; have BK415 := n2_; have HO423 := n3_; have HB := n4_; clear n0_ n1_ n2_ n3_ n4_; (try clear hb); (try clear hkp); (try clear ho0); obtain ⟨Ao22, co22, eo22⟩ := Kd.R_slice HO423.out; subst eo22; have hnb23 := NB415_414.out; have hnc23 := NB414_415.out; have hcz24_0 : w21.cell? ⟨gb415, 0, none⟩ = some (.slice none 0 0) := bc_ BK415.out 0; have hfz24_0 := blk_frozen BK415.out 0)))
    refine bodyPost_ret (results_cell_row rfl _ _ gb415 63 #[.slice Ao22 t421.length co22] (0, 0) _ rfl (by (with_reducible repeat (first | refine blk_drewN ?_ _ | refine blk_drew ?_ | refine blk_alloc ?_ _)); refine blk_put (cs := #[.slice none 0 0]) ?_ 0 _ rfl; (with_reducible repeat (first | refine blk_drewN ?_ _ | refine blk_drew ?_ | refine blk_alloc ?_ _)); exact BK415.out) Try.underlying63 rfl (by kernel_rfl)) rfl ?_
    exact ⟨_, by first | rfl | (simp [errW_none, errW_some] <;> rfl) | (simp [*, errW_none, errW_some] <;> rfl), by (with_reducible repeat (first | apply Kd.R_alloc | apply Kd.R_drewN | apply Kd.R_drew)); exact Kd.R_mono (Kd.R_far (p := ⟨gb415, 0, none⟩) (Kd.R_types HO423.out BK415.out (by decide)) (fun _ hk => hk.2) (.slice Ao22 t421.length co22)) (fun _ hk => trivial), hb3_ HB.out GE413.out GE414.out GE415.out⟩
def r1_Cmp.l0 : Nat → Int → List Int → List Int → Option (Int)
 | 0, _, _, _ => none
 | k + 1, x5, x386000, x387000 => if x5 ≥ 0 then ((r1_at.f x386000 x5).bind fun t387 => ((r1_at.f x387000 x5).bind fun t388 => (if t387 < t388 then (some (-1)) else (if t387 > t388 then (some 1) else (r1_Cmp.l0 k (wrap64 (x5 - 1)) x386000 x387000))))) else (some 0)
def r1_Cmp.f (k : Nat) (l0_0 : List Int) (l1_0 : List Int) : Option (Int) := r1_Cmp.l0 k (wrap64 ((mx (l0_0.length : Int) (l1_0.length : Int)) - 1)) l0_0 l1_0
theorem r1_Cmp.mono_l : ∀ k, (∀ y0 y1 y2, LeO (r1_Cmp.l0 k y0 y1 y2) (r1_Cmp.l0 (k + 1) y0 y1 y2))
 | 0 => fun _ _ _ r h => by simp [r1_Cmp.l0] at h
 | k + 1 => by
  have ih0 := r1_Cmp.mono_l k
  ·intro y0 y1 y2
   unfold r1_Cmp.l0
   repeat' first
   | (with_reducible exact ih0 _ _ _)
   | (with_reducible exact LeO.refl _)
   | (with_reducible exact LeO.none _)
   | (with_reducible refine LeO.ite ?_ ?_)
   | (with_reducible refine LeO.bind ?_ (fun _ => ?_))
   | exact ih0 _ _ _
   | exact LeO.none _
   | refine LeO.ite ?_ ?_
   | refine LeO.bind ?_ (fun _ => ?_)
theorem r1_Cmp.mono : ∀ a0 a1 k, LeO (r1_Cmp.f k a0 a1) (r1_Cmp.f (k + 1) a0 a1) := by
 intro a0 a1 k
 have ih0 := r1_Cmp.mono_l k
 unfold r1_Cmp.f
 repeat' first
   | (with_reducible exact ih0 _ _ _)
   | (with_reducible exact LeO.refl _)
   | (with_reducible exact LeO.none _)
   | (with_reducible refine LeO.ite ?_ ?_)
   | (with_reducible refine LeO.bind ?_ (fun _ => ?_))
   | exact ih0 _ _ _
   | exact LeO.none _
   | refine LeO.ite ?_ ?_
   | refine LeO.bind ?_ (fun _ => ?_)
theorem r1_Cmp.calls (k : Nat) (A0_0 : Option Addr) (c0_0 : Nat) (l0_0 : List Int) (A1_0 : Option Addr) (c1_0 : Nat) (l1_0 : List Int) (r : Int) (w : World) (hr0_0 : Kd.C (Kd.int .u64) w A0_0 l0_0.length l0_0) (hc0_0 : l0_0.length ≤ c0_0) (hr1_0 : Kd.C (Kd.int .u64) w A1_0 l1_0.length l1_0) (hc1_0 : l1_0.length ≤ c1_0) (h : r1_Cmp.f k l0_0 l1_0 = some r) :
  Calls Try.prog 113 #[.agg #[.slice A0_0 l0_0.length c0_0], .agg #[.slice A1_0 l1_0.length c1_0]] w fun e w' => e = .returned (.int .i64 r) ∧ Below w.heap.size w w' := by
 have hu63 := Try.underlying63
 have HR0_0 := A_ hr0_0;have HC0_0 := A_ hc0_0;clear hr0_0 hc0_0;have HR1_0 := A_ hr1_0;have HC1_0 := A_ hc1_0;clear hr1_0 hc1_0
 have HB := A_ (Below.refl w.heap.size w)
 have H : (r1_Cmp.l0 k (wrap64 ((mx (l0_0.length : Int) (l1_0.length : Int)) - 1)) l0_0 l1_0) = some r := h
 clear h
 obtain ⟨ji3, hji3⟩ : ∃ j_ : Int, (mx (l0_0.length : Int) (l1_0.length : Int)) = j_ := ⟨_, rfl⟩
 replace H : (r1_Cmp.l0 k (wrap64 ((ji3) - 1)) l0_0 l1_0) = some r := by first | (rw [hji3] at H; exact H) | (simp only [hji3] at H ⊢; exact H)
 (try (have hji3l : 0 ≤ ji3 := by (rw [← hji3]; unfold mx; (repeat' split) <;> omega)))
 (try (have hji3m : 0 ≤ ji3 := by omega))
 have hji3_ : (if (l0_0.length : Int) < (l1_0.length : Int) then (l1_0.length : Int) else (l0_0.length : Int)) = ji3 := hji3
 have hji3n_ : (if l0_0.length < l1_0.length then (l1_0.length : Int) else (l0_0.length : Int)) = ji3 := by have h_ := hji3_; simpa only [Int.ofNat_lt] using h_
 have H' := A_ H
 clear H
 go_enter Try.func113, Try.ntmps113
 go_wp2_with (first | ((with_reducible refine gate_dst (N := 2) rfl ?_); refine be_ 2 #[.slice A0_0 l0_0.length c0_0] 63 ?_; intro gb385 hg w4 hbox hb; have n0_ := A_ (below_step (hb_ HB.out) hb); have n1_ := A_ (hbox); have n2_ := A_ (sz_ hg (hb_ HB.out)); have n3_ := A_ (sz_ hg (hb_ HB.out)); clear HB; have HB := n0_; have BK385 := n1_; have GW385 := n2_; have GE385 := n3_; clear n0_ n1_ n2_ n3_; clear hb hbox hg) | ((with_reducible refine gate_dst (N := 3) rfl ?_); refine be_ 3 #[.slice A1_0 l1_0.length c1_0] 63 ?_; intro gb386 hg w5 hbox hb; have n0_ := A_ (bb_ BK385.out hb); have n1_ := A_ (below_step (hb1_ HB.out GE385.out) hb); have n2_ := A_ (hbox); have n3_ := A_ (sz_ hg (hb1_ HB.out GE385.out)); have n4_ := A_ (sz_ hg (hb1_ HB.out GE385.out)); have n5_ := A_ (nl_ hg BK385.out); have n6_ := A_ (ng_ hg BK385.out); clear BK385; clear HB; have BK385 := n0_; have HB := n1_; have BK386 := n2_; have GW386 := n3_; have GE386 := n4_; have NB385_386 := n5_; have NB386_385 := n6_; clear n0_ n1_ n2_ n3_ n4_ n5_ n6_; clear hb hbox hg; have hnb6 := NB385_386.out; have hnc6 := NB386_385.out; have hcz7_0 : w5.cell? ⟨gb385, 0, none⟩ = some (.slice A0_0 l0_0.length c0_0) := bc_ BK385.out 0; have hfz7_0 := blk_frozen BK385.out 0; have hcz8_0 : w5.cell? ⟨gb386, 0, none⟩ = some (.slice A1_0 l1_0.length c1_0) := bc_ BK386.out 0; have hfz8_0 := blk_frozen BK386.out 0))
 repeat (go_quiet (first | ((with_reducible refine gate_dst (N := 2) rfl ?_); refine be_ 2 #[.slice A0_0 l0_0.length c0_0] 63 ?_; intro gb385 hg w4 hbox hb; have n0_ := A_ (below_step (hb_ HB.out) hb); have n1_ := A_ (hbox); have n2_ := A_ (sz_ hg (hb_ HB.out)); have n3_ := A_ (sz_ hg (hb_ HB.out)); clear HB; have HB := n0_; have BK385 := n1_; have GW385 := n2_; have GE385 := n3_; clear n0_ n1_ n2_ n3_; clear hb hbox hg) | ((with_reducible refine gate_dst (N := 3) rfl ?_); refine be_ 3 #[.slice A1_0 l1_0.length c1_0] 63 ?_; intro gb386 hg w5 hbox hb; have n0_ := A_ (bb_ BK385.out hb); have n1_ := A_ (below_step (hb1_ HB.out GE385.out) hb); have n2_ := A_ (hbox); have n3_ := A_ (sz_ hg (hb1_ HB.out GE385.out)); have n4_ := A_ (sz_ hg (hb1_ HB.out GE385.out)); have n5_ := A_ (nl_ hg BK385.out); have n6_ := A_ (ng_ hg BK385.out); clear BK385; clear HB; have BK385 := n0_; have HB := n1_; have BK386 := n2_; have GW386 := n3_; have GE386 := n4_; have NB385_386 := n5_; have NB386_385 := n6_; clear n0_ n1_ n2_ n3_ n4_ n5_ n6_; clear hb hbox hg; have hnb6 := NB385_386.out; have hnc6 := NB386_385.out; have hcz7_0 : w5.cell? ⟨gb385, 0, none⟩ = some (.slice A0_0 l0_0.length c0_0) := bc_ BK385.out 0; have hfz7_0 := blk_frozen BK385.out 0; have hcz8_0 : w5.cell? ⟨gb386, 0, none⟩ = some (.slice A1_0 l1_0.length c1_0) := bc_ BK386.out 0; have hfz8_0 := blk_frozen BK386.out 0)); try go_wp2_with (first | ((with_reducible refine gate_dst (N := 2) rfl ?_); refine be_ 2 #[.slice A0_0 l0_0.length c0_0] 63 ?_; intro gb385 hg w4 hbox hb; have n0_ := A_ (below_step (hb_ HB.out) hb); have n1_ := A_ (hbox); have n2_ := A_ (sz_ hg (hb_ HB.out)); have n3_ := A_ (sz_ hg (hb_ HB.out)); clear HB; have HB := n0_; have BK385 := n1_; have GW385 := n2_; have GE385 := n3_; clear n0_ n1_ n2_ n3_; clear hb hbox hg) | ((with_reducible refine gate_dst (N := 3) rfl ?_); refine be_ 3 #[.slice A1_0 l1_0.length c1_0] 63 ?_; intro gb386 hg w5 hbox hb; have n0_ := A_ (bb_ BK385.out hb); have n1_ := A_ (below_step (hb1_ HB.out GE385.out) hb); have n2_ := A_ (hbox); have n3_ := A_ (sz_ hg (hb1_ HB.out GE385.out)); have n4_ := A_ (sz_ hg (hb1_ HB.out GE385.out)); have n5_ := A_ (nl_ hg BK385.out); have n6_ := A_ (ng_ hg BK385.out); clear BK385; clear HB; have BK385 := n0_; have HB := n1_; have BK386 := n2_; have GW386 := n3_; have GE386 := n4_; have NB385_386 := n5_; have NB386_385 := n6_; clear n0_ n1_ n2_ n3_ n4_ n5_ n6_; clear hb hbox hg; have hnb6 := NB385_386.out; have hnc6 := NB386_385.out; have hcz7_0 : w5.cell? ⟨gb385, 0, none⟩ = some (.slice A0_0 l0_0.length c0_0) := bc_ BK385.out 0; have hfz7_0 := blk_frozen BK385.out 0; have hcz8_0 : w5.cell? ⟨gb386, 0, none⟩ = some (.slice A1_0 l1_0.length c1_0) := bc_ BK386.out 0; have hfz8_0 := blk_frozen BK386.out 0)))
 go_loopg [5] k (fun kq v5 w' => ∃ (x5_1 : Int), v5 = .int .i64 x5_1 ∧ Aside0 (r1_Cmp.l0 kq x5_1 l0_0 l1_0 = some r) ∧ Aside0 (kq ≤ k) ∧ Aside0 (w'.heap[gb385]? = some (.cells #[(.slice A0_0 l0_0.length c0_0)] 63 (0, 0))) ∧ Aside0 (w'.heap[gb386]? = some (.cells #[(.slice A1_0 l1_0.length c1_0)] 63 (0, 0))) ∧ Aside0 (Below w.heap.size w w'))
 case atStart => exact ⟨(wrap64 ((ji3) - 1)), (by first | rfl | (simp; done) | (simp only [← hji3] <;> (first | rfl | simp)) | (simp [*]; done)), H', ⟨Nat.le_refl _⟩, ⟨bk_ BK385.out⟩, ⟨bk_ BK386.out⟩, ⟨hb2_ HB.out GE385.out GE386.out⟩⟩
 case round =>
  clear H'
  try clear c1
  try clear p2
  try clear c6
  try clear p6
  try clear hcz7_0
  try clear hcz8_0
  try clear hfz7_0
  try clear hfz8_0
  obtain ⟨x5_1, rfl, HA, HK1, BK385, BK386, HB⟩ := hrel
  cases gk with
  | zero => exact absurd HA.out (by simp [r1_Cmp.l0])
  | succ k1 =>
   have H := HA.out
   clear HA
   simp only [r1_Cmp.l0] at H
   by_cases c9 : x5_1 ≥ 0
   ·rw [if_pos c9] at H
    have c9b0 : decide (0 ≤ x5_1) = true := decide_eq_true c9
    clear c9
    replace H := ob_ H
    obtain ⟨t387, A100, H⟩ := H
    replace H : ((r1_at.f l1_0 x5_1).bind fun t388 => (if t387 < t388 then (some (-1)) else (if t387 > t388 then (some 1) else (r1_Cmp.l0 k1 (wrap64 (x5_1 - 1)) l0_0 l1_0)))) = some r := H
    have A10 := A_ A100;clear A100
    replace H := ob_ H
    obtain ⟨t388, A110, H⟩ := H
    replace H : (if t387 < t388 then (some (-1)) else (if t387 > t388 then (some 1) else (r1_Cmp.l0 k1 (wrap64 (x5_1 - 1)) l0_0 l1_0))) = some r := H
    have A11 := A_ A110;clear A110
    by_cases c12 : t387 < t388
    ·rw [if_pos c12] at H
     have c12b0 : decide (t387 < t388) = true := decide_eq_true c12
     clear c12
     obtain rfl := Option.some.inj H
     have hnb13 := NB385_386.out
     have hnc13 := NB386_385.out
     have hcz14_0 : wr.cell? ⟨gb385, 0, none⟩ = some (.slice A0_0 l0_0.length c0_0) := bc_ BK385.out 0
     have hfz14_0 := blk_frozen BK385.out 0
     go_wp2_with (first | (go_at_call 93; (with_reducible refine (r1_at.calls _ _ l0_0 x5_1 t387 _ ?side1 ?side2 A10.out).mono ?_); (case side1 => repeat (first | exact (Kd.C_below HR0_0.out HB.out) | (with_reducible refine Kd.C_alloc ?_ _) | (with_reducible refine Kd.C_drewN ?_ _) | (with_reducible refine Kd.C_drew ?_))); (case side2 => exact HC0_0.out); rintro e w' ⟨rfl, ⟨nd, rfl⟩⟩; (try first | exact ⟨rfl, _, World.drewN_drewN _ _ _⟩ | exact ⟨rfl, _, Eq.trans (World.drewN_drewN _ _ _) (congrArg (World.drewN _) (Nat.add_assoc _ _ _))⟩); have hcz15_0 : wr.cell? ⟨gb386, 0, none⟩ = some (.slice A1_0 l1_0.length c1_0) := bc_ BK386.out 0; have hfz15_0 := blk_frozen BK386.out 0) | (go_at_call 93; (with_reducible refine (r1_at.calls _ _ l1_0 x5_1 t388 _ ?side1 ?side2 A11.out).mono ?_); (case side1 => repeat (first | exact (Kd.C_below HR1_0.out (hb2_ HB.out GE385.out GE386.out)) | (with_reducible refine Kd.C_alloc ?_ _) | (with_reducible refine Kd.C_drewN ?_ _) | (with_reducible refine Kd.C_drew ?_))); (case side2 => exact HC1_0.out); rintro e w' ⟨rfl, ⟨nd, rfl⟩⟩; (try first | exact ⟨rfl, _, World.drewN_drewN _ _ _⟩ | exact ⟨rfl, _, Eq.trans (World.drewN_drewN _ _ _) (congrArg (World.drewN _) (Nat.add_assoc _ _ _))⟩)))
     repeat (go_quiet (first | (go_at_call 93; (with_reducible refine (r1_at.calls _ _ l0_0 x5_1 t387 _ ?side1 ?side2 A10.out).mono ?_); (case side1 => repeat (first | exact (Kd.C_below HR0_0.out HB.out) | (with_reducible refine Kd.C_alloc ?_ _) | (with_reducible refine Kd.C_drewN ?_ _) | (with_reducible refine Kd.C_drew ?_))); (case side2 => exact HC0_0.out); rintro e w' ⟨rfl, ⟨nd, rfl⟩⟩; (try first | exact ⟨rfl, _, World.drewN_drewN _ _ _⟩ | exact ⟨rfl, _, Eq.trans (World.drewN_drewN _ _ _) (congrArg (World.drewN _) (Nat.add_assoc _ _ _))⟩); have hcz15_0 : wr.cell? ⟨gb386, 0, none⟩ = some (.slice A1_0 l1_0.length c1_0) := bc_ BK386.out 0; have hfz15_0 := blk_frozen BK386.out 0) | (go_at_call 93; (with_reducible refine (r1_at.calls _ _ l1_0 x5_1 t388 _ ?side1 ?side2 A11.out).mono ?_); (case side1 => repeat (first | exact (Kd.C_below HR1_0.out (hb2_ HB.out GE385.out GE386.out)) | (with_reducible refine Kd.C_alloc ?_ _) | (with_reducible refine Kd.C_drewN ?_ _) | (with_reducible refine Kd.C_drew ?_))); (case side2 => exact HC1_0.out); rintro e w' ⟨rfl, ⟨nd, rfl⟩⟩; (try first | exact ⟨rfl, _, World.drewN_drewN _ _ _⟩ | exact ⟨rfl, _, Eq.trans (World.drewN_drewN _ _ _) (congrArg (World.drewN _) (Nat.add_assoc _ _ _))⟩))); try go_wp2_with (first | (go_at_call 93; (with_reducible refine (r1_at.calls _ _ l0_0 x5_1 t387 _ ?side1 ?side2 A10.out).mono ?_); (case side1 => repeat (first | exact (Kd.C_below HR0_0.out HB.out) | (with_reducible refine Kd.C_alloc ?_ _) | (with_reducible refine Kd.C_drewN ?_ _) | (with_reducible refine Kd.C_drew ?_))); (case side2 => exact HC0_0.out); rintro e w' ⟨rfl, ⟨nd, rfl⟩⟩; (try first | exact ⟨rfl, _, World.drewN_drewN _ _ _⟩ | exact ⟨rfl, _, Eq.trans (World.drewN_drewN _ _ _) (congrArg (World.drewN _) (Nat.add_assoc _ _ _))⟩); have hcz15_0 : wr.cell? ⟨gb386, 0, none⟩ = some (.slice A1_0 l1_0.length c1_0) := bc_ BK386.out 0; have hfz15_0 := blk_frozen BK386.out 0) | (go_at_call 93; (with_reducible refine (r1_at.calls _ _ l1_0 x5_1 t388 _ ?side1 ?side2 A11.out).mono ?_); (case side1 => repeat (first | exact (Kd.C_below HR1_0.out (hb2_ HB.out GE385.out GE386.out)) | (with_reducible refine Kd.C_alloc ?_ _) | (with_reducible refine Kd.C_drewN ?_ _) | (with_reducible refine Kd.C_drew ?_))); (case side2 => exact HC1_0.out); rintro e w' ⟨rfl, ⟨nd, rfl⟩⟩; (try first | exact ⟨rfl, _, World.drewN_drewN _ _ _⟩ | exact ⟨rfl, _, Eq.trans (World.drewN_drewN _ _ _) (congrArg (World.drewN _) (Nat.add_assoc _ _ _))⟩))))
     go_ret
     exact ⟨by first | rfl | (simp [errW_none, errW_some] <;> rfl) | (simp only [← hji3]; first | rfl | (simp [errW_none, errW_some] <;> rfl)) | (simp [*, errW_none, errW_some] <;> rfl), hb2_ HB.out GE385.out GE386.out⟩
    ·rw [if_neg c12] at H
     have c12b0 : decide (t387 < t388) = false := decide_eq_false c12
     clear c12
     by_cases c16 : t387 > t388
     ·rw [if_pos c16] at H
      have c16b0 : decide (t388 < t387) = true := decide_eq_true c16
      clear c16
      obtain rfl := Option.some.inj H
      have hnb17 := NB385_386.out
      have hnc17 := NB386_385.out
      have hcz18_0 : wr.cell? ⟨gb385, 0, none⟩ = some (.slice A0_0 l0_0.length c0_0) := bc_ BK385.out 0
      have hfz18_0 := blk_frozen BK385.out 0
      go_wp2_with (first | (go_at_call 93; (with_reducible refine (r1_at.calls _ _ l0_0 x5_1 t387 _ ?side1 ?side2 A10.out).mono ?_); (case side1 => repeat (first | exact (Kd.C_below HR0_0.out HB.out) | (with_reducible refine Kd.C_alloc ?_ _) | (with_reducible refine Kd.C_drewN ?_ _) | (with_reducible refine Kd.C_drew ?_))); (case side2 => exact HC0_0.out); rintro e w' ⟨rfl, ⟨nd, rfl⟩⟩; (try first | exact ⟨rfl, _, World.drewN_drewN _ _ _⟩ | exact ⟨rfl, _, Eq.trans (World.drewN_drewN _ _ _) (congrArg (World.drewN _) (Nat.add_assoc _ _ _))⟩); have hcz19_0 : wr.cell? ⟨gb386, 0, none⟩ = some (.slice A1_0 l1_0.length c1_0) := bc_ BK386.out 0; have hfz19_0 := blk_frozen BK386.out 0) | (go_at_call 93; (with_reducible refine (r1_at.calls _ _ l1_0 x5_1 t388 _ ?side1 ?side2 A11.out).mono ?_); (case side1 => repeat (first | exact (Kd.C_below HR1_0.out (hb2_ HB.out GE385.out GE386.out)) | (with_reducible refine Kd.C_alloc ?_ _) | (with_reducible refine Kd.C_drewN ?_ _) | (with_reducible refine Kd.C_drew ?_))); (case side2 => exact HC1_0.out); rintro e w' ⟨rfl, ⟨nd, rfl⟩⟩; (try first | exact ⟨rfl, _, World.drewN_drewN _ _ _⟩ | exact ⟨rfl, _, Eq.trans (World.drewN_drewN _ _ _) (congrArg (World.drewN _) (Nat.add_assoc _ _ _))⟩)))
      repeat (go_quiet (first | (go_at_call 93; (with_reducible refine (r1_at.calls _ _ l0_0 x5_1 t387 _ ?side1 ?side2 A10.out).mono ?_); (case side1 => repeat (first | exact (Kd.C_below HR0_0.out HB.out) | (with_reducible refine Kd.C_alloc ?_ _) | (with_reducible refine Kd.C_drewN ?_ _) | (with_reducible refine Kd.C_drew ?_))); (case side2 => exact HC0_0.out); rintro e w' ⟨rfl, ⟨nd, rfl⟩⟩; (try first | exact ⟨rfl, _, World.drewN_drewN _ _ _⟩ | exact ⟨rfl, _, Eq.trans (World.drewN_drewN _ _ _) (congrArg (World.drewN _) (Nat.add_assoc _ _ _))⟩); have hcz19_0 : wr.cell? ⟨gb386, 0, none⟩ = some (.slice A1_0 l1_0.length c1_0) := bc_ BK386.out 0; have hfz19_0 := blk_frozen BK386.out 0) | (go_at_call 93; (with_reducible refine (r1_at.calls _ _ l1_0 x5_1 t388 _ ?side1 ?side2 A11.out).mono ?_); (case side1 => repeat (first | exact (Kd.C_below HR1_0.out (hb2_ HB.out GE385.out GE386.out)) | (with_reducible refine Kd.C_alloc ?_ _) | (with_reducible refine Kd.C_drewN ?_ _) | (with_reducible refine Kd.C_drew ?_))); (case side2 => exact HC1_0.out); rintro e w' ⟨rfl, ⟨nd, rfl⟩⟩; (try first | exact ⟨rfl, _, World.drewN_drewN _ _ _⟩ | exact ⟨rfl, _, Eq.trans (World.drewN_drewN _ _ _) (congrArg (World.drewN _) (Nat.add_assoc _ _ _))⟩))); try go_wp2_with (first | (go_at_call 93; (with_reducible refine (r1_at.calls _ _ l0_0 x5_1 t387 _ ?side1 ?side2 A10.out).mono ?_); (case side1 => repeat (first | exact (Kd.C_below HR0_0.out HB.out) | (with_reducible refine Kd.C_alloc ?_ _) | (with_reducible refine Kd.C_drewN ?_ _) | (with_reducible refine Kd.C_drew ?_))); (case side2 => exact HC0_0.out); rintro e w' ⟨rfl, ⟨nd, rfl⟩⟩; (try first | exact ⟨rfl, _, World.drewN_drewN _ _ _⟩ | exact ⟨rfl, _, Eq.trans (World.drewN_drewN _ _ _) (congrArg (World.drewN _) (Nat.add_assoc _ _ _))⟩); have hcz19_0 : wr.cell? ⟨gb386, 0, none⟩ = some (.slice A1_0 l1_0.length c1_0) := bc_ BK386.out 0; have hfz19_0 := blk_frozen BK386.out 0) | (go_at_call 93; (with_reducible refine (r1_at.calls _ _ l1_0 x5_1 t388 _ ?side1 ?side2 A11.out).mono ?_); (case side1 => repeat (first | exact (Kd.C_below HR1_0.out (hb2_ HB.out GE385.out GE386.out)) | (with_reducible refine Kd.C_alloc ?_ _) | (with_reducible refine Kd.C_drewN ?_ _) | (with_reducible refine Kd.C_drew ?_))); (case side2 => exact HC1_0.out); rintro e w' ⟨rfl, ⟨nd, rfl⟩⟩; (try first | exact ⟨rfl, _, World.drewN_drewN _ _ _⟩ | exact ⟨rfl, _, Eq.trans (World.drewN_drewN _ _ _) (congrArg (World.drewN _) (Nat.add_assoc _ _ _))⟩))))
      go_ret
      exact ⟨by first | rfl | (simp [errW_none, errW_some] <;> rfl) | (simp only [← hji3]; first | rfl | (simp [errW_none, errW_some] <;> rfl)) | (simp [*, errW_none, errW_some] <;> rfl), hb2_ HB.out GE385.out GE386.out⟩
     ·rw [if_neg c16] at H
      have c16b0 : decide (t388 < t387) = false := decide_eq_false c16
      clear c16
      have H' := A_ H
      clear H
      have hnb20 := NB385_386.out
      have hnc20 := NB386_385.out
      have hcz21_0 : wr.cell? ⟨gb385, 0, none⟩ = some (.slice A0_0 l0_0.length c0_0) := bc_ BK385.out 0
      have hfz21_0 := blk_frozen BK385.out 0
      go_wp2_with (first | (go_at_call 93; (with_reducible refine (r1_at.calls _ _ l0_0 x5_1 t387 _ ?side1 ?side2 A10.out).mono ?_); (case side1 => repeat (first | exact (Kd.C_below HR0_0.out HB.out) | (with_reducible refine Kd.C_alloc ?_ _) | (with_reducible refine Kd.C_drewN ?_ _) | (with_reducible refine Kd.C_drew ?_))); (case side2 => exact HC0_0.out); rintro e w' ⟨rfl, ⟨nd, rfl⟩⟩; (try first | exact ⟨rfl, _, World.drewN_drewN _ _ _⟩ | exact ⟨rfl, _, Eq.trans (World.drewN_drewN _ _ _) (congrArg (World.drewN _) (Nat.add_assoc _ _ _))⟩); have hcz22_0 : wr.cell? ⟨gb386, 0, none⟩ = some (.slice A1_0 l1_0.length c1_0) := bc_ BK386.out 0; have hfz22_0 := blk_frozen BK386.out 0) | (go_at_call 93; (with_reducible refine (r1_at.calls _ _ l1_0 x5_1 t388 _ ?side1 ?side2 A11.out).mono ?_); (case side1 => repeat (first | exact (Kd.C_below HR1_0.out (hb2_ HB.out GE385.out GE386.out)) | (with_reducible refine Kd.C_alloc ?_ _) | (with_reducible refine Kd.C_drewN ?_ _) | (with_reducible refine Kd.C_drew ?_))); (case side2 => exact HC1_0.out); rintro e w' ⟨rfl, ⟨nd, rfl⟩⟩; (try first | exact ⟨rfl, _, World.drewN_drewN _ _ _⟩ | exact ⟨rfl, _, Eq.trans (World.drewN_drewN _ _ _) (congrArg (World.drewN _) (Nat.add_assoc _ _ _))⟩)))
      repeat (go_quiet (first | (go_at_call 93; (with_reducible refine (r1_at.calls _ _ l0_0 x5_1 t387 _ ?side1 ?side2 A10.out).mono ?_); (case side1 => repeat (first | exact (Kd.C_below HR0_0.out HB.out) | (with_reducible refine Kd.C_alloc ?_ _) | (with_reducible refine Kd.C_drewN ?_ _) | (with_reducible refine Kd.C_drew ?_))); (case side2 => exact HC0_0.out); rintro e w' ⟨rfl, ⟨nd, rfl⟩⟩; (try first | exact ⟨rfl, _, World.drewN_drewN _ _ _⟩ | exact ⟨rfl, _, Eq.trans (World.drewN_drewN _ _ _) (congrArg (World.drewN _) (Nat.add_assoc _ _ _))⟩); have hcz22_0 : wr.cell? ⟨gb386, 0, none⟩ = some (.slice A1_0 l1_0.length c1_0) := bc_ BK386.out 0; have hfz22_0 := blk_frozen BK386.out 0) | (go_at_call 93; (with_reducible refine (r1_at.calls _ _ l1_0 x5_1 t388 _ ?side1 ?side2 A11.out).mono ?_); (case side1 => repeat (first | exact (Kd.C_below HR1_0.out (hb2_ HB.out GE385.out GE386.out)) | (with_reducible refine Kd.C_alloc ?_ _) | (with_reducible refine Kd.C_drewN ?_ _) | (with_reducible refine Kd.C_drew ?_))); (case side2 => exact HC1_0.out); rintro e w' ⟨rfl, ⟨nd, rfl⟩⟩; (try first | exact ⟨rfl, _, World.drewN_drewN _ _ _⟩ | exact ⟨rfl, _, Eq.trans (World.drewN_drewN _ _ _) (congrArg (World.drewN _) (Nat.add_assoc _ _ _))⟩))); try go_wp2_with (first | (go_at_call 93; (with_reducible refine (r1_at.calls _ _ l0_0 x5_1 t387 _ ?side1 ?side2 A10.out).mono ?_); (case side1 => repeat (first | exact (Kd.C_below HR0_0.out HB.out) | (with_reducible refine Kd.C_alloc ?_ _) | (with_reducible refine Kd.C_drewN ?_ _) | (with_reducible refine Kd.C_drew ?_))); (case side2 => exact HC0_0.out); rintro e w' ⟨rfl, ⟨nd, rfl⟩⟩; (try first | exact ⟨rfl, _, World.drewN_drewN _ _ _⟩ | exact ⟨rfl, _, Eq.trans (World.drewN_drewN _ _ _) (congrArg (World.drewN _) (Nat.add_assoc _ _ _))⟩); have hcz22_0 : wr.cell? ⟨gb386, 0, none⟩ = some (.slice A1_0 l1_0.length c1_0) := bc_ BK386.out 0; have hfz22_0 := blk_frozen BK386.out 0) | (go_at_call 93; (with_reducible refine (r1_at.calls _ _ l1_0 x5_1 t388 _ ?side1 ?side2 A11.out).mono ?_); (case side1 => repeat (first | exact (Kd.C_below HR1_0.out (hb2_ HB.out GE385.out GE386.out)) | (with_reducible refine Kd.C_alloc ?_ _) | (with_reducible refine Kd.C_drewN ?_ _) | (with_reducible refine Kd.C_drew ?_))); (case side2 => exact HC1_0.out); rintro e w' ⟨rfl, ⟨nd, rfl⟩⟩; (try first | exact ⟨rfl, _, World.drewN_drewN _ _ _⟩ | exact ⟨rfl, _, Eq.trans (World.drewN_drewN _ _ _) (congrArg (World.drewN _) (Nat.add_assoc _ _ _))⟩))))
      go_roundg k1
      case measure => have := HK1.out; omega
      case rel => exact ⟨(wrap64 (x5_1 - 1)), sm_, H', ⟨by have := HK1.out; omega⟩, ⟨bk_ BK385.out⟩, ⟨bk_ BK386.out⟩, ⟨hb2_ HB.out GE385.out GE386.out⟩⟩
   ·rw [if_neg c9] at H
    have c9b0 : decide (0 ≤ x5_1) = false := decide_eq_false c9
    clear c9
    obtain rfl := Option.some.inj H
    go_wp2
    repeat (go_quiet (fail); try go_wp2)
    go_ret
    exact ⟨by first | rfl | (simp [errW_none, errW_some] <;> rfl) | (simp only [← hji3]; first | rfl | (simp [errW_none, errW_some] <;> rfl)) | (simp [*, errW_none, errW_some] <;> rfl), hb2_ HB.out GE385.out GE386.out⟩
def r1_Len.l0 : Nat → Int → Int → Option (Int)
 | 0, _, _ => none
 | k + 1, x3, x4 => if x4 > 0 then (r1_Len.l0 k (wrap64 (x3 + 1)) (IntKind.u64.wrap (Int.tdiv x4 2))) else (some x3)
def r1_Len.f (k : Nat) (l0_0 : List Int) : Option (Int) := if (l0_0.length : Int) = 0 then (some 0) else (if 0 ≤ (wrap64 ((l0_0.length : Int) - 1)) then (if (wrap64 ((l0_0.length : Int) - 1)) < (l0_0.length : Int) then (r1_Len.l0 k (wrap64 (32 * (wrap64 ((l0_0.length : Int) - 1)))) (rd l0_0 (wrap64 ((l0_0.length : Int) - 1)))) else (none)) else (none))
theorem r1_Len.mono_l : ∀ k, (∀ y0 y1, LeO (r1_Len.l0 k y0 y1) (r1_Len.l0 (k + 1) y0 y1))
 | 0 => fun _ _ r h => by simp [r1_Len.l0] at h
 | k + 1 => by
  have ih0 := r1_Len.mono_l k
  ·intro y0 y1
   unfold r1_Len.l0
   repeat' first
   | (with_reducible exact ih0 _ _)
   | (with_reducible exact LeO.refl _)
   | (with_reducible exact LeO.none _)
   | (with_reducible refine LeO.ite ?_ ?_)
   | (with_reducible refine LeO.bind ?_ (fun _ => ?_))
   | exact ih0 _ _
   | exact LeO.none _
   | refine LeO.ite ?_ ?_
   | refine LeO.bind ?_ (fun _ => ?_)
theorem r1_Len.mono : ∀ a0 k, LeO (r1_Len.f k a0) (r1_Len.f (k + 1) a0) := by
 intro a0 k
 have ih0 := r1_Len.mono_l k
 unfold r1_Len.f
 repeat' first
   | (with_reducible exact ih0 _ _)
   | (with_reducible exact LeO.refl _)
   | (with_reducible exact LeO.none _)
   | (with_reducible refine LeO.ite ?_ ?_)
   | (with_reducible refine LeO.bind ?_ (fun _ => ?_))
   | exact ih0 _ _
   | exact LeO.none _
   | refine LeO.ite ?_ ?_
   | refine LeO.bind ?_ (fun _ => ?_)
theorem r1_Len.calls (k : Nat) (A0_0 : Option Addr) (c0_0 : Nat) (l0_0 : List Int) (r : Int) (w : World) (hr0_0 : Kd.C (Kd.int .u64) w A0_0 l0_0.length l0_0) (hc0_0 : l0_0.length ≤ c0_0) (h : r1_Len.f k l0_0 = some r) :
  Calls Try.prog 96 #[.agg #[.slice A0_0 l0_0.length c0_0]] w fun e w' => e = .returned (.int .i64 r) ∧ Below w.heap.size w w' := by
 have hu63 := Try.underlying63
 have HR0_0 := A_ hr0_0;have HC0_0 := A_ hc0_0;clear hr0_0 hc0_0
 have HB := A_ (Below.refl w.heap.size w)
 have H : (if (l0_0.length : Int) = 0 then (some 0) else (if 0 ≤ (wrap64 ((l0_0.length : Int) - 1)) then (if (wrap64 ((l0_0.length : Int) - 1)) < (l0_0.length : Int) then (r1_Len.l0 k (wrap64 (32 * (wrap64 ((l0_0.length : Int) - 1)))) (rd l0_0 (wrap64 ((l0_0.length : Int) - 1)))) else (none)) else (none))) = some r := h
 clear h
 by_cases c2 : (l0_0.length : Int) = 0
 ·rw [if_pos c2] at H
  have c2b0 : ((l0_0.length : Int) == 0) = true := beq_iff_eq.mpr c2
  have c2b1 : ((l0_0.length : Int) != 0) = false := bne_eq_false_iff_eq.mpr c2
  clear c2
  obtain rfl := Option.some.inj H
  go_enter Try.func96, Try.ntmps96
  go_wp2_with (first | ((with_reducible refine gate_dst (N := 1) rfl ?_); refine be_ 1 #[.slice A0_0 l0_0.length c0_0] 63 ?_; intro gb365 hg w3 hbox hb; have n0_ := A_ (below_step (hb_ HB.out) hb); have n1_ := A_ (hbox); have n2_ := A_ (sz_ hg (hb_ HB.out)); have n3_ := A_ (sz_ hg (hb_ HB.out)); clear HB; have HB := n0_; have BK365 := n1_; have GW365 := n2_; have GE365 := n3_; clear n0_ n1_ n2_ n3_; clear hb hbox hg; have hcz4_0 : w3.cell? ⟨gb365, 0, none⟩ = some (.slice A0_0 l0_0.length c0_0) := bc_ BK365.out 0; have hfz4_0 := blk_frozen BK365.out 0))
  go_ret
  exact ⟨er_, hb1_ HB.out GE365.out⟩
 ·rw [if_neg c2] at H
  have c2b0 : ((l0_0.length : Int) == 0) = false := beq_eq_false_iff_ne.mpr c2
  have c2b1 : ((l0_0.length : Int) != 0) = true := bne_iff_ne.mpr c2
  have c2b2 : ¬ (l0_0 = []) := fun h_ => c2 (by rw [h_]; rfl)
  obtain ⟨ji5, hji5⟩ : ∃ j_ : Int, (wrap64 ((l0_0.length : Int) - 1)) = j_ := ⟨_, rfl⟩
  replace H : (if 0 ≤ (ji5) then (if (ji5) < (l0_0.length : Int) then (r1_Len.l0 k (wrap64 (32 * (ji5))) (rd l0_0 (ji5))) else (none)) else (none)) = some r := by first | (rw [hji5] at H; exact H) | (simp only [hji5] at H ⊢; exact H)
  have hji5w : (IntKind.i64.wrap ((l0_0.length : Int) - 1)) = ji5 := (i64_w _).trans hji5
  by_cases c6 : 0 ≤ (ji5)
  ·rw [if_pos c6] at H
   have c6b0 : decide (0 ≤ (ji5)) = true := decide_eq_true c6
   clear c6
   by_cases c7 : (ji5) < (l0_0.length : Int)
   ·rw [if_pos c7] at H
    have c7b0 : decide ((ji5) < (l0_0.length : Int)) = true := decide_eq_true c7
    clear c7
    have H' := A_ H
    clear H
    go_enter Try.func96, Try.ntmps96
    go_wp2_with (first | ((with_reducible refine gate_dst (N := 1) rfl ?_); refine be_ 1 #[.slice A0_0 l0_0.length c0_0] 63 ?_; intro gb365 hg w8 hbox hb; have n0_ := A_ (below_step (hb_ HB.out) hb); have n1_ := A_ (hbox); have n2_ := A_ (sz_ hg (hb_ HB.out)); have n3_ := A_ (sz_ hg (hb_ HB.out)); clear HB; have HB := n0_; have BK365 := n1_; have GW365 := n2_; have GE365 := n3_; clear n0_ n1_ n2_ n3_; clear hb hbox hg; have hcz9_0 : w8.cell? ⟨gb365, 0, none⟩ = some (.slice A0_0 l0_0.length c0_0) := bc_ BK365.out 0; have hfz9_0 := blk_frozen BK365.out 0; have p366 : 0 ≤ ((ji5) : Int) := of_decide_eq_true (by first | (with_reducible assumption) | assumption); have q366 : (ji5) < (l0_0.length : Int) := of_decide_eq_true (by first | (with_reducible assumption) | assumption); obtain ⟨ad366, e366, hx366_0⟩ := Kd.at_int HR0_0.out (ji5) p366 q366; cases e366; replace hx366_0 := (HB.out.cell (World.block_lt_of_cell? w _ hx366_0)).trans hx366_0; replace p366 := eq_true p366; replace q366 := eq_true q366))
    go_loopg [3, 4] k (fun kq v3 v4 w' => ∃ (x3_1 : Int) (x4_1 : Int), v3 = .int .i64 x3_1 ∧ v4 = .int .u64 x4_1 ∧ Aside0 (r1_Len.l0 kq x3_1 x4_1 = some r) ∧ Aside0 (kq ≤ k) ∧ Aside0 (w'.heap[gb365]? = some (.cells #[(.slice (some ad366) l0_0.length c0_0)] 63 (0, 0))) ∧ Aside0 (Below w.heap.size w w'))
    case atStart => exact ⟨(wrap64 (32 * (ji5))), (rd l0_0 (ji5)), (by first | rfl | (simp; done) | (simp only [← hji5] <;> (first | rfl | simp)) | (simp [*]; done)), (by first | rfl | (simp; done) | (simp only [← hji5] <;> (first | rfl | simp)) | (simp [*]; done)), H', ⟨Nat.le_refl _⟩, ⟨bk_ BK365.out⟩, ⟨hb1_ HB.out GE365.out⟩⟩
    case round =>
     clear H'
     try clear c2
     try clear c2b0
     try clear c2b1
     try clear c2b2
     try clear p2
     try clear p3
     try clear q3
     try clear hx3
     try clear c6
     try clear c6b0
     try clear p6
     try clear c7
     try clear c7b0
     try clear c9
     try clear hcz4_0
     try clear hcz9_0
     try clear hfz4_0
     try clear hfz9_0
     try clear hx366_0
     try clear p366
     try clear q366
     obtain ⟨x3_1, x4_1, rfl, rfl, HA, HK1, BK365, HB⟩ := hrel
     cases gk with
     | zero => exact absurd HA.out (by simp [r1_Len.l0])
     | succ k1 =>
      have H := HA.out
      clear HA
      simp only [r1_Len.l0] at H
      by_cases c10 : x4_1 > 0
      ·rw [if_pos c10] at H
       have c10b0 : decide (0 < x4_1) = true := decide_eq_true c10
       clear c10
       have H' := A_ H
       clear H
       go_wp2
       go_roundg k1
       case measure => have := HK1.out; omega
       case rel => exact ⟨(wrap64 (x3_1 + 1)), (IntKind.u64.wrap (Int.tdiv x4_1 2)), sm_, sm_, H', ⟨by have := HK1.out; omega⟩, ⟨bk_ BK365.out⟩, ⟨hb1_ HB.out GE365.out⟩⟩
      ·rw [if_neg c10] at H
       have c10b0 : decide (0 < x4_1) = false := decide_eq_false c10
       clear c10
       obtain rfl := Option.some.inj H
       go_wp2
       go_ret
       exact ⟨by first | rfl | (simp [errW_none, errW_some] <;> rfl) | (simp only [← hji5]; first | rfl | (simp [errW_none, errW_some] <;> rfl)) | (simp [*, errW_none, errW_some] <;> rfl), hb1_ HB.out GE365.out⟩
   ·rw [if_neg c7] at H
    exact absurd H (by simp)
  ·rw [if_neg c6] at H
   exact absurd H (by simp)
end Go.Proofs.Ytbpmnmceajmmcaa.PA
namespace Dig
def dgB (B n : Nat) : List Int := if _h : n = 0 ∨ B < 2 then [] else ((n % B : Nat) : Int) :: dgB B (n / B)
termination_by n
decreasing_by exact Nat.div_lt_self (by omega) (by omega)
def valB (B : Nat) : List Int → Nat
  | [] => 0
  | d :: l => d.toNat + B * valB B l
def OkB (B : Nat) (l : List Int) : Prop := ∀ d ∈ l, 0 ≤ d ∧ d < B
section
variable {B : Nat}
theorem dgB_zero : dgB B 0 = [] := by rw [dgB, dif_pos (.inl rfl)]
theorem dgB_pos (hB : 2 ≤ B) {n : Nat} (h : 0 < n) : dgB B n = ((n % B : Nat) : Int) :: dgB B (n / B) := by rw [dgB, dif_neg (by omega)]
theorem OkB.nil : OkB B [] := fun _ h => by cases h
theorem OkB.cons {d : Int} {l : List Int} (h : 0 ≤ d ∧ d < B) (k : OkB B l) : OkB B (d :: l) := fun x hx => by
  rcases List.mem_cons.1 hx with rfl | hx
  · exact h
  · exact k x hx
theorem OkB.snoc {d : Int} {l : List Int} (k : OkB B l) (h : 0 ≤ d ∧ d < B) : OkB B (l ++ [d]) := fun x hx => by
  rcases List.mem_append.1 hx with hx | hx
  · exact k x hx
  · rcases List.mem_singleton.1 hx with rfl; exact h
theorem OkB.head {d : Int} {l : List Int} (k : OkB B (d :: l)) : 0 ≤ d ∧ d < B := k d List.mem_cons_self
theorem OkB.tail {d : Int} {l : List Int} (k : OkB B (d :: l)) : OkB B l := fun x hx => k x (List.mem_cons_of_mem _ hx)
theorem OkB.take {l : List Int} (k : OkB B l) (i : Nat) : OkB B (l.take i) := fun x hx => k x (List.mem_of_mem_take hx)
theorem okB_dg (hB : 2 ≤ B) (n : Nat) : OkB B (dgB B n) := by
  induction n using Nat.strongRecOn with
  | _ n ih =>
    rcases Nat.eq_zero_or_pos n with h | h
    · subst h; rw [dgB_zero]; exact OkB.nil
    · rw [dgB_pos hB h]
      refine OkB.cons ⟨by omega, ?_⟩ (ih _ (Nat.div_lt_self h (by omega)))
      have := Nat.mod_lt n (show 0 < B by omega)
      omega
theorem valB_dg (hB : 2 ≤ B) (n : Nat) : valB B (dgB B n) = n := by
  induction n using Nat.strongRecOn with
  | _ n ih =>
    rcases Nat.eq_zero_or_pos n with h | h
    · subst h; rw [dgB_zero]; rfl
    · rw [dgB_pos hB h, valB, ih _ (Nat.div_lt_self h (by omega)), Int.toNat_natCast]
      exact Nat.mod_add_div n B
theorem valB_append (l m : List Int) : valB B (l ++ m) = valB B l + B ^ l.length * valB B m := by
  induction l with
  | nil => simp [valB]
  | cons d l ih =>
    simp only [List.cons_append, valB, ih, List.length_cons, Nat.pow_succ, Nat.mul_add]
    rw [Nat.add_assoc, Nat.mul_comm (B ^ l.length) B, Nat.mul_assoc]
theorem valB_snoc (l : List Int) (d : Int) : valB B (l ++ [d]) = valB B l + B ^ l.length * d.toNat := by rw [valB_append]; simp [valB]
theorem valB_lt {l : List Int} (h : OkB B l) : valB B l < B ^ l.length := by
  induction l with
  | nil => simp [valB]
  | cons d l ih =>
    have h1 := ih h.tail
    have h2 := h.head
    simp only [valB, List.length_cons, Nat.pow_succ]
    have h4 : B * (valB B l + 1) ≤ B * B ^ l.length := Nat.mul_le_mul_left _ h1
    rw [Nat.mul_add, Nat.mul_one, Nat.mul_comm B (B ^ l.length)] at h4
    have : d.toNat < B := by omega
    omega
theorem valB_zeros (n : Nat) : valB B (List.replicate n 0) = 0 := by
  induction n with
  | zero => rfl
  | succ n ih => rw [List.replicate_succ, valB, ih]; simp
theorem okB_zeros (hB : 2 ≤ B) (n : Nat) : OkB B (List.replicate n 0) := fun x hx => by
  rw [List.eq_of_mem_replicate hx]; omega
theorem atB_val (hB : 2 ≤ B) {l : List Int} (h : OkB B l) (i : Nat) : (l.getD i 0).toNat = valB B l / B ^ i % B := by
  induction l generalizing i with
  | nil => simp [valB]
  | cons d l ih =>
    have h2 := h.head
    have h3 : d.toNat < B := by omega
    cases i with
    | zero =>
      simp only [List.getD_cons_zero, valB, Nat.pow_zero, Nat.div_one, Nat.add_mul_mod_self_left]
      rw [Nat.mod_eq_of_lt h3]
    | succ i =>
      simp only [List.getD_cons_succ, valB]
      rw [ih h.tail, Nat.pow_succ, Nat.mul_comm (B ^ i) B, ← Nat.div_div_eq_div_mul, Nat.add_mul_div_left _ _ (show 0 < B by omega), Nat.div_eq_of_lt h3, Nat.zero_add]
theorem okB_getD (hB : 2 ≤ B) {l : List Int} (h : OkB B l) (i : Nat) : 0 ≤ l.getD i 0 ∧ l.getD i 0 < B := by
  rcases Nat.lt_or_ge i l.length with hi | hi
  · rw [List.getD_eq_getElem?_getD, List.getElem?_eq_getElem hi]; exact h _ (List.getElem_mem hi)
  · rw [List.getD_eq_getElem?_getD, List.getElem?_eq_none hi]; simp; omega
theorem getDB_val (hB : 2 ≤ B) {l : List Int} (h : OkB B l) (i : Nat) : l.getD i 0 = ((valB B l / B ^ i % B : Nat) : Int) := by
  have h1 := atB_val hB h i
  have h2 := okB_getD hB h i
  rw [← h1]; omega
theorem lengthB_le (hB : 2 ≤ B) {n k : Nat} (h : n < B ^ k) : (dgB B n).length ≤ k := by
  induction k generalizing n with
  | zero => obtain rfl : n = 0 := by simpa using h
            rw [dgB_zero]; simp
  | succ k ih =>
    rcases Nat.eq_zero_or_pos n with h0 | h0
    · subst h0; rw [dgB_zero]; simp
    · rw [dgB_pos hB h0, List.length_cons]
      have : n / B < B ^ k := by rw [Nat.div_lt_iff_lt_mul (by omega)]; rwa [Nat.pow_succ] at h
      have := ih this
      omega
theorem dgB_val (hB : 2 ≤ B) {l : List Int} (h : OkB B l) (h0 : ∀ d, l.getLast? = some d → d ≠ 0) : dgB B (valB B l) = l := by
  induction l with
  | nil => rw [valB, dgB_zero]
  | cons d l ih =>
    have h2 := h.head
    have h4 : d.toNat < B := by omega
    have h3 : dgB B (valB B l) = l := by
      refine ih h.tail fun e he => ?_
      cases l with
      | nil => cases he
      | cons e' l' => exact h0 e (by rwa [List.getLast?_cons_cons])
    have hp : 0 < valB B (d :: l) := by
      rw [valB]
      rcases Nat.eq_zero_or_pos (valB B l) with hv | hv
      · rw [hv, dgB_zero] at h3
        subst h3
        have := h0 d rfl
        omega
      · have : 1 ≤ B * valB B l := Nat.mul_pos (by omega) hv
        omega
    rw [dgB_pos hB hp, valB, Nat.add_mul_mod_self_left, Nat.add_mul_div_left _ _ (by omega), Nat.mod_eq_of_lt h4, Nat.div_eq_of_lt h4, Nat.zero_add, h3, Int.toNat_of_nonneg h2.1]
theorem modB_succ (n i : Nat) : n % B ^ (i + 1) = n % B ^ i + B ^ i * (n / B ^ i % B) := by
  rw [Nat.pow_succ, Nat.mod_mul]
theorem divB_step (n i : Nat) : n / B ^ i = n / B ^ (i + 1) * B + n / B ^ i % B := by
  rw [Nat.pow_succ, ← Nat.div_div_eq_div_mul]
  have := Nat.div_add_mod (n / B ^ i) B
  rw [Nat.mul_comm] at this
  omega
end
theorem W2 : 2 ≤ 4294967296 := by decide
def dg (n : Nat) : List Int := dgB 4294967296 n
def val (l : List Int) : Nat := valB 4294967296 l
def Ok (l : List Int) : Prop := ∀ d ∈ l, 0 ≤ d ∧ d < 4294967296
theorem Ok.up {l : List Int} (h : Ok l) : OkB 4294967296 l := h
theorem Ok.nil : Ok [] := fun _ h => by cases h
theorem Ok.cons {d : Int} {l : List Int} (h : 0 ≤ d ∧ d < 4294967296) (k : Ok l) : Ok (d :: l) := OkB.cons (B := 4294967296) h k
theorem Ok.snoc {d : Int} {l : List Int} (k : Ok l) (h : 0 ≤ d ∧ d < 4294967296) : Ok (l ++ [d]) := OkB.snoc (B := 4294967296) k h
theorem Ok.take {l : List Int} (k : Ok l) (i : Nat) : Ok (l.take i) := OkB.take (B := 4294967296) k i
theorem ok_zeros (n : Nat) : Ok (List.replicate n 0) := okB_zeros W2 n
theorem ok_dg (n : Nat) : Ok (dg n) := okB_dg W2 n
theorem dg_zero : dg 0 = [] := dgB_zero
theorem val_dg (n : Nat) : val (dg n) = n := valB_dg W2 n
theorem val_nil : val [] = 0 := rfl
theorem val_cons (d : Int) (l : List Int) : val (d :: l) = d.toNat + 4294967296 * val l := rfl
theorem val_snoc (l : List Int) (d : Int) : val (l ++ [d]) = val l + 4294967296 ^ l.length * d.toNat := valB_snoc l d
theorem val_lt {l : List Int} (h : Ok l) : val l < 4294967296 ^ l.length := valB_lt h
theorem val_zeros (n : Nat) : val (List.replicate n 0) = 0 := valB_zeros n
theorem dg_val {l : List Int} (h : Ok l) (h0 : ∀ d, l.getLast? = some d → d ≠ 0) : dg (val l) = l := dgB_val W2 h h0
theorem getD_val {l : List Int} (h : Ok l) (i : Nat) : l.getD i 0 = ((val l / 4294967296 ^ i % 4294967296 : Nat) : Int) := getDB_val W2 h i
theorem getD_dg (n i : Nat) : (dg n).getD i 0 = ((n / 4294967296 ^ i % 4294967296 : Nat) : Int) := by rw [getD_val (ok_dg n), val_dg]
theorem len_le {n k : Nat} (h : n < 4294967296 ^ k) : (dg n).length ≤ k := lengthB_le W2 h
theorem lt_len (n : Nat) : n < 4294967296 ^ (dg n).length := by
  have := val_lt (ok_dg n); rwa [val_dg] at this
theorem lt_of_len {n i : Nat} (h : (dg n).length ≤ i) : n < 4294967296 ^ i := Nat.lt_of_lt_of_le (lt_len n) (Nat.pow_le_pow_right (by decide) h)
theorem len_pos {n : Nat} : 0 < (dg n).length ↔ 0 < n := by
  rcases Nat.eq_zero_or_pos n with h | h
  · subst h; rw [dg_zero]; simp
  · unfold dg; rw [dgB_pos W2 h]; simp [h]
theorem mod_len {n i : Nat} (h : (dg n).length ≤ i) : n % 4294967296 ^ i = n := Nat.mod_eq_of_lt (lt_of_len h)
theorem mod_succ (n i : Nat) : n % 4294967296 ^ (i + 1) = n % 4294967296 ^ i + 4294967296 ^ i * (n / 4294967296 ^ i % 4294967296) := modB_succ n i
theorem div_step (n i : Nat) : n / 4294967296 ^ i = n / 4294967296 ^ (i + 1) * 4294967296 + n / 4294967296 ^ i % 4294967296 := divB_step n i
theorem word_lt (n i : Nat) : n / 4294967296 ^ i % 4294967296 < 4294967296 := Nat.mod_lt _ (by decide)
end Dig
