/- What the Go functions that the statement TopRoots reaches compute, and the mathematics on it, in the order in which one leans on the other; for every input. -/
import Derived.Test.YtnmlmgmljoncoaaGreatDoorVTopRoots1
import Derived.Test.YtnmlmgmljoncoaaGreatDoorMTopRoots0
import Derived.Deep.RegionHeld3
import Derived.Test.YtnmlmgmljoncoaaGreatDoorMTopRoots1
import Derived.Shelf.Spec.BitsCarry
import Derived.Deep.DeepCutAuto
import Derived.BigRegion
namespace Go.Proofs.YtnmlmgmljoncoaaGreatDoor.PA
open Go.RowKit Go.Proofs.YtnmlmgmljoncoaaGreatDoorW.PrintWords Go.Proofs.YtnmlmgmljoncoaaGreatDoorW.PrintLast Go.Proofs.YtnmlmgmljoncoaaGreatDoorW.PrintMore
attribute [local go_sem] max2_int min2_int max_two min_two max_three min_three max_four min_four   -- for this text's walks alone
set_option linter.unusedVariables false
set_option linter.unusedSimpArgs false
set_option maxHeartbeats 8000000
set_option maxRecDepth 100000
def wide_Of.f (a0 : Int) : Option (Int × Int) := some (0, a0)
theorem wide_Of.calls (a0 : Int) (r1 : Int) (r2 : Int) (w : World) (h : wide_Of.f a0 = some (r1, r2)) :
  Calls Tryz.prog 215 #[.int .u64 a0] w fun e w' => e = .returned (.agg #[.int .u64 r1, .int .u64 r2]) ∧ Below w.heap.size w w' := by
 have hu166 := Tryz.underlying166
 have HB := A_ (Below.refl w.heap.size w)
 have H : (some (0, a0)) = some (r1, r2) := h
 clear h
 simp only [Option.some.injEq, Prod.mk.injEq] at H
 obtain ⟨rfl, rfl⟩ := H
 go_enter Tryz.func215, Tryz.ntmps215
 go_wp2_with (first | ((with_reducible refine gate_dst (N := 2) rfl ?_); refine be_ 2 #[.int .u64 0, .int .u64 0] 166 ?_; intro gb247 hg w2 hbox hb; have BK247 := A_ (hbox); have GW247 := A_ (sz_ hg (hb_ HB.out)); have GE247 := A_ (sz_ hg (hb_ HB.out)); replace HB := A_ (below_step (hb_ HB.out) hb); clear hb hbox hg; have hcz3_0 := bv_ BK247.out 0; have hcz3_1 := bv_ BK247.out 1; have hfz3_0 := blk_frozen BK247.out 0; have hfz3_1 := blk_frozen BK247.out 1))
 refine bodyPost_ret (results_cell_row rfl _ _ gb247 166 #[.int .u64 0, .int .u64 a0] (0, 0) _ rfl (by (with_reducible repeat (first | refine blk_drewN ?_ _ | refine blk_drew ?_ | refine blk_alloc ?_ _)); refine blk_put (cs := #[.int .u64 0, .int .u64 0]) ?_ 1 _ rfl; (with_reducible repeat (first | refine blk_drewN ?_ _ | refine blk_drew ?_ | refine blk_alloc ?_ _)); refine blk_put (cs := #[.int .u64 0, .int .u64 0]) ?_ 0 _ rfl; (with_reducible repeat (first | refine blk_drewN ?_ _ | refine blk_drew ?_ | refine blk_alloc ?_ _)); exact BK247.out) Tryz.underlying166 rfl (by kernel_rfl)) rfl ?_
 exact ⟨er_, hb1_ HB.out GE247.out⟩
-- IMPORT Derived.Deep.RegionHeld3
-- IMPORT Derived.Test.YtnmlmgmljoncoaaGreatDoorNr
def radix_spread.l0 : Nat → Int → Int → Option Int
 | 0, _, _ => none
 | k + 1, e, up => if Int.tmod (wrap64 (e - up)) 2 = 0 then some up else radix_spread.l0 k e (wrap64 (up - 1))
def radix_spread.f (k : Nat) (a0_0 : Bool) (a0_1 : Int) (a0_2 : Int) (a0_3 : Int) : Option (Int × Int × Int) := (wide_Of.f a0_3).bind fun n => ((wide_Len.f n.1 n.2).bind fun t => ((radix_spread.l0 k a0_2 (wrap64 (126 - t))).bind fun up => ((wide_Left.f n.1 n.2 up).bind fun v => (some (v.1, v.2, wrap64 (a0_2 - up))))))
theorem radix_spread.mono_l : ∀ k, (∀ e up, LeO (radix_spread.l0 k e up) (radix_spread.l0 (k + 1) e up))
 | 0 => fun _ _ r h => by simp [radix_spread.l0] at h
 | k + 1 => fun e up => by
  show LeO (if Int.tmod (wrap64 (e - up)) 2 = 0 then some up else radix_spread.l0 k e (wrap64 (up - 1))) (if Int.tmod (wrap64 (e - up)) 2 = 0 then some up else radix_spread.l0 (k + 1) e (wrap64 (up - 1)))
  exact LeO.ite (LeO.refl _) (radix_spread.mono_l k _ _)
theorem radix_spread.mono : ∀ a0 a1 a2 a3 k, LeO (radix_spread.f k a0 a1 a2 a3) (radix_spread.f (k + 1) a0 a1 a2 a3) := by
 intro a0 a1 a2 a3 k
 unfold radix_spread.f
 exact LeO.bind (LeO.refl _) (fun _ => LeO.bind (LeO.refl _) (fun _ => LeO.bind (radix_spread.mono_l k _ _) (fun _ => LeO.refl _)))
theorem Nr.exSp {W w' : World} {b : Nat} {x y : Int} (q2 : W.cell? ⟨b, 2, none⟩ = some (.int .i64 x)) (q3 : W.cell? ⟨b, 3, none⟩ = some (.int .u64 y)) (hz : b < W.heap.size) (hB : Below W.heap.size W w') :
  w'.cell? ⟨b, 2, none⟩ = some (.int .i64 x) ∧ w'.cell? ⟨b, 3, none⟩ = some (.int .u64 y) ∧ W.heap.size ≤ w'.heap.size ∧ Below W.heap.size W w' :=
 ⟨((Nr.bcell hB).1 _ _ hz).trans q2, ((Nr.bcell hB).1 _ _ hz).trans q3, hB.size, hB⟩
theorem Nr.undrew' {w w1 : World} (h : Below w.drew.heap.size w.drew w1) : Below w.heap.size w w1 := below_step (below_drew1 (Below.refl _ _)) h
theorem Nr.newW {w w1 : World} {u v : Value} {ty : Nat} (h : Below (w.alloc (.cells #[u, v] ty)).drew.heap.size (w.alloc (.cells #[u, v] ty)).drew w1) :
  w1.cell? ⟨w.heap.size, 0, none⟩ = some u ∧ w1.cell? ⟨w.heap.size, 1, none⟩ = some v ∧ w1.frozen? ⟨w.heap.size, 0, none⟩ = false ∧ w1.frozen? ⟨w.heap.size, 1, none⟩ = false ∧ w.heap.size < w1.heap.size := by
 have hs := h.size
 have e : (w.alloc (.cells #[u, v] ty)).drew.heap.size = w.heap.size + 1 := by simp [go_sem]
 refine ⟨?_, ?_, ?_, ?_, by omega⟩
 ·rw [(Nr.bcell h).1 _ _ (by omega)]; simp [go_sem]
 ·rw [(Nr.bcell h).1 _ _ (by omega)]; simp [go_sem]
 ·rw [(Nr.bcell h).2 _ _ (by omega)]; simp [go_sem]
 ·rw [(Nr.bcell h).2 _ _ (by omega)]; simp [go_sem]
theorem radix_spread.calls (k : Nat) (a0_0 : Bool) (a0_1 : Int) (a0_2 : Int) (a0_3 : Int) (r1 : Int) (r2 : Int) (r3 : Int) (w : World) (h : radix_spread.f k a0_0 a0_1 a0_2 a0_3 = some (r1, r2, r3)) :
  Calls Tryz.prog 216 #[.agg #[.bool a0_0, .int .i64 a0_1, .int .i64 a0_2, .int .u64 a0_3]] w fun e w' => e = .returned (.tuple #[.agg #[.int .u64 r1, .int .u64 r2], .int .i64 r3]) ∧ Below w.heap.size w w' := by
 unfold radix_spread.f at h
 obtain ⟨⟨n1, n2⟩, B0, H1⟩ := ob_ h
 obtain ⟨t, B1, H2⟩ := ob_ H1
 obtain ⟨up, B2, H3⟩ := ob_ H2
 obtain ⟨⟨v1, v2⟩, B3, H4⟩ := ob_ H3
 simp only [Option.some.injEq, Prod.mk.injEq] at H4
 obtain ⟨rfl, rfl, hr3⟩ := H4
 simp only at B1 B2 B3
 obtain ⟨u0, hu0⟩ : ∃ j : Int, wrap64 (126 - t) = j := ⟨_, rfl⟩
 rw [hu0] at B2
 have e0 : IntKind.i64.wrap (126 - t) = u0 := (i64_w _).trans hu0
 have e3 : IntKind.i64.wrap (a0_2 - up) = r3 := (i64_w _).trans hr3
 have T0 := A_ B0;have T1 := A_ B1;have T2 := A_ B2;have T3 := A_ B3;clear h H1 H2 H3 B0 B1 B2 B3 hu0 hr3
 have hu57 := Tryz.underlying27
 have hu63 := Tryz.underlying166
 go_enter Tryz.func216, Tryz.ntmps216
 go_upto_region 1 with fail
 apply wp_scope_straight
 go_upto_region 1 with fail
 have q2 : ((w.alloc (.cells #[.bool a0_0, .int .i64 a0_1, .int .i64 a0_2, .int .u64 a0_3] 27)).alloc (.cells #[.int .u64 0, .int .u64 0] 166)).cell? ⟨w.heap.size, 2, none⟩ = some (.int .i64 a0_2) := by simp [go_sem, World.cell?_alloc_past]
 have q3 : ((w.alloc (.cells #[.bool a0_0, .int .i64 a0_1, .int .i64 a0_2, .int .u64 a0_3] 27)).alloc (.cells #[.int .u64 0, .int .u64 0] 166)).cell? ⟨w.heap.size, 3, none⟩ = some (.int .u64 a0_3) := by simp [go_sem, World.cell?_alloc_past]
 have c0 : ((w.alloc (.cells #[.bool a0_0, .int .i64 a0_1, .int .i64 a0_2, .int .u64 a0_3] 27)).alloc (.cells #[.int .u64 0, .int .u64 0] 166)).cell? ⟨w.heap.size + 1, 0, none⟩ = some (.int .u64 0) := by simp [go_sem, World.cell?_alloc_past]
 have c1 : ((w.alloc (.cells #[.bool a0_0, .int .i64 a0_1, .int .i64 a0_2, .int .u64 a0_3] 27)).alloc (.cells #[.int .u64 0, .int .u64 0] 166)).cell? ⟨w.heap.size + 1, 1, none⟩ = some (.int .u64 0) := by simp [go_sem, World.cell?_alloc_past]
 have f0 : ((w.alloc (.cells #[.bool a0_0, .int .i64 a0_1, .int .i64 a0_2, .int .u64 a0_3] 27)).alloc (.cells #[.int .u64 0, .int .u64 0] 166)).frozen? ⟨w.heap.size + 1, 0, none⟩ = false := by simp [go_sem]
 have f1 : ((w.alloc (.cells #[.bool a0_0, .int .i64 a0_1, .int .i64 a0_2, .int .u64 a0_3] 27)).alloc (.cells #[.int .u64 0, .int .u64 0] 166)).frozen? ⟨w.heap.size + 1, 1, none⟩ = false := by simp [go_sem]
 have hz : w.heap.size + 1 < ((w.alloc (.cells #[.bool a0_0, .int .i64 a0_1, .int .i64 a0_2, .int .u64 a0_3] 27)).alloc (.cells #[.int .u64 0, .int .u64 0] 166)).heap.size := by simp [go_sem]
 have bl : Below w.heap.size w ((w.alloc (.cells #[.bool a0_0, .int .i64 a0_1, .int .i64 a0_2, .int .u64 a0_3] 27)).alloc (.cells #[.int .u64 0, .int .u64 0] 166)) := below_alloc (below_alloc (Below.refl _ _) _) _
 generalize hW : (w.alloc (.cells #[.bool a0_0, .int .i64 a0_1, .int .i64 a0_2, .int .u64 a0_3] 27)).alloc (.cells #[.int .u64 0, .int .u64 0] 166) = W at q2 q3 c0 c1 f0 f1 hz bl ⊢
 clear hW
 have hz0 : w.heap.size < W.heap.size := by omega
 go_cut [4, 5] (fun s4 s5 wx => ∃ (g : Nat), s4 = .pointer (some ⟨g, 0, none⟩) ∧ s5 = .int .i64 a0_2 ∧ W.heap.size ≤ g ∧ g < wx.heap.size ∧ wx.cell? ⟨g, 0, none⟩ = some (.int .u64 n1) ∧ wx.cell? ⟨g, 1, none⟩ = some (.int .u64 n2) ∧ Below W.heap.size W wx)
 case first =>
  go_region_held3 (fun w' => w'.cell? ⟨w.heap.size, 2, none⟩ = some (.int .i64 a0_2) ∧ w'.cell? ⟨w.heap.size, 3, none⟩ = some (.int .u64 a0_3) ∧ W.heap.size ≤ w'.heap.size ∧ Below W.heap.size W w')
   (((try go_split_ands); (try dsimp only); refine Nr.exSp q2 q3 hz0 ?_; (repeat (first | assumption | exact BW1.out | exact Below.refl _ _ | apply below_drew1 | apply below_alloc | (refine below_set ?_ (by first | omega | (simp [go_sem]; omega))))); done))
   (first
    | (go_at_call 215; refine (wide_Of.calls a0_3 n1 n2 _ T0.out).mono ?_; rintro e w1 ⟨rfl, hb⟩; (try go_split_ands); have BW1 := A_ (show Below W.heap.size W w1 from below_step (by first | assumption | exact Below.refl _ _) hb); have z1 := BW1.out.size; (try (have N1 := Nr.newW hb; obtain ⟨ta, tb, tc, td, te⟩ := N1))))
  all_goals (go_wp2_with fail; go_meet)
  all_goals (
   refine ⟨_, rfl, rfl, ?_, ?_, ?_, ?_, ?_⟩
   all_goals first
    | omega
    | (simp; done)
    | (simp; omega)
    | (go_simp; done)
    | (simp [go_sem, World.cell?_alloc_past, *]; done)
    | (repeat (first | exact BW1.out | apply below_drew1 | apply below_alloc | (refine below_set ?_ (by omega)))))
 case rest =>
  obtain ⟨g, rfl, rfl, hg1, hg2, g0, g1, BW⟩ := hcut
  rename World => V
  replace c0 := ((Nr.bcell BW).1 _ _ hz).trans c0
  replace c1 := ((Nr.bcell BW).1 _ _ hz).trans c1
  replace f0 := ((Nr.bcell BW).2 _ _ hz).trans f0
  replace f1 := ((Nr.bcell BW).2 _ _ hz).trans f1
  replace bl := below_step bl BW
  have hz1 : w.heap.size + 1 < V.heap.size := Nat.lt_of_lt_of_le hz BW.size
  have ng : ¬ (g = w.heap.size + 1) := by omega
  clear q2 q3 BW T0
  go_step
  go_wp2_with (first | (go_at_call 240; refine (wide_Len.calls n1 n2 t _ T1.out).mono ?_; rintro e w2 ⟨rfl, hb⟩; (try replace hb := Nr.undrew' hb); obtain ⟨hc, hf⟩ := Nr.bcell hb; have hs := hb.size; replace g0 := (hc _ _ hg2).trans g0; replace g1 := (hc _ _ hg2).trans g1; replace c0 := (hc _ _ hz1).trans c0; replace c1 := (hc _ _ hz1).trans c1; replace f0 := (hf _ _ hz1).trans f0; replace f1 := (hf _ _ hz1).trans f1; replace bl := below_step bl hb; replace hg2 := Nat.lt_of_lt_of_le hg2 hs; replace hz1 := Nat.lt_of_lt_of_le hz1 hs; clear hc hf hs hb))
  apply wp_label
  go_step
  go_wp2
  go_loopg [6] k (fun kq v6 w' => ∃ (x : Int), v6 = .int .i64 x ∧ Aside0 (radix_spread.l0 kq a0_2 x = some up) ∧ w'.cell? ⟨g, 0, none⟩ = some (.int .u64 n1) ∧ w'.cell? ⟨g, 1, none⟩ = some (.int .u64 n2) ∧ w'.cell? ⟨w.heap.size + 1, 0, none⟩ = some (.int .u64 0) ∧ w'.cell? ⟨w.heap.size + 1, 1, none⟩ = some (.int .u64 0) ∧ w'.frozen? ⟨w.heap.size + 1, 0, none⟩ = false ∧ w'.frozen? ⟨w.heap.size + 1, 1, none⟩ = false ∧ Aside0 (g < w'.heap.size ∧ w.heap.size + 1 < w'.heap.size ∧ Below w.heap.size w w'))
  case atStart => exact ⟨_, rfl, T2, g0, g1, c0, c1, f0, f1, ⟨hg2, hz1, bl⟩⟩
  case round =>
   clear g0 g1 c0 c1 f0 f1 hg2 hz1 bl T2
   obtain ⟨x, rfl, HA, g0, g1, c0, c1, f0, f1, HB⟩ := hrel
   obtain _ | kr := gk
   ·exact absurd HA.out (by simp [radix_spread.l0])
   have H := HA.out
   clear HA
   simp only [radix_spread.l0] at H
   by_cases c : Int.tmod (wrap64 (a0_2 - x)) 2 = 0
   ·rw [if_pos c] at H
    obtain rfl := Option.some.inj H
    clear H
    have er := (i64_w (a0_2 - x)).symm.trans e3
    rw [er] at c
    have cb : (Int.tmod r3 2 == 0) = true := beq_iff_eq.mpr c
    have cd : decide (Int.tmod r3 2 = 0) = true := decide_eq_true c
    clear er c
    obtain ⟨hg2, hz1, bl⟩ := HB.out
    go_wp2_with (first | (go_at_call 242; refine (wide_Left.calls n1 n2 x v1 v2 _ T3.out).mono ?_; rintro e w3 ⟨rfl, hb⟩; (try replace hb := Nr.undrew' hb); obtain ⟨hc, hf⟩ := Nr.bcell hb; have hs := hb.size; replace c0 := (hc _ _ hz1).trans c0; replace c1 := (hc _ _ hz1).trans c1; replace f0 := (hf _ _ hz1).trans f0; replace f1 := (hf _ _ hz1).trans f1; replace bl := below_step bl hb; clear hc hf hs hb g0 g1))
    simp only [Exit.noGoto]
    have k0 : ((w3.setCell ⟨w.heap.size + 1, 0, none⟩ (.int .u64 v1)).setCell ⟨w.heap.size + 1, 1, none⟩ (.int .u64 v2)).cell? ⟨w.heap.size + 1, 0, none⟩ = some (.int .u64 v1) := (World.cell?_setCell_other _ _ _ _ (by intro e; cases e)).trans (World.cell?_setCell_same _ _ _ c0)
    have k1 : ((w3.setCell ⟨w.heap.size + 1, 0, none⟩ (.int .u64 v1)).setCell ⟨w.heap.size + 1, 1, none⟩ (.int .u64 v2)).cell? ⟨w.heap.size + 1, 1, none⟩ = some (.int .u64 v2) := World.cell?_setCell_same _ _ _ ((World.cell?_setCell_other _ _ _ _ (by intro e; cases e)).trans c1)
    exact bodyPost_ret (v := .tuple #[.agg #[.int .u64 v1, .int .u64 v2], .int .i64 r3]) (by simp [results, Tryz.results216, go_sem, k0, k1]) rfl ⟨rfl, below_set (below_set bl (by omega)) (by omega)⟩
   ·rw [if_neg c] at H
    obtain ⟨y, hy⟩ : ∃ y : Int, wrap64 (a0_2 - x) = y := ⟨_, rfl⟩
    obtain ⟨z, hzz⟩ : ∃ z : Int, wrap64 (x - 1) = z := ⟨_, rfl⟩
    rw [hy] at c
    rw [hzz] at H
    have H' := A_ H
    have ey : IntKind.i64.wrap (a0_2 - x) = y := (i64_w _).trans hy
    have ez : IntKind.i64.wrap (x - 1) = z := (i64_w _).trans hzz
    have cb : (Int.tmod y 2 == 0) = false := beq_eq_false_iff_ne.mpr c
    have cd : decide (Int.tmod y 2 = 0) = false := decide_eq_false c
    clear H hy hzz c
    go_wp2
    go_roundg kr
    case measure => omega
    case rel => exact ⟨_, rfl, H', g0, g1, c0, c1, f0, f1, HB⟩
theorem eqA166 (d : Nat) (w : World) (x0 y0 : Int) (x1 y1 : Int) :
  (Op.equalIn (d + 2) 166 (.agg #[.int .u64 x0, .int .u64 x1]) (.agg #[.int .u64 y0, .int .u64 y1])).run Tryz.prog w = .ok (x0 == y0 && (x1 == y1)) w := by
 refine eqA_of Tryz.underlying166 (by kernel_rfl) ?_
 refine eqf_cons (by rfl) (by go_simp; rfl) (by go_simp; rfl) (by go_simp) ?_
 exact eqf_last (by rfl) (by go_simp; rfl) (by go_simp; rfl) (by go_simp)
-- IMPORT Derived.Deep.RegionHeld3
-- IMPORT Derived.Test.YtnmlmgmljoncoaaGreatDoorPAEq166
def wide_Right.f (a0_0 : Int) (a0_1 : Int) (a1 : Int) : Option (Int × Int × Bool) :=
 if a1 ≤ 0 then some (a0_0, a0_1, false) else if a1 ≥ 128 then some (0, 0, (!(a0_0 == 0) || !(a0_1 == 0))) else
 if a1 ≥ 64 then (wide_Left.f 0 (shr .u64 a0_0 (wrap64 (a1 - 64))) a1).bind fun b => some (0, shr .u64 a0_0 (wrap64 (a1 - 64)), (!(b.1 == a0_0) || !(b.2 == a0_1)))
 else (wide_Left.f (shr .u64 a0_0 a1) (Go.bits .or .u64 (shr .u64 a0_1 a1) (shl .u64 a0_0 (wrap64 (64 - a1)))) a1).bind fun b => some (shr .u64 a0_0 a1, Go.bits .or .u64 (shr .u64 a0_1 a1) (shl .u64 a0_0 (wrap64 (64 - a1))), (!(b.1 == a0_0) || !(b.2 == a0_1)))
attribute [local go_sem high] eqA166
theorem wide_Right.bcell {W w1 : World} (hb : Below W.heap.size W w1) : (∀ b o, b < W.heap.size → w1.cell? ⟨b, o, none⟩ = W.cell? ⟨b, o, none⟩) ∧ (∀ b o, b < W.heap.size → w1.frozen? ⟨b, o, none⟩ = W.frozen? ⟨b, o, none⟩) :=
 ⟨fun b o h => hb.cell (p := ⟨b, o, none⟩) h, fun b o h => hb.frozen (p := ⟨b, o, none⟩) h⟩
theorem wide_Right.calls0 (a0_0 : Int) (a0_1 : Int) (a1 : Int) (w : World) (h : a1 ≤ 0) :
  Calls Tryz.prog 238 #[.agg #[.int .u64 a0_0, .int .u64 a0_1], .int .i64 a1] w fun e w' => e = .returned (.tuple #[.agg #[.int .u64 a0_0, .int .u64 a0_1], .bool false]) ∧ Below w.heap.size w w' := by
 have hu40 := Tryz.underlying166
 have c0 : decide (a1 ≤ 0) = true := decide_eq_true h
 clear h
 go_enter Tryz.func238, Tryz.ntmps238
 go_wp2
 exact bodyPost_ret (v := .tuple #[.agg #[.int .u64 a0_0, .int .u64 a0_1], .bool false]) (by simp [results, Tryz.results238, go_sem]) rfl ⟨rfl, below_alloc (below_alloc (Below.refl _ _) _) _⟩
theorem wide_Right.calls128 (a0_0 : Int) (a0_1 : Int) (a1 : Int) (w : World) (h : ¬ a1 ≤ 0) (h2 : a1 ≥ 128) :
  Calls Tryz.prog 238 #[.agg #[.int .u64 a0_0, .int .u64 a0_1], .int .i64 a1] w fun e w' => e = .returned (.tuple #[.agg #[.int .u64 0, .int .u64 0], .bool (!(a0_0 == 0) || !(a0_1 == 0))]) ∧ Below w.heap.size w w' := by
 have hu40 := Tryz.underlying166
 have c0 : decide (a1 ≤ 0) = false := decide_eq_false h
 have c1 : decide (128 ≤ a1) = true := decide_eq_true h2
 clear h h2
 go_enter Tryz.func238, Tryz.ntmps238
 go_wp2
 go_region
 go_wp2
 exact bodyPost_ret (v := .tuple #[.agg #[.int .u64 0, .int .u64 0], .bool (!(a0_0 == 0) || !(a0_1 == 0))]) (by simp [results, Tryz.results238, go_sem]) rfl ⟨rfl, below_drew (below_alloc (below_alloc (Below.refl _ _) _) _)⟩
theorem wide_Right.calls64 (a0_0 : Int) (a0_1 : Int) (a1 : Int) (x y : Int) (w : World) (h : ¬ a1 ≤ 0) (h2 : ¬ a1 ≥ 128) (h3 : a1 ≥ 64) (hl : wide_Left.f 0 (shr .u64 a0_0 (wrap64 (a1 - 64))) a1 = some (x, y)) :
  Calls Tryz.prog 238 #[.agg #[.int .u64 a0_0, .int .u64 a0_1], .int .i64 a1] w fun e w' => e = .returned (.tuple #[.agg #[.int .u64 0, .int .u64 (shr .u64 a0_0 (wrap64 (a1 - 64)))], .bool (!(x == a0_0) || !(y == a0_1))]) ∧ Below w.heap.size w w' := by
 have hu40 := Tryz.underlying166
 have c0 : decide (a1 ≤ 0) = false := decide_eq_false h
 have c1 : decide (128 ≤ a1) = false := decide_eq_false h2
 have c2 : decide (64 ≤ a1) = true := decide_eq_true h3
 have ew : wrap64 (a1 - 64) = a1 - 64 := by unfold wrap64; omega
 rw [ew] at hl ⊢
 have g0 := eq_true (show 64 ≤ a1 from h3)
 have g1 : a1 < 128 := by omega
 have es : shr .u64 a0_0 (a1 - 64) = a0_0 / 2 ^ (a1 - 64).toNat := by unfold shr; rw [show min (a1 - 64).toNat IntKind.u64.bits = (a1 - 64).toNat by rw [show IntKind.u64.bits = 64 by decide]; omega]
 rw [es] at hl ⊢
 clear es
 obtain ⟨s, hs⟩ : ∃ s, a0_0 / 2 ^ (a1 - 64).toNat = s := ⟨_, rfl⟩
 rw [hs] at hl ⊢
 have B0 := A_ hl;clear h h2 hl
 go_enter Tryz.func238, Tryz.ntmps238
 go_wp2
 go_region_held3 (fun w' => w'.cell? ⟨w.heap.size, 0, none⟩ = some (.int .u64 a0_0) ∧ w'.cell? ⟨w.heap.size, 1, none⟩ = some (.int .u64 a0_1) ∧ w'.cell? ⟨w.heap.size + 1, 0, none⟩ = some (.int .u64 0) ∧ w'.cell? ⟨w.heap.size + 1, 1, none⟩ = some (.int .u64 s) ∧ w'.frozen? ⟨w.heap.size + 1, 0, none⟩ = false ∧ w.heap.size + 1 < w'.heap.size ∧ Below w.heap.size w w')
  (((try go_split_ands); (try dsimp only); (repeat' apply And.intro) <;> first | assumption | (simp [go_sem, World.cell?_alloc_past]; done) | (simp [go_sem, World.cell?_alloc_past, *]; done) | (rw [hc _ _ (by omega)]; assumption) | (rw [hf _ _ (by omega)]; assumption) | (have := hb.size; omega) | (refine below_step ?_ hb; assumption) | (repeat (first | assumption | exact Below.refl _ _ | apply below_drew1 | apply below_alloc | (refine below_set ?_ (by omega))))))
  ((go_at_call 242; refine (wide_Left.calls 0 s a1 x y _ B0.out).mono ?_; rintro e w1 ⟨rfl, hb⟩; obtain ⟨hc, hf⟩ := wide_Right.bcell hb))
 rename_i hH
 obtain ⟨q0, q1, q2, q3, q4, q5, q6⟩ := hH
 go_wp2
 exact bodyPost_ret (v := .tuple #[.agg #[.int .u64 0, .int .u64 s], .bool (!(x == a0_0) || !(y == a0_1))]) (by simp [results, Tryz.results238, go_sem, q2, q3]) rfl ⟨rfl, q6⟩
theorem wide_Right.calls1 (a0_0 : Int) (a0_1 : Int) (a1 : Int) (x y : Int) (w : World) (h : ¬ a1 ≤ 0) (h2 : ¬ a1 ≥ 128) (h3 : ¬ a1 ≥ 64) (hl : wide_Left.f (shr .u64 a0_0 a1) (Go.bits .or .u64 (shr .u64 a0_1 a1) (shl .u64 a0_0 (wrap64 (64 - a1)))) a1 = some (x, y)) :
  Calls Tryz.prog 238 #[.agg #[.int .u64 a0_0, .int .u64 a0_1], .int .i64 a1] w fun e w' => e = .returned (.tuple #[.agg #[.int .u64 (shr .u64 a0_0 a1), .int .u64 (Go.bits .or .u64 (shr .u64 a0_1 a1) (shl .u64 a0_0 (wrap64 (64 - a1))))], .bool (!(x == a0_0) || !(y == a0_1))]) ∧ Below w.heap.size w w' := by
 have hu40 := Tryz.underlying166
 have c0 : decide (a1 ≤ 0) = false := decide_eq_false h
 have c1 : decide (128 ≤ a1) = false := decide_eq_false h2
 have c2 : decide (64 ≤ a1) = false := decide_eq_false h3
 have ew : wrap64 (64 - a1) = 64 - a1 := by unfold wrap64; omega
 rw [ew] at hl ⊢
 have gw : IntKind.i64.wrap (64 - a1) = 64 - a1 := by rw [i64_w]; unfold wrap64; omega
 have g0 := eq_true (show 0 ≤ a1 by omega)
 have g1 : a1 < 64 := by omega
 have g2 : 0 ≤ 64 - a1 := by omega
 have es : ∀ z : Int, shr .u64 z a1 = z / 2 ^ a1.toNat := fun z => by unfold shr; rw [show min a1.toNat IntKind.u64.bits = a1.toNat by rw [show IntKind.u64.bits = 64 by decide]; omega]
 have et : shl .u64 a0_0 (64 - a1) = IntKind.u64.wrap (a0_0 * 2 ^ min (64 - a1).toNat 64) := rfl
 rw [es, es, et] at hl ⊢
 clear es et
 obtain ⟨s, hs⟩ : ∃ s, a0_0 / 2 ^ a1.toNat = s := ⟨_, rfl⟩
 obtain ⟨s1, hs1⟩ : ∃ s, a0_1 / 2 ^ a1.toNat = s := ⟨_, rfl⟩
 obtain ⟨s2, hs2⟩ : ∃ s, IntKind.u64.wrap (a0_0 * 2 ^ min (64 - a1).toNat 64) = s := ⟨_, rfl⟩
 rw [hs, hs1, hs2] at hl ⊢
 obtain ⟨t, ht⟩ : ∃ t, Go.bits .or .u64 s1 s2 = t := ⟨_, rfl⟩
 rw [ht] at hl ⊢
 have B0 := A_ hl;clear h h2 h3 hl ew
 go_enter Tryz.func238, Tryz.ntmps238
 have g3 := eq_true (show a1 ≤ 64 by omega)
 go_wp2
 go_region_held3 (fun w' => w'.cell? ⟨w.heap.size, 0, none⟩ = some (.int .u64 a0_0) ∧ w'.cell? ⟨w.heap.size, 1, none⟩ = some (.int .u64 a0_1) ∧ w'.frozen? ⟨w.heap.size + 1, 0, none⟩ = false ∧ w.heap.size + 1 < w'.heap.size ∧ Below w.heap.size w w')
  (((try go_split_ands); (try dsimp only); (repeat' apply And.intro) <;> first | assumption | (simp [go_sem, World.cell?_alloc_past]; done) | (simp [go_sem, World.cell?_alloc_past, *]; done) | (rw [hc _ _ (by omega)]; assumption) | (rw [hf _ _ (by omega)]; assumption) | (have := hb.size; omega) | (refine below_step ?_ hb; assumption) | (repeat (first | assumption | exact Below.refl _ _ | apply below_drew1 | apply below_alloc | (refine below_set ?_ (by omega))))))
  (fail)
 rename_i hH0
 clear hH0
 go_wp2
 go_region_held3 (fun w' => w'.cell? ⟨w.heap.size, 0, none⟩ = some (.int .u64 a0_0) ∧ w'.cell? ⟨w.heap.size, 1, none⟩ = some (.int .u64 a0_1) ∧ w'.cell? ⟨w.heap.size + 1, 0, none⟩ = some (.int .u64 s) ∧ w'.cell? ⟨w.heap.size + 1, 1, none⟩ = some (.int .u64 t) ∧ w'.frozen? ⟨w.heap.size + 1, 0, none⟩ = false ∧ w.heap.size + 1 < w'.heap.size ∧ Below w.heap.size w w')
  (((try go_split_ands); (try dsimp only); (repeat' apply And.intro) <;> first | assumption | (simp [go_sem, World.cell?_alloc_past]; done) | (simp [go_sem, World.cell?_alloc_past, *]; done) | (rw [hc _ _ (by omega)]; assumption) | (rw [hf _ _ (by omega)]; assumption) | (have := hb.size; omega) | (refine below_step ?_ hb; assumption) | (repeat (first | assumption | exact Below.refl _ _ | apply below_drew1 | apply below_alloc | (refine below_set ?_ (by omega))))))
  ((go_at_call 242; refine (wide_Left.calls s t a1 x y _ B0.out).mono ?_; rintro e w1 ⟨rfl, hb⟩; obtain ⟨hc, hf⟩ := wide_Right.bcell hb))
 rename_i hH
 obtain ⟨q0, q1, q2, q3, q4, q5, q6⟩ := hH
 go_wp2
 exact bodyPost_ret (v := .tuple #[.agg #[.int .u64 s, .int .u64 t], .bool (!(x == a0_0) || !(y == a0_1))]) (by simp [results, Tryz.results238, go_sem, q2, q3]) rfl ⟨rfl, q6⟩
theorem wide_Right.calls (a0_0 : Int) (a0_1 : Int) (a1 : Int) (r1 : Int) (r2 : Int) (r3 : Bool) (w : World) (h : wide_Right.f a0_0 a0_1 a1 = some (r1, r2, r3)) :
  Calls Tryz.prog 238 #[.agg #[.int .u64 a0_0, .int .u64 a0_1], .int .i64 a1] w fun e w' => e = .returned (.tuple #[.agg #[.int .u64 r1, .int .u64 r2], .bool r3]) ∧ Below w.heap.size w w' := by
 unfold wide_Right.f at h
 by_cases h1 : a1 ≤ 0
 ·rw [if_pos h1] at h
  simp only [Option.some.injEq, Prod.mk.injEq] at h
  obtain ⟨rfl, rfl, rfl⟩ := h
  exact wide_Right.calls0 _ _ a1 w h1
 ·rw [if_neg h1] at h
  by_cases h2 : a1 ≥ 128
  ·rw [if_pos h2] at h
   simp only [Option.some.injEq, Prod.mk.injEq] at h
   obtain ⟨rfl, rfl, rfl⟩ := h
   exact wide_Right.calls128 _ _ a1 w h1 h2
  ·rw [if_neg h2] at h
   by_cases h3 : a1 ≥ 64
   ·rw [if_pos h3] at h
    obtain ⟨⟨x, y⟩, A0, H⟩ := ob_ h
    simp only [Option.some.injEq, Prod.mk.injEq] at H
    obtain ⟨rfl, rfl, rfl⟩ := H
    exact wide_Right.calls64 _ _ a1 x y w h1 h2 h3 A0
   ·rw [if_neg h3] at h
    obtain ⟨⟨x, y⟩, A0, H⟩ := ob_ h
    simp only [Option.some.injEq, Prod.mk.injEq] at H
    obtain ⟨rfl, rfl, rfl⟩ := H
    exact wide_Right.calls1 _ _ a1 x y w h1 h2 h3 A0
def wide_of.f (a0_0 : Int) (a0_1 : Int) : Option (Int × Int) := some (a0_1, a0_0)
theorem wide_of.calls (a0_0 : Int) (a0_1 : Int) (r1 : Int) (r2 : Int) (w : World) (h : wide_of.f a0_0 a0_1 = some (r1, r2)) :
  Calls Tryz.prog 257 #[.agg #[.int .u64 a0_0, .int .u64 a0_1]] w fun e w' => e = .returned (.agg #[.int .u64 r1, .int .u64 r2]) ∧ Below w.heap.size w w' := by
 have hu162 := Tryz.underlying162
 have hu166 := Tryz.underlying166
 have HB := A_ (Below.refl w.heap.size w)
 have H : (some (a0_1, a0_0)) = some (r1, r2) := h
 clear h
 simp only [Option.some.injEq, Prod.mk.injEq] at H
 obtain ⟨rfl, rfl⟩ := H
 go_enter Tryz.func257, Tryz.ntmps257
 go_wp2_with (first | ((with_reducible refine gate_dst (N := 1) rfl ?_); refine be_ 1 #[.int .u64 a0_0, .int .u64 a0_1] 162 ?_; intro gb282 hg w2 hbox hb; have BK282 := A_ (hbox); have GW282 := A_ (sz_ hg (hb_ HB.out)); have GE282 := A_ (sz_ hg (hb_ HB.out)); replace HB := A_ (below_step (hb_ HB.out) hb); clear hb hbox hg) | ((with_reducible refine gate_dst (N := 2) rfl ?_); refine be_ 2 #[.int .u64 0, .int .u64 0] 166 ?_; intro gb283 hg w3 hbox hb; have BK283 := A_ (hbox); have GW283 := A_ (sz_ hg (hb1_ HB.out GE282.out)); have GE283 := A_ (sz_ hg (hb1_ HB.out GE282.out)); have NB282_283 := A_ (nl_ hg BK282.out); have NB283_282 := A_ (ng_ hg BK282.out); replace BK282 := A_ (bb_ BK282.out hb); replace HB := A_ (below_step (hb1_ HB.out GE282.out) hb); clear hb hbox hg; have hnb4 := NB282_283.out; have hnc4 := NB283_282.out; have hcz5_0 := bv_ BK282.out 0; have hcz5_1 := bv_ BK282.out 1; have hfz5_0 := blk_frozen BK282.out 0; have hfz5_1 := blk_frozen BK282.out 1; have hcz6_0 := bv_ BK283.out 0; have hcz6_1 := bv_ BK283.out 1; have hfz6_0 := blk_frozen BK283.out 0; have hfz6_1 := blk_frozen BK283.out 1))
 refine bodyPost_ret (results_cell_row rfl _ _ gb283 166 #[.int .u64 a0_1, .int .u64 a0_0] (0, 0) _ rfl (by (with_reducible repeat (first | refine blk_drewN ?_ _ | refine blk_drew ?_ | refine blk_alloc ?_ _)); refine blk_put (cs := #[.int .u64 a0_1, .int .u64 0]) ?_ 1 _ rfl; (with_reducible repeat (first | refine blk_drewN ?_ _ | refine blk_drew ?_ | refine blk_alloc ?_ _)); refine blk_put (cs := #[.int .u64 0, .int .u64 0]) ?_ 0 _ rfl; (with_reducible repeat (first | refine blk_drewN ?_ _ | refine blk_drew ?_ | refine blk_alloc ?_ _)); exact BK283.out) Tryz.underlying166 rfl (by kernel_rfl)) rfl ?_
 exact ⟨er_, hb2_ HB.out GE282.out GE283.out⟩
-- IMPORT Derived.Deep.RegionHeld3
-- IMPORT Derived.Shelf.Spec.BitsCarry
-- IMPORT Derived.Test.YtnmlmgmljoncoaaGreatDoorNr
-- IMPORT Derived.Deep.DeepCutAuto
def wide_Add.f (a0_0 : Int) (a0_1 : Int) (a1_0 : Int) (a1_1 : Int) : Option (Int × Int) :=
 if (0 ≤ a0_0 ∧ a0_0 < 18446744073709551616) ∧ (0 ≤ a0_1 ∧ a0_1 < 18446744073709551616) ∧ (0 ≤ a1_0 ∧ a1_0 < 18446744073709551616) ∧ (0 ≤ a1_1 ∧ a1_1 < 18446744073709551616) then
  some ((a0_0 + a1_0 + (a0_1 + a1_1) / 18446744073709551616) % 18446744073709551616, (a0_1 + a1_1) % 18446744073709551616) else none
theorem wide_Add.add64 (x y c : Int) (hx : 0 ≤ x) (hy : 0 ≤ y) (hc0 : 0 ≤ c) (hc : c ≤ 1) (w : World) : (callFunc 256 #[.int .u64 x, .int .u64 y, .int .u64 c]).run Tryz.prog w =
  .ok (.value (.tuple #[.int .u64 ((x + y + c) % 18446744073709551616), .int .u64 ((x + y + c) / 18446744073709551616)])) w := by
 obtain ⟨x, rfl⟩ := Int.eq_ofNat_of_zero_le hx
 obtain ⟨y, rfl⟩ := Int.eq_ofNat_of_zero_le hy
 obtain ⟨c, rfl⟩ := Int.eq_ofNat_of_zero_le hc0
 rw [run_callFunc_extern Tryz.func256 (by kernel_rfl) (by kernel_rfl) (by kernel_rfl) (e := add64Entry) (by kernel_rfl), run_add64 x y c (by omega) (by omega) (by omega) (by omega)]
 simp only [Result.andThen]
 try (congr 5 <;> omega)
theorem wide_Add.add64_0 (x y : Int) (hx : 0 ≤ x) (hy : 0 ≤ y) (w : World) : (callFunc 256 #[.int .u64 x, .int .u64 y, .int .u64 0]).run Tryz.prog w =
  .ok (.value (.tuple #[.int .u64 ((x + y) % 18446744073709551616), .int .u64 ((x + y) / 18446744073709551616)])) w := by
 simpa using wide_Add.add64 x y 0 hx hy (Int.le_refl 0) (by decide) w
theorem wide_Add.words (a0 a1 : Int) (w : World) : Calls Tryz.prog 255 #[.agg #[.int .u64 a0, .int .u64 a1]] w fun e w' => e = .returned (.agg #[.int .u64 a1, .int .u64 a0]) ∧ ∃ o1 o2 : Obj, w' = (w.alloc o1).alloc o2 := by
 have hu40 := Tryz.underlying166
 go_enter Tryz.func255, Tryz.ntmps255
 go_wp2
 exact bodyPost_ret (v := .agg #[.int .u64 a1, .int .u64 a0]) (by simp [results, Tryz.results255, go_sem]) rfl ⟨rfl, _, _, rfl⟩
theorem wide_Add.calls (a0_0 : Int) (a0_1 : Int) (a1_0 : Int) (a1_1 : Int) (r1 : Int) (r2 : Int) (w : World) (h : wide_Add.f a0_0 a0_1 a1_0 a1_1 = some (r1, r2)) :
  Calls Tryz.prog 241 #[.agg #[.int .u64 a0_0, .int .u64 a0_1], .agg #[.int .u64 a1_0, .int .u64 a1_1]] w fun e w' => e = .returned (.agg #[.int .u64 r1, .int .u64 r2]) ∧ Below w.heap.size w w' := by
 unfold wide_Add.f at h
 split at h
 rotate_left
 ·cases h
 rename_i hr
 obtain ⟨⟨p1, p2⟩, ⟨p3, p4⟩, ⟨p5, p6⟩, ⟨p7, p8⟩⟩ := hr
 simp only [Option.some.injEq, Prod.mk.injEq] at h
 obtain ⟨hs1, hs0⟩ := h
 have k0 : 0 ≤ (a0_1 + a1_1) / 18446744073709551616 := by omega
 have k1 : (a0_1 + a1_1) / 18446744073709551616 ≤ 1 := by omega
 obtain ⟨c1, hc1⟩ : ∃ c, (a0_1 + a1_1) / 18446744073709551616 = c := ⟨_, rfl⟩
 rw [hc1] at k0 k1 hs1
 have A0 := A_ (fun w => wide_Add.add64_0 a0_1 a1_1 p3 p7 w)
 have A1 := A_ (fun w => wide_Add.add64 a0_0 a1_0 c1 p1 p5 k0 k1 w)
 rw [hs0, hc1] at A0
 rw [hs1] at A1
 clear p1 p2 p3 p4 p5 p6 p7 p8 k0 k1 hs0 hs1 hc1
 have hu40 := Tryz.underlying166
 go_enter Tryz.func241, Tryz.ntmps241
 go_upto_region 1 with fail
 go_cut [5, 6] (fun s5 s6 wx => ∃ g h : Nat, s5 = .pointer (some ⟨g, 0, none⟩) ∧ s6 = .pointer (some ⟨h, 0, none⟩) ∧ w.heap.size + 2 < g ∧ w.heap.size + 2 < h ∧ g ≠ h ∧ wx.cell? ⟨g, 0, none⟩ = some (.int .u64 a0_1) ∧ wx.cell? ⟨g, 1, none⟩ = some (.int .u64 a0_0) ∧ wx.cell? ⟨h, 0, none⟩ = some (.int .u64 a1_1) ∧ wx.cell? ⟨h, 1, none⟩ = some (.int .u64 a1_0) ∧ wx.cell? ⟨w.heap.size + 2, 0, none⟩ = some (.int .u64 0) ∧ wx.cell? ⟨w.heap.size + 2, 1, none⟩ = some (.int .u64 0) ∧ wx.frozen? ⟨g, 0, none⟩ = false ∧ wx.frozen? ⟨g, 1, none⟩ = false ∧ wx.frozen? ⟨w.heap.size + 2, 0, none⟩ = false ∧ wx.frozen? ⟨w.heap.size + 2, 1, none⟩ = false ∧ Below w.heap.size w wx)
 case first =>
  go_region_held3 (fun w' => w'.cell? ⟨w.heap.size, 0, none⟩ = some (.int .u64 a0_0) ∧ w'.cell? ⟨w.heap.size, 1, none⟩ = some (.int .u64 a0_1) ∧ w'.cell? ⟨w.heap.size + 1, 0, none⟩ = some (.int .u64 a1_0) ∧ w'.cell? ⟨w.heap.size + 1, 1, none⟩ = some (.int .u64 a1_1))
   (simp [go_sem, World.cell?_alloc_past])
   ((first | (go_at_call 255; refine (wide_Add.words a0_0 a0_1 _).mono ?_; rintro e w1 ⟨rfl, o1, o2, rfl⟩) | (go_at_call 255; refine (wide_Add.words a1_0 a1_1 _).mono ?_; rintro e w2 ⟨rfl, o3, o4, rfl⟩)))
  all_goals (go_wp2_with fail; go_meet)
  all_goals (
   refine ⟨_, _, rfl, rfl, by omega, by omega, by omega, ?_, ?_, ?_, ?_, ?_, ?_, ?_, ?_, ?_, ?_, ?_⟩
   all_goals first | (simp [go_sem, World.cell?_alloc_past]; done) | (repeat (first | assumption | exact Below.refl _ _ | apply below_drew1 | apply below_alloc | (refine below_set ?_ (by omega)))))
 case rest =>
  obtain ⟨g, h, rfl, rfl, hg, hh, hgh, x0, x1, y0, y1, z0, z1, f0, f1, f2, f3, bl⟩ := hcut
  go_step
  go_wp2
  go_loopg [7, 13] 2 (fun k v7 v13 w' => ∃ (j c u0 u1 : Int), v7 = .int .u64 c ∧ v13 = .int .i64 j ∧ Aside0 ((k = 2 ∧ j = 0 ∧ c = 0 ∧ u0 = a0_1 ∧ u1 = a0_0) ∨ (k = 1 ∧ j = 1 ∧ c = c1 ∧ u0 = r2 ∧ u1 = a0_0) ∨ (k = 0 ∧ j = 2 ∧ u0 = r2 ∧ u1 = r1)) ∧ w'.cell? ⟨g, 0, none⟩ = some (.int .u64 u0) ∧ w'.cell? ⟨g, 1, none⟩ = some (.int .u64 u1) ∧ w'.cell? ⟨h, 0, none⟩ = some (.int .u64 a1_1) ∧ w'.cell? ⟨h, 1, none⟩ = some (.int .u64 a1_0) ∧ w'.cell? ⟨w.heap.size + 2, 0, none⟩ = some (.int .u64 0) ∧ w'.cell? ⟨w.heap.size + 2, 1, none⟩ = some (.int .u64 0) ∧ w'.frozen? ⟨g, 0, none⟩ = false ∧ w'.frozen? ⟨g, 1, none⟩ = false ∧ w'.frozen? ⟨w.heap.size + 2, 0, none⟩ = false ∧ w'.frozen? ⟨w.heap.size + 2, 1, none⟩ = false ∧ Aside0 (Below w.heap.size w w'))
  case atStart => exact ⟨0, 0, a0_1, a0_0, rfl, rfl, ⟨.inl ⟨rfl, rfl, rfl, rfl, rfl⟩⟩, x0, x1, y0, y1, z0, z1, f0, f1, f2, f3, ⟨bl⟩⟩
  case round =>
   clear x0 x1 y0 y1 z0 z1 f0 f1 f2 f3 bl
   obtain ⟨j, c, u0, u1, rfl, rfl, hj, x0, x1, y0, y1, z0, z1, f0, f1, f2, f3, bl⟩ := hrel
   rcases hj.out with ⟨rfl, rfl, rfl, rfl, rfl⟩ | ⟨rfl, rfl, rfl, rfl, rfl⟩ | ⟨rfl, rfl, rfl, rfl⟩
   ·clear hj
    go_wp2
    have A := A0.out
    go_region
    all_goals go_wp2
    go_roundg 1
    case measure => omega
    case rel =>
     refine ⟨1, c1, r2, u1, rfl, rfl, ⟨.inr (.inl ⟨rfl, rfl, rfl, rfl, rfl⟩)⟩, ?_, ?_, ?_, ?_, ?_, ?_, ?_, ?_, ?_, ?_, ?_⟩
     all_goals first
      | exact World.cell?_setCell_same _ _ _ x0
      | exact World.cell?_setCell_same _ _ _ x1
      | exact (World.cell?_setCell_far _ _ _ _ (fun e => by have e' : g = h := e; exact hgh e')).trans (by assumption)
      | exact (World.cell?_setCell_far _ _ _ _ (fun e => by have e' : g = w.heap.size + 2 := e; omega)).trans (by assumption)
      | exact (World.frozen?_setCell _ _ _ _).trans (by assumption)
      | (refine Eq.trans (World.cell?_setCell_other _ _ _ _ ?_) (by assumption); intro e; cases e)
      | exact ⟨below_drew1 (below_set bl.out (by omega))⟩
   ·clear hj
    go_wp2
    have A := A1.out
    go_region
    all_goals go_wp2
    go_roundg 0
    case measure => omega
    case rel =>
     refine ⟨2, _, u0, r1, rfl, rfl, ⟨.inr (.inr ⟨rfl, rfl, rfl, rfl⟩)⟩, ?_, ?_, ?_, ?_, ?_, ?_, ?_, ?_, ?_, ?_, ?_⟩
     all_goals first
      | exact World.cell?_setCell_same _ _ _ x0
      | exact World.cell?_setCell_same _ _ _ x1
      | exact (World.cell?_setCell_far _ _ _ _ (fun e => by have e' : g = h := e; exact hgh e')).trans (by assumption)
      | exact (World.cell?_setCell_far _ _ _ _ (fun e => by have e' : g = w.heap.size + 2 := e; omega)).trans (by assumption)
      | exact (World.frozen?_setCell _ _ _ _).trans (by assumption)
      | (refine Eq.trans (World.cell?_setCell_other _ _ _ _ ?_) (by assumption); intro e; cases e)
      | exact ⟨below_drew1 (below_set bl.out (by omega))⟩
   ·clear hj
    go_wp2_with (first | (go_at_call 257; refine (wide_of.calls u0 u1 u1 u0 _ rfl).mono ?_; rintro e w1 ⟨rfl, hb⟩; obtain ⟨hc, hf⟩ := Nr.bcell hb; have hs := hb.size; have e0 := (hc _ 0 (World.block_lt_of_cell? wr _ z0)).trans z0; have e1 := (hc _ 1 (World.block_lt_of_cell? wr _ z0)).trans z1; have e2 := (hf _ 0 (World.block_lt_of_cell? wr _ z0)).trans f2; have e3 := (hf _ 1 (World.block_lt_of_cell? wr _ z0)).trans f3; replace bl := A_ (below_step bl.out hb); clear hc hf hb hs))
    exact bodyPost_ret (v := .agg #[.int .u64 u1, .int .u64 u0]) (by simp [results, Tryz.results241, go_sem, e0, e1]) rfl ⟨rfl, below_set (below_set bl.out (by omega)) (by omega)⟩
end Go.Proofs.YtnmlmgmljoncoaaGreatDoor.PA
/- What the Go methods by which a number is rounded do to their receiver, for every receiver and every input in their bounds. -/
namespace Go.Proofs.YtnmlmgmljoncoaaGreatDoor.PA
open Go.RowKit Go.Proofs.YtnmlmgmljoncoaaGreatDoorW.PrintWords Go.Proofs.YtnmlmgmljoncoaaGreatDoorW.PrintLast Go.Proofs.YtnmlmgmljoncoaaGreatDoorW.PrintMore
attribute [local go_sem] max2_int min2_int max_two min_two max_three min_three max_four min_four   -- for this text's walks alone
set_option linter.unusedVariables false
set_option linter.unusedSimpArgs false
structure rp_PK (b : Nat) (h l e : Int) (m : Bool) (w w' : World) : Prop where
  c0 : w'.cell? ⟨b, 0, none⟩ = some (.int .u64 h)
  c1 : w'.cell? ⟨b, 1, none⟩ = some (.int .u64 l)
  c2 : w'.cell? ⟨b, 2, none⟩ = some (.int .i64 e)
  c3 : w'.cell? ⟨b, 3, none⟩ = some (.bool m)
  cs : ∀ i, 4 ≤ i → w'.cell? ⟨b, i, none⟩ = w.cell? ⟨b, i, none⟩
  fs : ∀ i, w'.frozen? ⟨b, i, none⟩ = w.frozen? ⟨b, i, none⟩
  bl : Below b w w'
theorem rp_PK.set4 {b : Nat} {h l e : Int} {m : Bool} {w w2 : World} {v0 v1 v2 v3 : Value} (c0 : w2.cell? ⟨b, 0, none⟩ = some v0) (c1 : w2.cell? ⟨b, 1, none⟩ = some v1) (c2 : w2.cell? ⟨b, 2, none⟩ = some v2) (c3 : w2.cell? ⟨b, 3, none⟩ = some v3)
    (AS : ∀ i, w2.cell? ⟨b, i, none⟩ = w.cell? ⟨b, i, none⟩) (AF : ∀ i, w2.frozen? ⟨b, i, none⟩ = w.frozen? ⟨b, i, none⟩) (AB : Below b w w2) :
    rp_PK b h l e m w ((((w2.setCell ⟨b, 0, none⟩ (.int .u64 h)).setCell ⟨b, 1, none⟩ (.int .u64 l)).setCell ⟨b, 2, none⟩ (.int .i64 e)).setCell ⟨b, 3, none⟩ (.bool m)) := by
  have ne : ∀ i j : Nat, i ≠ j → (⟨b, j, none⟩ : Addr) ≠ ⟨b, i, none⟩ := fun i j hij k => hij (by injection k with _ k2 _; exact k2.symm)
  have o := fun (W : World) (i j : Nat) (u : Value) (hij : i ≠ j) => World.cell?_setCell_other W ⟨b, j, none⟩ ⟨b, i, none⟩ u (ne i j hij)
  refine ⟨?_, ?_, ?_, ?_, fun i hi => ?_, fun i => ?_, ?_⟩
  · rw [o _ 0 3 _ (by decide), o _ 0 2 _ (by decide), o _ 0 1 _ (by decide)]; exact World.cell?_setCell_same _ _ _ c0
  · rw [o _ 1 3 _ (by decide), o _ 1 2 _ (by decide)]; exact World.cell?_setCell_same _ _ _ ((o _ 1 0 _ (by decide)).trans c1)
  · rw [o _ 2 3 _ (by decide)]; exact World.cell?_setCell_same _ _ _ ((o _ 2 1 _ (by decide)).trans ((o _ 2 0 _ (by decide)).trans c2))
  · exact World.cell?_setCell_same _ _ _ ((o _ 3 2 _ (by decide)).trans ((o _ 3 1 _ (by decide)).trans ((o _ 3 0 _ (by decide)).trans c3)))
  · rw [o _ i 3 _ (by omega), o _ i 2 _ (by omega), o _ i 1 _ (by omega), o _ i 0 _ (by omega)]; exact AS i
  · rw [World.frozen?_setCell, World.frozen?_setCell, World.frozen?_setCell, World.frozen?_setCell]; exact AF i
  · exact (((AB.setCell (Nat.le_refl _) _).setCell (Nat.le_refl _) _).setCell (Nat.le_refl _) _).setCell (Nat.le_refl _) _
theorem rp_ne {b i j : Nat} (hij : i ≠ j) : (⟨b, j, none⟩ : Addr) ≠ ⟨b, i, none⟩ := fun k => hij (by injection k with _ k2 _; exact k2.symm)
theorem rp_o (b : Nat) (W : World) (i j : Nat) (u : Value) (hij : i ≠ j) : (W.setCell ⟨b, j, none⟩ u).cell? ⟨b, i, none⟩ = W.cell? ⟨b, i, none⟩ := World.cell?_setCell_other W ⟨b, j, none⟩ ⟨b, i, none⟩ u (rp_ne hij)
theorem rp_PK.put3 {b : Nat} {h l e : Int} {m : Bool} {w w1 : World} (P : rp_PK b h l e m w w1) (m' : Bool) : rp_PK b h l e m' w (w1.setCell ⟨b, 3, none⟩ (.bool m')) :=
  ⟨(rp_o b _ 0 3 _ (by decide)).trans P.c0, (rp_o b _ 1 3 _ (by decide)).trans P.c1, (rp_o b _ 2 3 _ (by decide)).trans P.c2, World.cell?_setCell_same _ _ _ P.c3, fun i hi => (rp_o b _ i 3 _ (by omega)).trans (P.cs i hi), fun i => (World.frozen?_setCell _ _ _ _).trans (P.fs i), P.bl.setCell (Nat.le_refl _) _⟩
theorem rp_PK.put2 {b : Nat} {h l e : Int} {m : Bool} {w w1 : World} (P : rp_PK b h l e m w w1) (e' : Int) : rp_PK b h l e' m w (w1.setCell ⟨b, 2, none⟩ (.int .i64 e')) :=
  ⟨(rp_o b _ 0 2 _ (by decide)).trans P.c0, (rp_o b _ 1 2 _ (by decide)).trans P.c1, World.cell?_setCell_same _ _ _ P.c2, (rp_o b _ 3 2 _ (by decide)).trans P.c3, fun i hi => (rp_o b _ i 2 _ (by omega)).trans (P.cs i hi), fun i => (World.frozen?_setCell _ _ _ _).trans (P.fs i), P.bl.setCell (Nat.le_refl _) _⟩
theorem rp_PK.put1 {b : Nat} {h l e : Int} {m : Bool} {w w1 : World} (P : rp_PK b h l e m w w1) (l' : Int) : rp_PK b h l' e m w (w1.setCell ⟨b, 1, none⟩ (.int .u64 l')) :=
  ⟨(rp_o b _ 0 1 _ (by decide)).trans P.c0, World.cell?_setCell_same _ _ _ P.c1, (rp_o b _ 2 1 _ (by decide)).trans P.c2, (rp_o b _ 3 1 _ (by decide)).trans P.c3, fun i hi => (rp_o b _ i 1 _ (by omega)).trans (P.cs i hi), fun i => (World.frozen?_setCell _ _ _ _).trans (P.fs i), P.bl.setCell (Nat.le_refl _) _⟩
theorem rp_PK.put0 {b : Nat} {h l e : Int} {m : Bool} {w w1 : World} (P : rp_PK b h l e m w w1) (h' : Int) : rp_PK b h' l e m w (w1.setCell ⟨b, 0, none⟩ (.int .u64 h')) :=
  ⟨World.cell?_setCell_same _ _ _ P.c0, (rp_o b _ 1 0 _ (by decide)).trans P.c1, (rp_o b _ 2 0 _ (by decide)).trans P.c2, (rp_o b _ 3 0 _ (by decide)).trans P.c3, fun i hi => (rp_o b _ i 0 _ (by omega)).trans (P.cs i hi), fun i => (World.frozen?_setCell _ _ _ _).trans (P.fs i), P.bl.setCell (Nat.le_refl _) _⟩
theorem rp_PK.lt {b : Nat} {h l e : Int} {m : Bool} {w w1 : World} (P : rp_PK b h l e m w w1) : b < w1.heap.size := World.block_lt_of_cell? w1 _ P.c0
theorem rp_PK.below {b : Nat} {h l e : Int} {m : Bool} {w w1 w2 : World} (P : rp_PK b h l e m w w1) (hb : Below w1.heap.size w1 w2) : rp_PK b h l e m w w2 :=
  ⟨((Nr.bcell hb).1 b 0 P.lt).trans P.c0, ((Nr.bcell hb).1 b 1 P.lt).trans P.c1, ((Nr.bcell hb).1 b 2 P.lt).trans P.c2, ((Nr.bcell hb).1 b 3 P.lt).trans P.c3, fun i hi => ((Nr.bcell hb).1 b i P.lt).trans (P.cs i hi), fun i => ((Nr.bcell hb).2 b i P.lt).trans (P.fs i), P.bl.trans (hb.mono (Nat.le_of_lt P.lt))⟩
theorem rp_PK.alloc {b : Nat} {h l e : Int} {m : Bool} {w w1 : World} (P : rp_PK b h l e m w w1) (x : Obj) : rp_PK b h l e m w (w1.alloc x) := P.below (below_alloc (Below.refl _ _) x)
theorem rp_PK.drew {b : Nat} {h l e : Int} {m : Bool} {w w1 : World} (P : rp_PK b h l e m w w1) : rp_PK b h l e m w w1.drew := P.below (below_drew1 (Below.refl _ _))
theorem rp_PK.start {b : Nat} {h l e : Int} {m : Bool} {w : World} (c0 : w.cell? ⟨b, 0, none⟩ = some (.int .u64 h)) (c1 : w.cell? ⟨b, 1, none⟩ = some (.int .u64 l)) (c2 : w.cell? ⟨b, 2, none⟩ = some (.int .i64 e)) (c3 : w.cell? ⟨b, 3, none⟩ = some (.bool m)) : rp_PK b h l e m w w :=
  ⟨c0, c1, c2, c3, fun _ _ => rfl, fun _ => rfl, Below.refl _ _⟩
theorem rp_PK.trans {b : Nat} {h l e h' l' e' : Int} {m m' : Bool} {w w1 w2 : World} (P : rp_PK b h l e m w w1) (Q : rp_PK b h' l' e' m' w1 w2) : rp_PK b h' l' e' m' w w2 :=
  ⟨Q.c0, Q.c1, Q.c2, Q.c3, fun i hi => (Q.cs i hi).trans (P.cs i hi), fun i => (Q.fs i).trans (P.fs i), P.bl.trans Q.bl⟩
set_option maxHeartbeats 8000000 in
set_option maxRecDepth 100000 in
theorem rp_down (b : Nat) (h l e n k0 k1 q0 q1 : Int) (m lost x : Bool) (w : World)
    (c0 : w.cell? ⟨b, 0, none⟩ = some (.int .u64 h)) (c1 : w.cell? ⟨b, 1, none⟩ = some (.int .u64 l)) (c2 : w.cell? ⟨b, 2, none⟩ = some (.int .i64 e)) (c3 : w.cell? ⟨b, 3, none⟩ = some (.bool m))
    (f0 : w.frozen? ⟨b, 0, none⟩ = false) (f1 : w.frozen? ⟨b, 1, none⟩ = false) (f2 : w.frozen? ⟨b, 2, none⟩ = false) (f3 : w.frozen? ⟨b, 3, none⟩ = false)
    (h0 : 0 < n) (h1 : n < 1099511627776) (e0 : -1099511627776 < e) (e1 : e < 1099511627776)
    (R1 : wide_Right.f h l (n - 1) = some (k0, k1, lost)) (R2 : wide_Right.f k0 k1 1 = some (q0, q1, x)) :
    Calls Tryz.prog 258 #[.pointer (some ⟨b, 0, none⟩), .int .i64 n] w fun en w' => en = .returned (.tuple #[.bool (Go.bits .and .u64 k1 1 == 1), .bool (lost || m)]) ∧ rp_PK b q0 q1 (e + n) false w w' := by
  have hu41 := Tryz.underlying166
  have B1 := Aside0.mk R1
  have B2 := Aside0.mk R2
  have hn : decide (n ≤ 0) = false := decide_eq_false (by omega)
  clear R1 R2
  cases lost
  all_goals
   go_enter Tryz.func258, Tryz.ntmps258
   have lt := World.block_lt_of_cell? w _ c0
   go_wp2_with (first
    | (go_at_call 238; (with_reducible refine (wide_Right.calls h l (n - 1) k0 k1 _ _ B1.out).mono ?_); rintro e w1 ⟨rfl, hb⟩; obtain ⟨hc, hf⟩ := Nr.bcell hb; have lt1 := Nat.lt_of_lt_of_le lt hb.size; have AS := Aside0.mk (fun i => hc b i lt); have AF := Aside0.mk (fun i => hf b i lt); have AB := Aside0.mk (below_step (Below.refl _ w) hb); clear hc hf hb)
    | (go_at_call 238; (with_reducible refine (wide_Right.calls k0 k1 1 q0 q1 x _ B2.out).mono ?_); rintro e w2 ⟨rfl, hb⟩; obtain ⟨hc, hf⟩ := Nr.bcell hb; have hz := hb.size; have lt2 := Nr.lt_al (x := .cells #[.int .u64 k0, .int .u64 k1] 166 (0, 0)) lt1; have AS2 := Aside0.mk (fun i => (hc b i lt2).trans ((Nr.al lt1 i _).trans (AS.out i))); have AF2 := Aside0.mk (fun i => (hf b i lt2).trans ((Nr.alf lt1 i _).trans (AF.out i))); have AB2 := Aside0.mk (below_step (below_alloc AB.out _) hb); replace c0 := (AS2.out 0).trans c0; replace c1 := (AS2.out 1).trans c1; replace c2 := (AS2.out 2).trans c2; replace c3 := (AS2.out 3).trans c3; replace f0 := (AF2.out 0).trans f0; replace f1 := (AF2.out 1).trans f1; replace f2 := (AF2.out 2).trans f2; replace f3 := (AF2.out 3).trans f3; clear hc hf hb))
   go_ret2
   exact ⟨rfl, rp_PK.set4 c0 c1 c2 c3 AS2.out AF2.out (AB2.out.mono (Nat.le_of_lt lt))⟩
set_option maxHeartbeats 8000000 in
set_option maxRecDepth 100000 in
theorem rp_near0 (b : Nat) (h l e n : Int) (w : World)
    (c0 : w.cell? ⟨b, 0, none⟩ = some (.int .u64 h)) (c1 : w.cell? ⟨b, 1, none⟩ = some (.int .u64 l)) (c2 : w.cell? ⟨b, 2, none⟩ = some (.int .i64 e)) (c3 : w.cell? ⟨b, 3, none⟩ = some (.bool false))
    (f3 : w.frozen? ⟨b, 3, none⟩ = false) (h0 : n ≤ 0) :
    Calls Tryz.prog 243 #[.pointer (some ⟨b, 0, none⟩), .int .i64 n] w fun en w' => en = .returned (.tuple #[]) ∧ w' = w.setCell ⟨b, 3, none⟩ (.bool false) := by
  have hn : decide (n ≤ 0) = true := decide_eq_true h0
  clear h0
  go_enter Tryz.func243, Tryz.ntmps243
  go_wp2
  go_end0
  exact ⟨rfl, rfl⟩
set_option maxHeartbeats 8000000 in
set_option maxRecDepth 100000 in
theorem rp_near1 (b : Nat) (h l e n k0 k1 q0 q1 s0 s1 : Int) (m lost x up : Bool) (w : World)
    (c0 : w.cell? ⟨b, 0, none⟩ = some (.int .u64 h)) (c1 : w.cell? ⟨b, 1, none⟩ = some (.int .u64 l)) (c2 : w.cell? ⟨b, 2, none⟩ = some (.int .i64 e)) (c3 : w.cell? ⟨b, 3, none⟩ = some (.bool m))
    (f0 : w.frozen? ⟨b, 0, none⟩ = false) (f1 : w.frozen? ⟨b, 1, none⟩ = false) (f2 : w.frozen? ⟨b, 2, none⟩ = false) (f3 : w.frozen? ⟨b, 3, none⟩ = false)
    (h0 : 0 < n) (h1 : n < 1099511627776) (e0 : -1099511627776 < e) (e1 : e < 1099511627776)
    (R1 : wide_Right.f h l (n - 1) = some (k0, k1, lost)) (R2 : wide_Right.f k0 k1 1 = some (q0, q1, x))
    (U : ((Go.bits .and .u64 k1 1 == 1) && ((lost || m) || (Go.bits .and .u64 q1 1 == 1))) = up)
    (A1 : up = true → wide_Add.f q0 q1 0 1 = some (s0, s1)) (A0 : up = false → s0 = q0 ∧ s1 = q1) :
    Calls Tryz.prog 243 #[.pointer (some ⟨b, 0, none⟩), .int .i64 n] w fun en w' => en = .returned (.tuple #[]) ∧ rp_PK b s0 s1 (e + n) false w w' := by
  have hu41 := Tryz.underlying166
  have D := Aside0.mk (rp_down b h l e n k0 k1 q0 q1 m lost x w c0 c1 c2 c3 f0 f1 f2 f3 h0 h1 e0 e1 R1 R2)
  obtain ⟨half, hh⟩ : ∃ y, (Go.bits .and .u64 k1 1 == 1) = y := ⟨_, rfl⟩
  obtain ⟨rs, hr⟩ : ∃ y, (lost || m) = y := ⟨_, rfl⟩
  obtain ⟨od, ho⟩ : ∃ y, (Go.bits .and .u64 q1 1 == 1) = y := ⟨_, rfl⟩
  rw [hh, hr] at D
  rw [hh, hr, ho] at U
  subst U
  have lt := World.block_lt_of_cell? w _ c0
  have F := Aside0.mk (show w.frozen? ⟨b, 0, none⟩ = false ∧ w.frozen? ⟨b, 1, none⟩ = false ∧ w.frozen? ⟨b, 2, none⟩ = false ∧ w.frozen? ⟨b, 3, none⟩ = false from ⟨f0, f1, f2, f3⟩)
  have A1' := Aside0.mk A1
  have A0' := Aside0.mk A0
  clear hh hr R1 R2 c0 c1 c2 c3 f0 f1 f2 f3 h0 h1 e0 e1 A1 A0
  cases half <;> cases rs <;> cases od
  all_goals
    go_enter Tryz.func243, Tryz.ntmps243
    go_wp2_with (first | (go_at_call 258; refine D.out.mono ?_; rintro en w1 ⟨rfl, P⟩; have PP := Aside0.mk P; have c0 := P.c0; have c1 := P.c1; have c2 := P.c2; have c3 := P.c3; have f0 := (P.fs 0).trans F.out.1; have f1 := (P.fs 1).trans F.out.2.1; have f2 := (P.fs 2).trans F.out.2.2.1; have f3 := (P.fs 3).trans F.out.2.2.2; clear P))
  all_goals first
    | (go_end0; obtain ⟨rfl, rfl⟩ := A0'.out rfl; exact ⟨rfl, PP.out.put3 false⟩)
    | (have B := Aside0.mk (A1'.out rfl); have P2 := Aside0.mk (PP.out.put3 false); clear PP A1' A0'; generalize w1.setCell ⟨b, 3, none⟩ (.bool false) = w2 at *; replace c0 := P2.out.c0; replace c1 := P2.out.c1; replace c2 := P2.out.c2; replace c3 := P2.out.c3; replace f0 := (P2.out.fs 0).trans F.out.1; replace f1 := (P2.out.fs 1).trans F.out.2.1; go_region_with (first | (go_at_call 215; (with_reducible refine (wide_Of.calls 1 0 1 _ rfl).mono ?_); rintro e w3 ⟨rfl, hb⟩; have P2 := Aside0.mk (rp_PK.below (by repeat (first | exact P2.out | apply rp_PK.drew | apply rp_PK.alloc)) hb); clear hb c0 c1 c2 c3 f0 f1; have c0 := P2.out.c0; have c1 := P2.out.c1; have c2 := P2.out.c2; have c3 := P2.out.c3; have f0 := (P2.out.fs 0).trans F.out.1; have f1 := (P2.out.fs 1).trans F.out.2.1) | (go_at_call 241; (with_reducible refine (wide_Add.calls q0 q1 0 1 s0 s1 _ B.out).mono ?_); rintro e w3 ⟨rfl, hb⟩; have P2 := Aside0.mk (rp_PK.below (by repeat (first | exact P2.out | apply rp_PK.drew | apply rp_PK.alloc)) hb); clear hb c0 c1 c2 c3 f0 f1; have c0 := P2.out.c0; have c1 := P2.out.c1; have c2 := P2.out.c2; have c3 := P2.out.c3; have f0 := (P2.out.fs 0).trans F.out.1; have f1 := (P2.out.fs 1).trans F.out.2.1)))
  all_goals (go_wp2; go_end0; exact ⟨rfl, (P2.out.put0 s0).put1 s1⟩)
end Go.Proofs.YtnmlmgmljoncoaaGreatDoor.PA
/- What the Go methods by which a number is rounded do to their receiver, for every receiver and every input in their bounds. -/
namespace Go.Proofs.YtnmlmgmljoncoaaGreatDoor.PA
open Go.RowKit Go.Proofs.YtnmlmgmljoncoaaGreatDoorW.PrintWords Go.Proofs.YtnmlmgmljoncoaaGreatDoorW.PrintLast Go.Proofs.YtnmlmgmljoncoaaGreatDoorW.PrintMore
attribute [local go_sem] max2_int min2_int max_two min_two max_three min_three max_four min_four   -- for this text's walks alone
set_option linter.unusedVariables false
set_option linter.unusedSimpArgs false
set_option maxHeartbeats 8000000 in
set_option maxRecDepth 100000 in
theorem rp_raise (b : Nat) (h l e e2 u f lo hi s0 s1 : Int) (m : Bool) (w : World)
    (c0 : w.cell? ⟨b, 0, none⟩ = some (.int .u64 h)) (c1 : w.cell? ⟨b, 1, none⟩ = some (.int .u64 l)) (c2 : w.cell? ⟨b, 2, none⟩ = some (.int .i64 e)) (c3 : w.cell? ⟨b, 3, none⟩ = some (.bool m))
    (c5 : w.cell? ⟨b, 5, none⟩ = some (.int .i64 f)) (c6 : w.cell? ⟨b, 6, none⟩ = some (.int .i64 lo)) (c7 : w.cell? ⟨b, 7, none⟩ = some (.int .i64 hi))
    (f0 : w.frozen? ⟨b, 0, none⟩ = false) (f1 : w.frozen? ⟨b, 1, none⟩ = false) (f2 : w.frozen? ⟨b, 2, none⟩ = false)
    (e0 : -1099511627776 < e) (e1 : e < 1099511627776) (g0 : 0 ≤ f) (g1 : f < 1000) (g2 : -10000 < lo) (g3 : lo < 10000) (n : Int) (n0 : 0 ≤ n) (n1 : n ≤ 128) (L : wide_Len.f h l = some n)
    (U : mn (f + 1 - n) (e - lo) = u) (X : (0 < u ∧ wide_Left.f h l u = some (s0, s1) ∧ e - u = e2) ∨ (u ≤ 0 ∧ s0 = h ∧ s1 = l ∧ e = e2)) :
    Calls Tryz.prog 244 #[.pointer (some ⟨b, 0, none⟩)] w fun en w' => en = .returned (.bool (decide (e2 ≤ hi))) ∧ rp_PK b s0 s1 e2 m w w' := by
  have hu41 := Tryz.underlying166
  have P2 := Aside0.mk (rp_PK.start c0 c1 c2 c3)
  have LL := Aside0.mk L
  have F := Aside0.mk (show w.frozen? ⟨b, 0, none⟩ = false ∧ w.frozen? ⟨b, 1, none⟩ = false ∧ w.frozen? ⟨b, 2, none⟩ = false from ⟨f0, f1, f2⟩)
  have C := Aside0.mk (show w.cell? ⟨b, 5, none⟩ = some (.int .i64 f) ∧ w.cell? ⟨b, 6, none⟩ = some (.int .i64 lo) ∧ w.cell? ⟨b, 7, none⟩ = some (.int .i64 hi) from ⟨c5, c6, c7⟩)
  have UU := Aside0.mk U
  have W1 := Aside0.mk (show IntKind.i64.wrap (f + 1) = f + 1 by rw [i64_w]; unfold wrap64; omega)
  have W2 := Aside0.mk (show IntKind.i64.wrap (f + 1 - n) = f + 1 - n by rw [i64_w]; unfold wrap64; omega)
  have W3 := Aside0.mk (show IntKind.i64.wrap (e - lo) = e - lo by rw [i64_w]; unfold wrap64; omega)
  have W4 := Aside0.mk (show IntKind.i64.wrap (e - u) = e - u by rw [i64_w]; unfold mn at U; unfold wrap64; split at U <;> omega)
  have X' := Aside0.mk X
  have hd : decide (0 < u) = true ∨ decide (0 < u) = false := by rcases X with ⟨h, _⟩ | ⟨h, _⟩; exact .inl (decide_eq_true h); exact .inr (decide_eq_false (by omega))
  clear L U X e0 e1 g0 g1 g2 g3 n0 n1
  go_enter Tryz.func244, Tryz.ntmps244
  go_wp2_with fail
  have lt := P2.out.lt
  have PP := P2.out
  go_region_held3 (fun w' => w'.cell? ⟨b, 0, none⟩ = some (.int .u64 h) ∧ w'.cell? ⟨b, 1, none⟩ = some (.int .u64 l) ∧ w'.cell? ⟨b, 2, none⟩ = some (.int .i64 e) ∧ w'.cell? ⟨b, 5, none⟩ = some (.int .i64 f) ∧ w'.cell? ⟨b, 6, none⟩ = some (.int .i64 lo) ∧ b < w'.heap.size ∧ rp_PK b h l e m w w')
    (((try go_split_ands); (try dsimp only); (repeat' apply And.intro) <;> first | assumption | (rw [hc _ _ (by assumption)]; assumption) | (exact Nat.lt_of_lt_of_le (by assumption) hb.size) | (exact rp_PK.below (by assumption) hb) | (apply rp_PK.drew; assumption)))
    ((go_at_call 240; (with_reducible refine (wide_Len.calls h l n _ LL.out).mono ?_); rintro e' w1 ⟨rfl, hb⟩; obtain ⟨hc, hf⟩ := Nr.bcell hb))
  rename_i hH
  obtain ⟨_, _, _, _, _, _, P3⟩ := hH
  rw [W1.out, W2.out, W3.out, show (if e - lo < f + 1 - n then e - lo else f + 1 - n) = u from UU.out]
  clear hb hc hf W1 W2 W3 UU P2 LL lt PP f0 f1 f2 c0 c1 c2 c3 c5 c6 c7
  rename_i q1 q2 q3 q4 q5 q6
  clear q1 q2 q3 q4 q5 q6
  have P2 := Aside0.mk P3
  have c0 := P3.c0; have c1 := P3.c1; have c2 := P3.c2; have c7 := (P3.cs 7 (by decide)).trans C.out.2.2
  have f0 := (P3.fs 0).trans F.out.1; have f1 := (P3.fs 1).trans F.out.2.1; have f2 := (P3.fs 2).trans F.out.2.2
  clear P3
  rcases hd with hd | hd
  · obtain ⟨B, rfl⟩ : Aside0 (wide_Left.f h l u = some (s0, s1)) ∧ e - u = e2 := by
      rcases X'.out with ⟨_, h1, h2⟩ | ⟨h1, _⟩
      · exact ⟨⟨h1⟩, h2⟩
      · have := of_decide_eq_true hd; omega
    have W5 := W4.out
    clear X' W4
    go_wp2_with fail
    go_region_with (first | (go_at_call 242; (with_reducible refine (wide_Left.calls h l u s0 s1 _ B.out).mono ?_); rintro e' w3 ⟨rfl, hb⟩; have P2 := Aside0.mk (rp_PK.below (by repeat (first | exact P2.out | apply rp_PK.drew | apply rp_PK.alloc)) hb); clear hb c0 c1 c2 c7 f0 f1 f2; have c0 := P2.out.c0; have c1 := P2.out.c1; have c2 := P2.out.c2; have c7 := (P2.out.cs 7 (by decide)).trans C.out.2.2; have f0 := (P2.out.fs 0).trans F.out.1; have f1 := (P2.out.fs 1).trans F.out.2.1; have f2 := (P2.out.fs 2).trans F.out.2.2))
    all_goals (have P3 := Aside0.mk (((P2.out.put0 s0).put1 s1).put2 (e - u)); generalize ((w3.setCell ⟨b, 0, none⟩ (.int .u64 s0)).setCell ⟨b, 1, none⟩ (.int .u64 s1)).setCell ⟨b, 2, none⟩ (.int .i64 (e - u)) = w5 at P3 ⊢; replace c2 := P3.out.c2; replace c7 := (P3.out.cs 7 (by decide)).trans C.out.2.2; clear P2 c0 c1 f0 f1 f2 B W5 hd)
    all_goals (go_wp2; go_region; go_wp2; go_ret; exact ⟨rfl, P3.out.drew⟩)
  · obtain ⟨rfl, rfl, rfl⟩ : s0 = h ∧ s1 = l ∧ e = e2 := by
      rcases X'.out with ⟨h1, _⟩ | ⟨_, h1⟩
      · have := of_decide_eq_false hd; omega
      · exact h1
    clear X' W4
    go_wp2_with fail
    go_region
    go_wp2
    go_ret
    exact ⟨rfl, P2.out.drew⟩
end Go.Proofs.YtnmlmgmljoncoaaGreatDoor.PA
namespace Go.Proofs.YtnmlmgmljoncoaaGreatDoor.PA
open Go.RowKit Go.Proofs.YtnmlmgmljoncoaaGreatDoorW.PrintWords Go.Proofs.YtnmlmgmljoncoaaGreatDoorW.PrintLast Go.Proofs.YtnmlmgmljoncoaaGreatDoorW.PrintMore
attribute [local go_sem] max2_int min2_int max_two min_two max_three min_three max_four min_four   -- for this text's walks alone
set_option linter.unusedVariables false
set_option linter.unusedSimpArgs false
set_option maxHeartbeats 8000000
set_option maxRecDepth 100000
def shape_format_sign.f (a0_0 : Int) (a0_1 : Int) (a1 : Bool) : Option (Int) := if a1 = true then (if 0 ≤ (wrap64 (a0_0 + a0_1)) then (some (shl .u64 1 (wrap64 (a0_0 + a0_1)))) else (none)) else (some 0)
theorem shape_format_sign.calls (a0_0 : Int) (a0_1 : Int) (a1 : Bool) (r : Int) (w : World) (h : shape_format_sign.f a0_0 a0_1 a1 = some r) :
  Calls Tryz.prog 160 #[.agg #[.int .i64 a0_0, .int .i64 a0_1], .bool a1] w fun e w' => e = .returned (.int .u64 r) ∧ Below w.heap.size w w' := by
 have hu65 := Tryz.underlying65
 have HB := A_ (Below.refl w.heap.size w)
 have H : (if a1 = true then (if 0 ≤ (wrap64 (a0_0 + a0_1)) then (some (shl .u64 1 (wrap64 (a0_0 + a0_1)))) else (none)) else (some 0)) = some r := h
 clear h
 by_cases c3 : a1 = true
 ·subst c3
  have H1 : (if 0 ≤ (wrap64 (a0_0 + a0_1)) then (some (shl .u64 1 (wrap64 (a0_0 + a0_1)))) else (none)) = some r := by rw [if_pos rfl] at H; exact H
  clear H;have H := H1;clear H1
  obtain ⟨ji4, hji4⟩ : ∃ j_ : Int, (wrap64 (a0_0 + a0_1)) = j_ := ⟨_, rfl⟩
  replace H : (if 0 ≤ (ji4) then (some (shl .u64 1 (ji4))) else (none)) = some r := by first | (rw [hji4] at H; exact H) | (simp only [hji4] at H ⊢; exact H)
  have hji4w : (IntKind.i64.wrap (a0_0 + a0_1)) = ji4 := (i64_w _).trans hji4
  by_cases c5 : 0 ≤ (ji4)
  ·rw [if_pos c5] at H
   have c5b0 := eq_true c5
   have c5b1 : decide (0 ≤ (ji4)) = true := decide_eq_true c5
   clear c5
   obtain ⟨ji6, hji6⟩ : ∃ j_ : Int, (shl .u64 1 (ji4)) = j_ := ⟨_, rfl⟩
   replace H : (some ji6) = some r := by first | (rw [hji6] at H; exact H) | (simp only [hji6] at H ⊢; exact H)
   have hji6_ : (IntKind.u64.wrap (1 * 2 ^ min (ji4).toNat 64)) = ji6 := hji6
   have hji6z : (ji4) ≤ 64 → (IntKind.u64.wrap (1 * 2 ^ (ji4).toNat)) = ji6 := shl_small hji6
   have hji6u : (IntKind.u64.wrap (2 ^ min (ji4).toNat 64)) = ji6 := by have h_ := hji6_; rw [Int.one_mul] at h_; exact h_
   have hji6v : (ji4) ≤ 64 → (IntKind.u64.wrap (2 ^ (ji4).toNat)) = ji6 := fun hle_ => by have h_ := hji6z hle_; rw [Int.one_mul] at h_; exact h_
   obtain rfl := Option.some.inj H
   go_enter Tryz.func160, Tryz.ntmps160
   go_wp2_with (first | ((with_reducible refine gate_dst (N := 2) rfl ?_); refine be_ 2 #[.int .i64 a0_0, .int .i64 a0_1] 65 ?_; intro gb176 hg w7 hbox hb; have BK176 := A_ (hbox); have GW176 := A_ (sz_ hg (hb_ HB.out)); have GE176 := A_ (sz_ hg (hb_ HB.out)); replace HB := A_ (below_step (hb_ HB.out) hb); clear hb hbox hg; have hcz8_0 := bv_ BK176.out 0; have hcz8_1 := bv_ BK176.out 1; have hfz8_0 := blk_frozen BK176.out 0; have hfz8_1 := blk_frozen BK176.out 1))
   go_ret
   exact ⟨by first | rfl | (simp [errW_none, errW_some] <;> rfl) | (simp only [← hji4, ← hji6]; first | rfl | (simp [errW_none, errW_some] <;> rfl)) | (simp [*, errW_none, errW_some] <;> rfl), hb1_ HB.out GE176.out⟩
  ·rw [if_neg c5] at H
   exact absurd H (by simp)
 ·replace c3 := Bool.eq_false_iff.mpr c3
  subst c3
  have H1 : (some 0) = some r := by rw [if_neg (show ¬ (false = true) by decide)] at H; exact H
  clear H;have H := H1;clear H1
  obtain rfl := Option.some.inj H
  go_enter Tryz.func160, Tryz.ntmps160
  go_wp2_with (first | ((with_reducible refine gate_dst (N := 2) rfl ?_); refine be_ 2 #[.int .i64 a0_0, .int .i64 a0_1] 65 ?_; intro gb176 hg w9 hbox hb; have BK176 := A_ (hbox); have GW176 := A_ (sz_ hg (hb_ HB.out)); have GE176 := A_ (sz_ hg (hb_ HB.out)); replace HB := A_ (below_step (hb_ HB.out) hb); clear hb hbox hg))
  go_ret
  exact ⟨er_, hb1_ HB.out GE176.out⟩
def shape_of.f (a0 : Int) : Option (Int × Int × Bool) := if a0 = 32 then (some (8, 23, true)) else (if a0 = 64 then (some (11, 52, true)) else (some (0, 0, false)))
theorem shape_of.calls (a0 : Int) (r1 : Int) (r2 : Int) (r3 : Bool) (w : World) (h : shape_of.f a0 = some (r1, r2, r3)) :
  Calls Tryz.prog 35 #[.int .i64 a0] w fun e w' => e = .returned (.tuple #[.agg #[.int .i64 r1, .int .i64 r2], .bool r3]) ∧ Below w.heap.size w w' := by
 have hu65 := Tryz.underlying65
 have HB := A_ (Below.refl w.heap.size w)
 have H : (if a0 = 32 then (some (8, 23, true)) else (if a0 = 64 then (some (11, 52, true)) else (some (0, 0, false)))) = some (r1, r2, r3) := h
 clear h
 by_cases c2 : a0 = 32
 ·rw [if_pos c2] at H
  have c2b0 : (a0 == 32) = true := beq_iff_eq.mpr c2
  have c2b1 : (a0 != 32) = false := bne_eq_false_iff_eq.mpr c2
  clear c2
  simp only [Option.some.injEq, Prod.mk.injEq] at H
  obtain ⟨rfl, rfl, rfl⟩ := H
  go_enter Tryz.func35, Tryz.ntmps35
  go_wp2_with (first | ((with_reducible refine gate_dst (N := 2) rfl ?_); refine be_ 2 #[.int .i64 0, .int .i64 0] 65 ?_; intro gb155 hg w3 hbox hb; have BK155 := A_ (hbox); have GW155 := A_ (sz_ hg (hb_ HB.out)); have GE155 := A_ (sz_ hg (hb_ HB.out)); replace HB := A_ (below_step (hb_ HB.out) hb); clear hb hbox hg; have hcz4_0 := bv_ BK155.out 0; have hcz4_1 := bv_ BK155.out 1; have hfz4_0 := blk_frozen BK155.out 0; have hfz4_1 := blk_frozen BK155.out 1))
  refine bodyPost_ret (results_ct rfl _ _ gb155 65 #[.int .i64 8, .int .i64 23] (0, 0) _ rfl (by (with_reducible repeat (first | refine blk_drewN ?_ _ | refine blk_drew ?_ | refine blk_alloc ?_ _)); refine blk_put (cs := #[.int .i64 8, .int .i64 0]) ?_ 1 _ rfl; (with_reducible repeat (first | refine blk_drewN ?_ _ | refine blk_drew ?_ | refine blk_alloc ?_ _)); refine blk_put (cs := #[.int .i64 0, .int .i64 0]) ?_ 0 _ rfl; (with_reducible repeat (first | refine blk_drewN ?_ _ | refine blk_drew ?_ | refine blk_alloc ?_ _)); exact BK155.out) Tryz.underlying65 rfl (by kernel_rfl)) rfl ?_
  exact ⟨er_, hb1_ HB.out GE155.out⟩
 ·rw [if_neg c2] at H
  have c2b0 : (a0 == 32) = false := beq_eq_false_iff_ne.mpr c2
  have c2b1 : (a0 != 32) = true := bne_iff_ne.mpr c2
  by_cases c5 : a0 = 64
  ·rw [if_pos c5] at H
   have c5b0 : (a0 == 64) = true := beq_iff_eq.mpr c5
   have c5b1 : (a0 != 64) = false := bne_eq_false_iff_eq.mpr c5
   clear c5
   simp only [Option.some.injEq, Prod.mk.injEq] at H
   obtain ⟨rfl, rfl, rfl⟩ := H
   go_enter Tryz.func35, Tryz.ntmps35
   go_wp2_with (first | ((with_reducible refine gate_dst (N := 2) rfl ?_); refine be_ 2 #[.int .i64 0, .int .i64 0] 65 ?_; intro gb155 hg w6 hbox hb; have BK155 := A_ (hbox); have GW155 := A_ (sz_ hg (hb_ HB.out)); have GE155 := A_ (sz_ hg (hb_ HB.out)); replace HB := A_ (below_step (hb_ HB.out) hb); clear hb hbox hg; have hcz7_0 := bv_ BK155.out 0; have hcz7_1 := bv_ BK155.out 1; have hfz7_0 := blk_frozen BK155.out 0; have hfz7_1 := blk_frozen BK155.out 1))
   refine bodyPost_ret (results_ct rfl _ _ gb155 65 #[.int .i64 11, .int .i64 52] (0, 0) _ rfl (by (with_reducible repeat (first | refine blk_drewN ?_ _ | refine blk_drew ?_ | refine blk_alloc ?_ _)); refine blk_put (cs := #[.int .i64 11, .int .i64 0]) ?_ 1 _ rfl; (with_reducible repeat (first | refine blk_drewN ?_ _ | refine blk_drew ?_ | refine blk_alloc ?_ _)); refine blk_put (cs := #[.int .i64 0, .int .i64 0]) ?_ 0 _ rfl; (with_reducible repeat (first | refine blk_drewN ?_ _ | refine blk_drew ?_ | refine blk_alloc ?_ _)); exact BK155.out) Tryz.underlying65 rfl (by kernel_rfl)) rfl ?_
   exact ⟨er_, hb1_ HB.out GE155.out⟩
  ·rw [if_neg c5] at H
   have c5b0 : (a0 == 64) = false := beq_eq_false_iff_ne.mpr c5
   have c5b1 : (a0 != 64) = true := bne_iff_ne.mpr c5
   simp only [Option.some.injEq, Prod.mk.injEq] at H
   obtain ⟨rfl, rfl, rfl⟩ := H
   go_enter Tryz.func35, Tryz.ntmps35
   go_wp2_with (first | ((with_reducible refine gate_dst (N := 2) rfl ?_); refine be_ 2 #[.int .i64 0, .int .i64 0] 65 ?_; intro gb155 hg w8 hbox hb; have BK155 := A_ (hbox); have GW155 := A_ (sz_ hg (hb_ HB.out)); have GE155 := A_ (sz_ hg (hb_ HB.out)); replace HB := A_ (below_step (hb_ HB.out) hb); clear hb hbox hg; have hcz9_0 := bv_ BK155.out 0; have hcz9_1 := bv_ BK155.out 1; have hfz9_0 := blk_frozen BK155.out 0; have hfz9_1 := blk_frozen BK155.out 1))
   refine bodyPost_ret (results_ct rfl _ _ gb155 65 #[.int .i64 0, .int .i64 0] (0, 0) _ rfl (by (with_reducible repeat (first | refine blk_drewN ?_ _ | refine blk_drew ?_ | refine blk_alloc ?_ _)); refine blk_put (cs := #[.int .i64 0, .int .i64 0]) ?_ 1 _ rfl; (with_reducible repeat (first | refine blk_drewN ?_ _ | refine blk_drew ?_ | refine blk_alloc ?_ _)); refine blk_put (cs := #[.int .i64 0, .int .i64 0]) ?_ 0 _ rfl; (with_reducible repeat (first | refine blk_drewN ?_ _ | refine blk_drew ?_ | refine blk_alloc ?_ _)); exact BK155.out) Tryz.underlying65 rfl (by kernel_rfl)) rfl ?_
   exact ⟨er_, hb1_ HB.out GE155.out⟩
def shape_Zero.f (a0 : Int) (a1 : Bool) : Option (Int) := (shape_of.f a0).bind fun bt177 => (if bt177.2.2 = true then ((shape_format_sign.f bt177.1 bt177.2.1 a1).bind fun t181 => (some t181)) else (some 0))
theorem shape_Zero.calls (a0 : Int) (a1 : Bool) (r : Int) (w : World) (h : shape_Zero.f a0 a1 = some r) :
  Calls Tryz.prog 145 #[.int .i64 a0, .bool a1] w fun e w' => e = .returned (.int .u64 r) ∧ Below w.heap.size w w' := by
 have hu65 := Tryz.underlying65
 have HB := A_ (Below.refl w.heap.size w)
 have H : ((shape_of.f a0).bind fun bt177 => (if bt177.2.2 = true then ((shape_format_sign.f bt177.1 bt177.2.1 a1).bind fun t181 => (some t181)) else (some 0))) = some r := h
 clear h
 replace H := ob_ H
 obtain ⟨⟨t177, t178, t179⟩, A30, H⟩ := H
 replace H : (if t179 = true then ((shape_format_sign.f t177 t178 a1).bind fun t181 => (some t181)) else (some 0)) = some r := H
 have A3 := A_ A30;clear A30
 by_cases c4 : t179 = true
 ·subst c4
  have H1 : ((shape_format_sign.f t177 t178 a1).bind fun t181 => (some t181)) = some r := by rw [if_pos rfl] at H; exact H
  clear H;have H := H1;clear H1
  replace H := ob_ H
  obtain ⟨t181, A50, H⟩ := H
  replace H : (some t181) = some r := H
  have A5 := A_ A50;clear A50
  obtain rfl := Option.some.inj H
  go_enter Tryz.func145, Tryz.ntmps145
  go_wp2_with (first | ((with_reducible refine gate_callee (f := 35) rfl ?_); refine goesL_ (some 9) rfl rfl Tryz.func35 (by kernel_rfl) rfl #[.int .i64 a0] rfl mp_ ?_; (with_reducible refine (shape_of.calls a0 t177 t178 true _ A3.out).mono ?_); rintro e w6 ⟨rfl, hb⟩; refine ⟨_, rfl, ?_⟩; replace HB := A_ (below_step (hb_ HB.out) hb); (try clear hb); (try clear hb2); (try clear hk); (try clear hi)) | ((with_reducible refine gate_dst (N := 5) rfl ?_); refine be_ 5 #[.int .i64 0, .int .i64 0] 65 ?_; intro gb180 hg w7 hbox hb; have BK180 := A_ (hbox); have GW180 := A_ (sz_ hg (hb_ HB.out)); have GE180 := A_ (sz_ hg (hb_ HB.out)); replace HB := A_ (below_step (hb_ HB.out) hb); clear hb hbox hg; have hcz8_0 := bv_ BK180.out 0; have hcz8_1 := bv_ BK180.out 1; have hfz8_0 := blk_frozen BK180.out 0; have hfz8_1 := blk_frozen BK180.out 1) | ((with_reducible refine gate_callee (f := 160) rfl ?_); refine goesL_ (some 16) rfl rfl Tryz.func160 (by kernel_rfl) rfl #[.agg #[.int .i64 t177, .int .i64 t178], .bool a1] rfl mp_ ?_; (with_reducible refine (shape_format_sign.calls t177 t178 a1 t181 _ A5.out).mono ?_); rintro e w9 ⟨rfl, hb⟩; refine ⟨_, rfl, ?_⟩; replace BK180 := A_ (blk_below (g := gb180) (o := .cells #[.int .i64 t177, .int .i64 t178] 65 (0, 0)) (by (with_reducible repeat (first | refine blk_drewN ?_ _ | refine blk_drew ?_ | refine blk_alloc ?_ _)); refine blk_put (cs := #[.int .i64 t177, .int .i64 0]) ?_ 1 _ rfl; (with_reducible repeat (first | refine blk_drewN ?_ _ | refine blk_drew ?_ | refine blk_alloc ?_ _)); refine blk_put (cs := #[.int .i64 0, .int .i64 0]) ?_ 0 _ rfl; (with_reducible repeat (first | refine blk_drewN ?_ _ | refine blk_drew ?_ | refine blk_alloc ?_ _)); exact BK180.out) hb); replace HB := A_ (below_step (hb1_ HB.out GE180.out) hb); (try clear hb); (try clear hb2); (try clear hk); (try clear hi)))
  go_ret
  exact ⟨er_, hb1_ HB.out GE180.out⟩
 ·replace c4 := Bool.eq_false_iff.mpr c4
  subst c4
  have H1 : (some 0) = some r := by rw [if_neg (show ¬ (false = true) by decide)] at H; exact H
  clear H;have H := H1;clear H1
  obtain rfl := Option.some.inj H
  go_enter Tryz.func145, Tryz.ntmps145
  go_wp2_with (first | ((with_reducible refine gate_callee (f := 35) rfl ?_); refine goesL_ (some 9) rfl rfl Tryz.func35 (by kernel_rfl) rfl #[.int .i64 a0] rfl mp_ ?_; (with_reducible refine (shape_of.calls a0 t177 t178 false _ A3.out).mono ?_); rintro e w10 ⟨rfl, hb⟩; refine ⟨_, rfl, ?_⟩; replace HB := A_ (below_step (hb_ HB.out) hb); (try clear hb); (try clear hb2); (try clear hk); (try clear hi)) | ((with_reducible refine gate_dst (N := 5) rfl ?_); refine be_ 5 #[.int .i64 0, .int .i64 0] 65 ?_; intro gb180 hg w11 hbox hb; have BK180 := A_ (hbox); have GW180 := A_ (sz_ hg (hb_ HB.out)); have GE180 := A_ (sz_ hg (hb_ HB.out)); replace HB := A_ (below_step (hb_ HB.out) hb); clear hb hbox hg; have hcz12_0 := bv_ BK180.out 0; have hcz12_1 := bv_ BK180.out 1; have hfz12_0 := blk_frozen BK180.out 0; have hfz12_1 := blk_frozen BK180.out 1))
  go_ret
  exact ⟨er_, hb1_ HB.out GE180.out⟩
def shape_format_join.f (a0_0 : Int) (a0_1 : Int) (a1 : Bool) (a2 : Int) (a3 : Int) : Option (Int) := (shape_format_sign.f a0_0 a0_1 a1).bind fun t240 => (if 0 ≤ a0_1 then (some (Go.bits .or .u64 (Go.bits .or .u64 t240 (shl .u64 a2 a0_1)) a3)) else (none))
def shape_format_join.T1 : Bool × List (List Nat × List Nat) := (true, [([], []), ([], []), ([0, 1], [0, 1]), ([], []), ([], []), ([4], [4]), ([3, 5], [3, 5]), ([2, 6], [2, 6]), ([], []), ([7, 8], [7, 8]), ([9, 2, 0, 1, 2, 3, 4, 5, 6, 7, 8, 9], [9])])
def shape_format_join.B1 : List Nat := [0, 0, 3, 0, 0, 16, 56, 127, 0, 511, 1023]
theorem shape_format_join.tab1 : rtab .any (opsOf Tryz.f99 1) = shape_format_join.T1 := by kernel_rfl
theorem shape_format_join.bits1 : waitsOk shape_format_join.T1.2 shape_format_join.B1 = true := by kernel_rfl
theorem shape_format_join.calls (a0_0 : Int) (a0_1 : Int) (a1 : Bool) (a2 : Int) (a3 : Int) (r : Int) (w : World) (h : shape_format_join.f a0_0 a0_1 a1 a2 a3 = some r) :
  Calls Tryz.prog 99 #[.agg #[.int .i64 a0_0, .int .i64 a0_1], .bool a1, .int .u64 a2, .int .u64 a3] w fun e w' => e = .returned (.int .u64 r) ∧ Below w.heap.size w w' := by
 have hu65 := Tryz.underlying65
 have HB := A_ (Below.refl w.heap.size w)
 have H : ((shape_format_sign.f a0_0 a0_1 a1).bind fun t240 => (if 0 ≤ a0_1 then (some (Go.bits .or .u64 (Go.bits .or .u64 t240 (shl .u64 a2 a0_1)) a3)) else (none))) = some r := h
 clear h
 replace H := ob_ H
 obtain ⟨t240, A50, H⟩ := H
 replace H : (if 0 ≤ a0_1 then (some (Go.bits .or .u64 (Go.bits .or .u64 t240 (shl .u64 a2 a0_1)) a3)) else (none)) = some r := H
 have A5 := A_ A50;clear A50
 by_cases c6 : 0 ≤ a0_1
 ·rw [if_pos c6] at H
  have c6b0 := eq_true c6
  have c6b1 : decide (0 ≤ a0_1) = true := decide_eq_true c6
  clear c6
  obtain ⟨ji7, hji7⟩ : ∃ j_ : Int, (shl .u64 a2 a0_1) = j_ := ⟨_, rfl⟩
  replace H : (some (Go.bits .or .u64 (Go.bits .or .u64 t240 (ji7)) a3)) = some r := by first | (rw [hji7] at H; exact H) | (simp only [hji7] at H ⊢; exact H)
  (try rw [hji7] at A5)
  have hji7_ : (IntKind.u64.wrap (a2 * 2 ^ min a0_1.toNat 64)) = ji7 := hji7
  have hji7z : a0_1 ≤ 64 → (IntKind.u64.wrap (a2 * 2 ^ a0_1.toNat)) = ji7 := shl_small hji7
  obtain rfl := Option.some.inj H
  go_enter Tryz.func99, Tryz.ntmps99
  try go_wp2_with (first | ((with_reducible refine gate_dst (N := 4) rfl ?_); refine be_ 4 #[.int .i64 a0_0, .int .i64 a0_1] 65 ?_; intro gb239 hg w8 hbox hb; have BK239 := A_ (hbox); have GW239 := A_ (sz_ hg (hb_ HB.out)); have GE239 := A_ (sz_ hg (hb_ HB.out)); replace HB := A_ (below_step (hb_ HB.out) hb); clear hb hbox hg))
  replace BK239 := A_ (blk_drew BK239.out)
  replace HB := A_ (below_drew1 HB.out)
  refine start_ (n := 11) (S := fun w' => w'.cell? ⟨gb239, 0, none⟩ = some (.int .i64 a0_0) ∧ w'.cell? ⟨gb239, 1, none⟩ = some (.int .i64 a0_1)) (ds := []) #[false, false, false, false, false, false, false, false, false, false, false] (by kernel_rfl) rfl rfl ⟨bc_ BK239.out 0, bc_ BK239.out 1⟩ (fun hHeld => ?_); refine with_tabW shape_format_join.tab1 shape_format_join.bits1 (fun HT_ HW_ => ?_)
  generalize w8.drew = w9 at BK239 HB hHeld ⊢
  refine pu_ 1 (some 10) #[false, true, false, false, false, false, false, false, false, false, false] rfl rfl (any_of HT_.out (by kernel_rfl)) ?_
  refine pu_ 3 (some 12) #[false, true, false, true, false, false, false, false, false, false, false] rfl rfl (any_of HT_.out (by kernel_rfl)) ?_
  refine pu_ 4 (some 13) #[false, true, false, true, true, false, false, false, false, false, false] rfl rfl (any_of HT_.out (by kernel_rfl)) ?_
  refine pu_ 8 (some 17) #[false, true, false, true, true, false, false, false, true, false, false] rfl rfl (any_of HT_.out (by kernel_rfl)) ?_
  refine tk2_ 0 (some 9) #[true, true, false, true, true, false, false, false, true, false, false] rfl rfl (take_ofW HT_.out HW_.out (by kernel_rfl)) hHeld ?_
  refine tk2_ 5 (some 14) #[true, true, false, true, true, true, false, false, true, false, false] rfl rfl (take_ofW HT_.out HW_.out (by kernel_rfl)) hHeld ?_
  refine pu_ 6 (some 15) #[true, true, false, true, true, true, true, false, true, false, false] rfl rfl (any_of HT_.out (by kernel_rfl)) ?_
  refine one_ (i := 2) (N := some 11) #[true, true, true, true, true, true, true, false, true, false, false] rfl rfl (one_of HT_.out (by kernel_rfl)) (by decide) (fun K hK => ?_)
  refine goes_ Tryz.func160 (by kernel_rfl) rfl #[.agg #[.int .i64 a0_0, .int .i64 a0_1], .bool a1] (by rfl) rfl rfl mp_ ?_
  with_reducible refine (shape_format_sign.calls a0_0 a0_1 a1 t240 _ A5.out).mono ?_
  rintro e w10 ⟨rfl, hb⟩
  refine ⟨_, rfl, ?_⟩
  replace BK239 := A_ (bb_ BK239.out hb)
  replace HB := A_ (below_step (hb1_ HB.out GE239.out) hb);(try clear hb);(try clear hb2);(try clear hk);(try clear hi)
  refine hK.out _ _ ⟨bc_ BK239.out 0, bc_ BK239.out 1⟩ (fun hHeld => ?_)
  clear hK K
  refine norm_ (a' := ?_) ?_ ?_
  rotate_left
  ·show Act.put _ (some 11) _ = _
   simp only [Act.put, lI_, l0_, lS_, i64_w, i32_w]
   rfl
  refine pu_ 7 (some 16) #[true, true, true, true, true, true, true, true, true, false, false] rfl rfl (any_of HT_.out (by kernel_rfl)) ?_
  refine pu_ 9 (some 18) #[true, true, true, true, true, true, true, true, true, true, false] rfl rfl (any_of HT_.out (by kernel_rfl)) ?_
  refine pu_ 10 (some 8) #[true, true, true, true, true, true, true, true, true, true, true] rfl rfl (any_of HT_.out (by kernel_rfl)) ?_
  refine done_ (done_of HT_.out (by kernel_rfl)) ?_
  try go_wp2
  go_ret
  exact ⟨by first | rfl | (simp [errW_none, errW_some] <;> rfl) | (simp only [← hji7]; first | rfl | (simp [errW_none, errW_some] <;> rfl)) | (simp [*, errW_none, errW_some] <;> rfl), hb1_ HB.out GE239.out⟩
 ·rw [if_neg c6] at H
  exact absurd H (by simp)
def shape_format_ones.f (a0_0 : Int) (a0_1 : Int) : Option (Int) := if 0 ≤ a0_0 then (some (IntKind.u64.wrap ((shl .u64 1 a0_0) - 1))) else (none)
theorem shape_format_ones.calls (a0_0 : Int) (a0_1 : Int) (r : Int) (w : World) (h : shape_format_ones.f a0_0 a0_1 = some r) :
  Calls Tryz.prog 37 #[.agg #[.int .i64 a0_0, .int .i64 a0_1]] w fun e w' => e = .returned (.int .u64 r) ∧ Below w.heap.size w w' := by
 have hu65 := Tryz.underlying65
 have HB := A_ (Below.refl w.heap.size w)
 have H : (if 0 ≤ a0_0 then (some (IntKind.u64.wrap ((shl .u64 1 a0_0) - 1))) else (none)) = some r := h
 clear h
 by_cases c2 : 0 ≤ a0_0
 ·rw [if_pos c2] at H
  have c2b0 := eq_true c2
  have c2b1 : decide (0 ≤ a0_0) = true := decide_eq_true c2
  clear c2
  obtain ⟨ji3, hji3⟩ : ∃ j_ : Int, (shl .u64 1 a0_0) = j_ := ⟨_, rfl⟩
  replace H : (some (IntKind.u64.wrap ((ji3) - 1))) = some r := by first | (rw [hji3] at H; exact H) | (simp only [hji3] at H ⊢; exact H)
  have hji3_ : (IntKind.u64.wrap (1 * 2 ^ min a0_0.toNat 64)) = ji3 := hji3
  have hji3z : a0_0 ≤ 64 → (IntKind.u64.wrap (1 * 2 ^ a0_0.toNat)) = ji3 := shl_small hji3
  have hji3u : (IntKind.u64.wrap (2 ^ min a0_0.toNat 64)) = ji3 := by have h_ := hji3_; rw [Int.one_mul] at h_; exact h_
  have hji3v : a0_0 ≤ 64 → (IntKind.u64.wrap (2 ^ a0_0.toNat)) = ji3 := fun hle_ => by have h_ := hji3z hle_; rw [Int.one_mul] at h_; exact h_
  obtain rfl := Option.some.inj H
  go_enter Tryz.func37, Tryz.ntmps37
  go_wp2_with (first | ((with_reducible refine gate_dst (N := 1) rfl ?_); refine be_ 1 #[.int .i64 a0_0, .int .i64 a0_1] 65 ?_; intro gb156 hg w4 hbox hb; have BK156 := A_ (hbox); have GW156 := A_ (sz_ hg (hb_ HB.out)); have GE156 := A_ (sz_ hg (hb_ HB.out)); replace HB := A_ (below_step (hb_ HB.out) hb); clear hb hbox hg; have hcz5_0 := bv_ BK156.out 0; have hcz5_1 := bv_ BK156.out 1; have hfz5_0 := blk_frozen BK156.out 0; have hfz5_1 := blk_frozen BK156.out 1))
  go_ret
  exact ⟨by first | rfl | (simp [errW_none, errW_some] <;> rfl) | (simp only [← hji3]; first | rfl | (simp [errW_none, errW_some] <;> rfl)) | (simp [*, errW_none, errW_some] <;> rfl), hb1_ HB.out GE156.out⟩
 ·rw [if_neg c2] at H
  exact absurd H (by simp)
def shape_Inf.f (a0 : Int) (a1 : Bool) : Option (Int) := (shape_of.f a0).bind fun bt263 => (if bt263.2.2 = true then ((shape_format_ones.f bt263.1 bt263.2.1).bind fun t267 => ((shape_format_join.f bt263.1 bt263.2.1 a1 t267 0).bind fun t268 => (some t268))) else (some 0))
theorem shape_Inf.calls (a0 : Int) (a1 : Bool) (r : Int) (w : World) (h : shape_Inf.f a0 a1 = some r) :
  Calls Tryz.prog 147 #[.int .i64 a0, .bool a1] w fun e w' => e = .returned (.int .u64 r) ∧ Below w.heap.size w w' := by
 have hu65 := Tryz.underlying65
 have HB := A_ (Below.refl w.heap.size w)
 have H : ((shape_of.f a0).bind fun bt263 => (if bt263.2.2 = true then ((shape_format_ones.f bt263.1 bt263.2.1).bind fun t267 => ((shape_format_join.f bt263.1 bt263.2.1 a1 t267 0).bind fun t268 => (some t268))) else (some 0))) = some r := h
 clear h
 replace H := ob_ H
 obtain ⟨⟨t263, t264, t265⟩, A30, H⟩ := H
 replace H : (if t265 = true then ((shape_format_ones.f t263 t264).bind fun t267 => ((shape_format_join.f t263 t264 a1 t267 0).bind fun t268 => (some t268))) else (some 0)) = some r := H
 have A3 := A_ A30;clear A30
 by_cases c4 : t265 = true
 ·subst c4
  have H1 : ((shape_format_ones.f t263 t264).bind fun t267 => ((shape_format_join.f t263 t264 a1 t267 0).bind fun t268 => (some t268))) = some r := by rw [if_pos rfl] at H; exact H
  clear H;have H := H1;clear H1
  replace H := ob_ H
  obtain ⟨t267, A50, H⟩ := H
  replace H : ((shape_format_join.f t263 t264 a1 t267 0).bind fun t268 => (some t268)) = some r := H
  have A5 := A_ A50;clear A50
  replace H := ob_ H
  obtain ⟨t268, A60, H⟩ := H
  replace H : (some t268) = some r := H
  have A6 := A_ A60;clear A60
  obtain rfl := Option.some.inj H
  go_enter Tryz.func147, Tryz.ntmps147
  try go_wp2_with (first | ((with_reducible refine gate_callee (f := 35) rfl ?_); refine goesL_ (some 9) rfl rfl Tryz.func35 (by kernel_rfl) rfl #[.int .i64 a0] rfl mp_ ?_; (with_reducible refine (shape_of.calls a0 t263 t264 true _ A3.out).mono ?_); rintro e w7 ⟨rfl, hb⟩; refine ⟨_, rfl, ?_⟩; replace HB := A_ (below_step (hb_ HB.out) hb); (try clear hb); (try clear hb2); (try clear hk); (try clear hi)) | ((with_reducible refine gate_dst (N := 5) rfl ?_); refine be_ 5 #[.int .i64 0, .int .i64 0] 65 ?_; intro gb266 hg w8 hbox hb; have BK266 := A_ (hbox); have GW266 := A_ (sz_ hg (hb_ HB.out)); have GE266 := A_ (sz_ hg (hb_ HB.out)); replace HB := A_ (below_step (hb_ HB.out) hb); clear hb hbox hg; have hcz9_0 := bv_ BK266.out 0; have hcz9_1 := bv_ BK266.out 1; have hfz9_0 := blk_frozen BK266.out 0; have hfz9_1 := blk_frozen BK266.out 1))
  have n0_ : Aside0 (((w8.setCell ⟨gb266, 0, none⟩ (.int .i64 t263)).setCell ⟨gb266, 1, none⟩ (.int .i64 t264)).heap[gb266]? = some (.cells #[.int .i64 t263, .int .i64 t264] 65 (0, 0))) := ⟨by (with_reducible repeat (first | refine blk_drewN ?_ _ | refine blk_drew ?_ | refine blk_alloc ?_ _)); refine blk_put (cs := #[.int .i64 t263, .int .i64 0]) ?_ 1 _ rfl; (with_reducible repeat (first | refine blk_drewN ?_ _ | refine blk_drew ?_ | refine blk_alloc ?_ _)); refine blk_put (cs := #[.int .i64 0, .int .i64 0]) ?_ 0 _ rfl; (with_reducible repeat (first | refine blk_drewN ?_ _ | refine blk_drew ?_ | refine blk_alloc ?_ _)); exact BK266.out⟩
  have n1_ : Aside0 (Below w.heap.size w ((w8.setCell ⟨gb266, 0, none⟩ (.int .i64 t263)).setCell ⟨gb266, 1, none⟩ (.int .i64 t264))) := ⟨hb1_ HB.out GE266.out⟩
  (try clear BK266);(try clear HB)
  generalize ((w8.setCell ⟨gb266, 0, none⟩ (.int .i64 t263)).setCell ⟨gb266, 1, none⟩ (.int .i64 t264)) = w10 at n0_ n1_ ⊢
  have BK266 := n0_;have HB := n1_;clear n0_ n1_
  replace BK266 := A_ (blk_drew BK266.out)
  replace HB := A_ (below_drew1 HB.out)
  refine start_ (n := 6) (S := fun w' => w'.cell? ⟨gb266, 0, none⟩ = some (.int .i64 t263) ∧ w'.cell? ⟨gb266, 1, none⟩ = some (.int .i64 t264)) (ds := []) #[false, false, false, false, false, false] (by kernel_rfl) rfl rfl ⟨bc_ BK266.out 0, bc_ BK266.out 1⟩ (fun hHeld => ?_)
  generalize w10.drew = w11 at BK266 HB hHeld ⊢
  refine pu_ 1 (some 15) #[false, true, false, false, false, false] rfl rfl (by kernel_rfl) ?_
  refine tk2_ 0 (some 14) #[true, true, false, false, false, false] rfl rfl (by kernel_rfl) hHeld ?_
  refine tk2_ 2 (some 16) #[true, true, true, false, false, false] rfl rfl (by kernel_rfl) hHeld ?_
  refine one_ (i := 3) (N := some 17) #[true, true, true, true, false, false] rfl rfl (by kernel_rfl) (by decide) (fun K hK => ?_)
  refine goes_ Tryz.func37 (by kernel_rfl) rfl #[.agg #[.int .i64 t263, .int .i64 t264]] (by rfl) rfl rfl mp_ ?_
  with_reducible refine (shape_format_ones.calls t263 t264 t267 _ A5.out).mono ?_
  rintro e w12 ⟨rfl, hb⟩
  refine ⟨_, rfl, ?_⟩
  replace BK266 := A_ (bb_ BK266.out hb)
  replace HB := A_ (below_step (hb1_ HB.out GE266.out) hb);(try clear hb);(try clear hb2);(try clear hk);(try clear hi)
  refine hK.out _ _ ⟨bc_ BK266.out 0, bc_ BK266.out 1⟩ (fun hHeld => ?_)
  clear hK K
  refine norm_ (a' := ?_) ?_ ?_
  rotate_left
  ·show Act.put _ (some 17) _ = _
   simp only [Act.put, lI_, l0_, lS_, i64_w, i32_w]
   rfl
  refine one_ (i := 4) (N := some 18) #[true, true, true, true, true, false] rfl rfl (by kernel_rfl) (by decide) (fun K hK => ?_)
  refine goes_ Tryz.func99 (by kernel_rfl) rfl #[.agg #[.int .i64 t263, .int .i64 t264], .bool a1, .int .u64 t267, .int .u64 0] (by rfl) rfl rfl mp_ ?_
  with_reducible refine (shape_format_join.calls t263 t264 a1 t267 0 t268 _ A6.out).mono ?_
  rintro e w13 ⟨rfl, hb⟩
  refine ⟨_, rfl, ?_⟩
  replace BK266 := A_ (bb_ BK266.out hb)
  replace HB := A_ (below_step (hb1_ HB.out GE266.out) hb);(try clear hb);(try clear hb2);(try clear hk);(try clear hi)
  refine hK.out _ _ ⟨bc_ BK266.out 0, bc_ BK266.out 1⟩ (fun hHeld => ?_)
  clear hK K
  refine norm_ (a' := ?_) ?_ ?_
  rotate_left
  ·show Act.put _ (some 18) _ = _
   simp only [Act.put, lI_, l0_, lS_, i64_w, i32_w]
   rfl
  refine pu_ 5 (some 4) #[true, true, true, true, true, true] rfl rfl (by kernel_rfl) ?_
  refine done_ (by kernel_rfl) ?_
  try go_wp2
  go_ret
  exact ⟨er_, hb1_ HB.out GE266.out⟩
 ·replace c4 := Bool.eq_false_iff.mpr c4
  subst c4
  have H1 : (some 0) = some r := by rw [if_neg (show ¬ (false = true) by decide)] at H; exact H
  clear H;have H := H1;clear H1
  obtain rfl := Option.some.inj H
  go_enter Tryz.func147, Tryz.ntmps147
  go_wp2_with (first | ((with_reducible refine gate_callee (f := 35) rfl ?_); refine goesL_ (some 9) rfl rfl Tryz.func35 (by kernel_rfl) rfl #[.int .i64 a0] rfl mp_ ?_; (with_reducible refine (shape_of.calls a0 t263 t264 false _ A3.out).mono ?_); rintro e w14 ⟨rfl, hb⟩; refine ⟨_, rfl, ?_⟩; replace HB := A_ (below_step (hb_ HB.out) hb); (try clear hb); (try clear hb2); (try clear hk); (try clear hi)) | ((with_reducible refine gate_dst (N := 5) rfl ?_); refine be_ 5 #[.int .i64 0, .int .i64 0] 65 ?_; intro gb266 hg w15 hbox hb; have BK266 := A_ (hbox); have GW266 := A_ (sz_ hg (hb_ HB.out)); have GE266 := A_ (sz_ hg (hb_ HB.out)); replace HB := A_ (below_step (hb_ HB.out) hb); clear hb hbox hg; have hcz16_0 := bv_ BK266.out 0; have hcz16_1 := bv_ BK266.out 1; have hfz16_0 := blk_frozen BK266.out 0; have hfz16_1 := blk_frozen BK266.out 1))
  go_ret
  exact ⟨er_, hb1_ HB.out GE266.out⟩
def shape_Nan.f (a0 : Int) : Option (Int) := (shape_of.f a0).bind fun bt241 => (if bt241.2.2 = true then ((shape_format_ones.f bt241.1 bt241.2.1).bind fun t245 => (if 0 ≤ (wrap64 (bt241.2.1 - 1)) then ((shape_format_join.f bt241.1 bt241.2.1 false t245 (shl .u64 1 (wrap64 (bt241.2.1 - 1)))).bind fun t246 => (some t246)) else (none))) else (some 0))
def shape_Nan.T4 : Bool × List (List Nat × List Nat) := (true, [([], []), ([], []), ([1], [1]), ([], []), ([3], [3]), ([4], [4]), ([5], [5]), ([0, 2, 6, 2], [0, 2, 6]), ([7, 7, 0, 1, 2, 3, 4, 5, 6, 7], [7])])
def shape_Nan.B4 : List Nat := [0, 0, 2, 0, 8, 24, 56, 127, 255]
theorem shape_Nan.tab4 : rtab .any (opsOf Tryz.f146 4) = shape_Nan.T4 := by kernel_rfl
theorem shape_Nan.bits4 : waitsOk shape_Nan.T4.2 shape_Nan.B4 = true := by kernel_rfl
theorem shape_Nan.calls (a0 : Int) (r : Int) (w : World) (h : shape_Nan.f a0 = some r) :
  Calls Tryz.prog 146 #[.int .i64 a0] w fun e w' => e = .returned (.int .u64 r) ∧ Below w.heap.size w w' := by
 have hu65 := Tryz.underlying65
 have HB := A_ (Below.refl w.heap.size w)
 have H : ((shape_of.f a0).bind fun bt241 => (if bt241.2.2 = true then ((shape_format_ones.f bt241.1 bt241.2.1).bind fun t245 => (if 0 ≤ (wrap64 (bt241.2.1 - 1)) then ((shape_format_join.f bt241.1 bt241.2.1 false t245 (shl .u64 1 (wrap64 (bt241.2.1 - 1)))).bind fun t246 => (some t246)) else (none))) else (some 0))) = some r := h
 clear h
 replace H := ob_ H
 obtain ⟨⟨t241, t242, t243⟩, A20, H⟩ := H
 replace H : (if t243 = true then ((shape_format_ones.f t241 t242).bind fun t245 => (if 0 ≤ (wrap64 (t242 - 1)) then ((shape_format_join.f t241 t242 false t245 (shl .u64 1 (wrap64 (t242 - 1)))).bind fun t246 => (some t246)) else (none))) else (some 0)) = some r := H
 have A2 := A_ A20;clear A20
 by_cases c3 : t243 = true
 ·subst c3
  have H1 : ((shape_format_ones.f t241 t242).bind fun t245 => (if 0 ≤ (wrap64 (t242 - 1)) then ((shape_format_join.f t241 t242 false t245 (shl .u64 1 (wrap64 (t242 - 1)))).bind fun t246 => (some t246)) else (none))) = some r := by rw [if_pos rfl] at H; exact H
  clear H;have H := H1;clear H1
  replace H := ob_ H
  obtain ⟨t245, A40, H⟩ := H
  replace H : (if 0 ≤ (wrap64 (t242 - 1)) then ((shape_format_join.f t241 t242 false t245 (shl .u64 1 (wrap64 (t242 - 1)))).bind fun t246 => (some t246)) else (none)) = some r := H
  have A4 := A_ A40;clear A40
  obtain ⟨ji5, hji5⟩ : ∃ j_ : Int, (wrap64 (t242 - 1)) = j_ := ⟨_, rfl⟩
  replace H : (if 0 ≤ (ji5) then ((shape_format_join.f t241 t242 false t245 (shl .u64 1 (ji5))).bind fun t246 => (some t246)) else (none)) = some r := by first | (rw [hji5] at H; exact H) | (simp only [hji5] at H ⊢; exact H)
  (try rw [hji5] at A2)
  (try rw [hji5] at A4)
  have hji5w : (IntKind.i64.wrap (t242 - 1)) = ji5 := (i64_w _).trans hji5
  by_cases c6 : 0 ≤ (ji5)
  ·rw [if_pos c6] at H
   have c6b0 := eq_true c6
   have c6b1 : decide (0 ≤ (ji5)) = true := decide_eq_true c6
   clear c6
   obtain ⟨ji7, hji7⟩ : ∃ j_ : Int, (shl .u64 1 (ji5)) = j_ := ⟨_, rfl⟩
   replace H : ((shape_format_join.f t241 t242 false t245 (ji7)).bind fun t246 => (some t246)) = some r := by first | (rw [hji7] at H; exact H) | (simp only [hji7] at H ⊢; exact H)
   (try rw [hji7] at A2)
   (try rw [hji7] at A4)
   have hji7_ : (IntKind.u64.wrap (1 * 2 ^ min (ji5).toNat 64)) = ji7 := hji7
   have hji7z : (ji5) ≤ 64 → (IntKind.u64.wrap (1 * 2 ^ (ji5).toNat)) = ji7 := shl_small hji7
   have hji7u : (IntKind.u64.wrap (2 ^ min (ji5).toNat 64)) = ji7 := by have h_ := hji7_; rw [Int.one_mul] at h_; exact h_
   have hji7v : (ji5) ≤ 64 → (IntKind.u64.wrap (2 ^ (ji5).toNat)) = ji7 := fun hle_ => by have h_ := hji7z hle_; rw [Int.one_mul] at h_; exact h_
   replace H := ob_ H
   obtain ⟨t246, A80, H⟩ := H
   replace H : (some t246) = some r := H
   have A8 := A_ A80;clear A80
   obtain rfl := Option.some.inj H
   go_enter Tryz.func146, Tryz.ntmps146
   try go_wp2_with (first | ((with_reducible refine gate_callee (f := 35) rfl ?_); refine goesL_ (some 7) rfl rfl Tryz.func35 (by kernel_rfl) rfl #[.int .i64 a0] rfl mp_ ?_; (with_reducible refine (shape_of.calls a0 t241 t242 true _ A2.out).mono ?_); rintro e w9 ⟨rfl, hb⟩; refine ⟨_, rfl, ?_⟩; replace HB := A_ (below_step (hb_ HB.out) hb); (try clear hb); (try clear hb2); (try clear hk); (try clear hi)) | ((with_reducible refine gate_dst (N := 3) rfl ?_); refine be_ 3 #[.int .i64 0, .int .i64 0] 65 ?_; intro gb244 hg w10 hbox hb; have BK244 := A_ (hbox); have GW244 := A_ (sz_ hg (hb_ HB.out)); have GE244 := A_ (sz_ hg (hb_ HB.out)); replace HB := A_ (below_step (hb_ HB.out) hb); clear hb hbox hg; have hcz11_0 := bv_ BK244.out 0; have hcz11_1 := bv_ BK244.out 1; have hfz11_0 := blk_frozen BK244.out 0; have hfz11_1 := blk_frozen BK244.out 1))
   have n0_ : Aside0 (((w10.setCell ⟨gb244, 0, none⟩ (.int .i64 t241)).setCell ⟨gb244, 1, none⟩ (.int .i64 t242)).heap[gb244]? = some (.cells #[.int .i64 t241, .int .i64 t242] 65 (0, 0))) := ⟨by (with_reducible repeat (first | refine blk_drewN ?_ _ | refine blk_drew ?_ | refine blk_alloc ?_ _)); refine blk_put (cs := #[.int .i64 t241, .int .i64 0]) ?_ 1 _ rfl; (with_reducible repeat (first | refine blk_drewN ?_ _ | refine blk_drew ?_ | refine blk_alloc ?_ _)); refine blk_put (cs := #[.int .i64 0, .int .i64 0]) ?_ 0 _ rfl; (with_reducible repeat (first | refine blk_drewN ?_ _ | refine blk_drew ?_ | refine blk_alloc ?_ _)); exact BK244.out⟩
   have n1_ : Aside0 (Below w.heap.size w ((w10.setCell ⟨gb244, 0, none⟩ (.int .i64 t241)).setCell ⟨gb244, 1, none⟩ (.int .i64 t242))) := ⟨hb1_ HB.out GE244.out⟩
   (try clear BK244);(try clear HB)
   generalize ((w10.setCell ⟨gb244, 0, none⟩ (.int .i64 t241)).setCell ⟨gb244, 1, none⟩ (.int .i64 t242)) = w12 at n0_ n1_ ⊢
   have BK244 := n0_;have HB := n1_;clear n0_ n1_
   replace BK244 := A_ (blk_drew BK244.out)
   replace HB := A_ (below_drew1 HB.out)
   refine start_ (n := 9) (S := fun w' => w'.cell? ⟨gb244, 0, none⟩ = some (.int .i64 t241) ∧ w'.cell? ⟨gb244, 1, none⟩ = some (.int .i64 t242)) (ds := []) #[false, false, false, false, false, false, false, false, false] (by kernel_rfl) rfl rfl ⟨bc_ BK244.out 0, bc_ BK244.out 1⟩ (fun hHeld => ?_); refine with_tabW shape_Nan.tab4 shape_Nan.bits4 (fun HT_ HW_ => ?_)
   generalize w12.drew = w13 at BK244 HB hHeld ⊢
   refine pu_ 3 (some 15) #[false, false, false, true, false, false, false, false, false] rfl rfl (any_of HT_.out (by kernel_rfl)) ?_
   refine tk2_ 0 (some 12) #[true, false, false, true, false, false, false, false, false] rfl rfl (take_ofW HT_.out HW_.out (by kernel_rfl)) hHeld ?_
   refine tk2_ 1 (some 13) #[true, true, false, true, false, false, false, false, false] rfl rfl (take_ofW HT_.out HW_.out (by kernel_rfl)) hHeld ?_
   refine tk2_ 4 (some 16) #[true, true, false, true, true, false, false, false, false] rfl rfl (take_ofW HT_.out HW_.out (by kernel_rfl)) hHeld ?_
   refine pu_ 5 (some 17) #[true, true, false, true, true, true, false, false, false] rfl rfl (any_of HT_.out (by kernel_rfl)) ?_
   refine pu_ 6 (some 18) #[true, true, false, true, true, true, true, false, false] rfl rfl (any_of HT_.out (by kernel_rfl)) ?_
   refine one_ (i := 2) (N := some 14) #[true, true, true, true, true, true, true, false, false] rfl rfl (one_of HT_.out (by kernel_rfl)) (by decide) (fun K hK => ?_)
   refine goes_ Tryz.func37 (by kernel_rfl) rfl #[.agg #[.int .i64 t241, .int .i64 t242]] (by rfl) rfl rfl mp_ ?_
   with_reducible refine (shape_format_ones.calls t241 t242 t245 _ A4.out).mono ?_
   rintro e w14 ⟨rfl, hb⟩
   refine ⟨_, rfl, ?_⟩
   replace BK244 := A_ (bb_ BK244.out hb)
   replace HB := A_ (below_step (hb1_ HB.out GE244.out) hb);(try clear hb);(try clear hb2);(try clear hk);(try clear hi)
   refine hK.out _ _ ⟨bc_ BK244.out 0, bc_ BK244.out 1⟩ (fun hHeld => ?_)
   clear hK K
   refine norm_ (a' := ?_) ?_ ?_
   rotate_left
   ·show Act.put _ (some 14) _ = _
    simp only [Act.put, lI_, l0_, lS_, i64_w, i32_w]
    rfl
   refine one_ (i := 7) (N := some 19) #[true, true, true, true, true, true, true, true, false] rfl rfl (one_of HT_.out (by kernel_rfl)) (by decide) (fun K hK => ?_)
   refine goes_ Tryz.func99 (by kernel_rfl) rfl #[.agg #[.int .i64 t241, .int .i64 t242], .bool false, .int .u64 t245, .int .u64 ji7] (by rfl) rfl rfl (by (try simp only [List.map_toArray, List.map_cons, List.map_nil]); first | done | (simp only [hji7]; rfl) | rfl | (simp only [List.length_drop, List.length_take]; rfl)) ?_
   with_reducible refine (shape_format_join.calls t241 t242 false t245 ji7 t246 _ A8.out).mono ?_
   rintro e w15 ⟨rfl, hb⟩
   refine ⟨_, rfl, ?_⟩
   replace BK244 := A_ (bb_ BK244.out hb)
   replace HB := A_ (below_step (hb1_ HB.out GE244.out) hb);(try clear hb);(try clear hb2);(try clear hk);(try clear hi)
   refine hK.out _ _ ⟨bc_ BK244.out 0, bc_ BK244.out 1⟩ (fun hHeld => ?_)
   clear hK K
   refine norm_ (a' := ?_) ?_ ?_
   rotate_left
   ·show Act.put _ (some 19) _ = _
    simp only [Act.put, lI_, l0_, lS_, i64_w, i32_w]
    rfl
   refine pu_ 8 (some 2) #[true, true, true, true, true, true, true, true, true] rfl rfl (any_of HT_.out (by kernel_rfl)) ?_
   refine done_ (done_of HT_.out (by kernel_rfl)) ?_
   try go_wp2
   go_ret
   exact ⟨by first | rfl | (simp [errW_none, errW_some] <;> rfl) | (simp only [← hji5, ← hji7]; first | rfl | (simp [errW_none, errW_some] <;> rfl)) | (simp [*, errW_none, errW_some] <;> rfl), hb1_ HB.out GE244.out⟩
  ·rw [if_neg c6] at H
   exact absurd H (by simp)
 ·replace c3 := Bool.eq_false_iff.mpr c3
  subst c3
  have H1 : (some 0) = some r := by rw [if_neg (show ¬ (false = true) by decide)] at H; exact H
  clear H;have H := H1;clear H1
  obtain rfl := Option.some.inj H
  go_enter Tryz.func146, Tryz.ntmps146
  go_wp2_with (first | ((with_reducible refine gate_callee (f := 35) rfl ?_); refine goesL_ (some 7) rfl rfl Tryz.func35 (by kernel_rfl) rfl #[.int .i64 a0] rfl mp_ ?_; (with_reducible refine (shape_of.calls a0 t241 t242 false _ A2.out).mono ?_); rintro e w16 ⟨rfl, hb⟩; refine ⟨_, rfl, ?_⟩; replace HB := A_ (below_step (hb_ HB.out) hb); (try clear hb); (try clear hb2); (try clear hk); (try clear hi)) | ((with_reducible refine gate_dst (N := 3) rfl ?_); refine be_ 3 #[.int .i64 0, .int .i64 0] 65 ?_; intro gb244 hg w17 hbox hb; have BK244 := A_ (hbox); have GW244 := A_ (sz_ hg (hb_ HB.out)); have GE244 := A_ (sz_ hg (hb_ HB.out)); replace HB := A_ (below_step (hb_ HB.out) hb); clear hb hbox hg; have hcz18_0 := bv_ BK244.out 0; have hcz18_1 := bv_ BK244.out 1; have hfz18_0 := blk_frozen BK244.out 0; have hfz18_1 := blk_frozen BK244.out 1))
  go_ret
  exact ⟨er_, hb1_ HB.out GE244.out⟩
def shape_format_low.f (a0_0 : Int) (a0_1 : Int) : Option (Int) := if 0 ≤ (wrap64 (a0_0 - 1)) then (some (wrap64 ((wrap64 (2 - (shl .i64 1 (wrap64 (a0_0 - 1))))) - a0_1))) else (none)
theorem shape_format_low.calls (a0_0 : Int) (a0_1 : Int) (r : Int) (w : World) (h : shape_format_low.f a0_0 a0_1 = some r) :
  Calls Tryz.prog 38 #[.agg #[.int .i64 a0_0, .int .i64 a0_1]] w fun e w' => e = .returned (.int .i64 r) ∧ Below w.heap.size w w' := by
 have hu65 := Tryz.underlying65
 have HB := A_ (Below.refl w.heap.size w)
 have H : (if 0 ≤ (wrap64 (a0_0 - 1)) then (some (wrap64 ((wrap64 (2 - (shl .i64 1 (wrap64 (a0_0 - 1))))) - a0_1))) else (none)) = some r := h
 clear h
 obtain ⟨ji2, hji2⟩ : ∃ j_ : Int, (wrap64 (a0_0 - 1)) = j_ := ⟨_, rfl⟩
 replace H : (if 0 ≤ (ji2) then (some (wrap64 ((wrap64 (2 - (shl .i64 1 (ji2)))) - a0_1))) else (none)) = some r := by first | (rw [hji2] at H; exact H) | (simp only [hji2] at H ⊢; exact H)
 have hji2w : (IntKind.i64.wrap (a0_0 - 1)) = ji2 := (i64_w _).trans hji2
 by_cases c3 : 0 ≤ (ji2)
 ·rw [if_pos c3] at H
  have c3b0 := eq_true c3
  have c3b1 : decide (0 ≤ (ji2)) = true := decide_eq_true c3
  clear c3
  obtain ⟨ji4, hji4⟩ : ∃ j_ : Int, (shl .i64 1 (ji2)) = j_ := ⟨_, rfl⟩
  replace H : (some (wrap64 ((wrap64 (2 - (ji4))) - a0_1))) = some r := by first | (rw [hji4] at H; exact H) | (simp only [hji4] at H ⊢; exact H)
  have hji4_ : (IntKind.i64.wrap (1 * 2 ^ min (ji2).toNat 64)) = ji4 := hji4
  have hji4z : (ji2) ≤ 64 → (IntKind.i64.wrap (1 * 2 ^ (ji2).toNat)) = ji4 := shl_small hji4
  have hji4u : (IntKind.i64.wrap (2 ^ min (ji2).toNat 64)) = ji4 := by have h_ := hji4_; rw [Int.one_mul] at h_; exact h_
  have hji4v : (ji2) ≤ 64 → (IntKind.i64.wrap (2 ^ (ji2).toNat)) = ji4 := fun hle_ => by have h_ := hji4z hle_; rw [Int.one_mul] at h_; exact h_
  have hji4y : (wrap64 (1 * 2 ^ min (ji2).toNat 64)) = ji4 := (i64_w _).symm.trans hji4_
  have hji4x : (ji2) ≤ 64 → (wrap64 (1 * 2 ^ (ji2).toNat)) = ji4 := fun h_ => (i64_w _).symm.trans (hji4z h_)
  obtain rfl := Option.some.inj H
  go_enter Tryz.func38, Tryz.ntmps38
  go_wp2_with (first | ((with_reducible refine gate_dst (N := 1) rfl ?_); refine be_ 1 #[.int .i64 a0_0, .int .i64 a0_1] 65 ?_; intro gb160 hg w5 hbox hb; have BK160 := A_ (hbox); have GW160 := A_ (sz_ hg (hb_ HB.out)); have GE160 := A_ (sz_ hg (hb_ HB.out)); replace HB := A_ (below_step (hb_ HB.out) hb); clear hb hbox hg; have hcz6_0 := bv_ BK160.out 0; have hcz6_1 := bv_ BK160.out 1; have hfz6_0 := blk_frozen BK160.out 0; have hfz6_1 := blk_frozen BK160.out 1))
  repeat (go_quiet (first | ((with_reducible refine gate_dst (N := 1) rfl ?_); refine be_ 1 #[.int .i64 a0_0, .int .i64 a0_1] 65 ?_; intro gb160 hg w5 hbox hb; have BK160 := A_ (hbox); have GW160 := A_ (sz_ hg (hb_ HB.out)); have GE160 := A_ (sz_ hg (hb_ HB.out)); replace HB := A_ (below_step (hb_ HB.out) hb); clear hb hbox hg; have hcz6_0 := bv_ BK160.out 0; have hcz6_1 := bv_ BK160.out 1; have hfz6_0 := blk_frozen BK160.out 0; have hfz6_1 := blk_frozen BK160.out 1)); try go_wp2_with (first | ((with_reducible refine gate_dst (N := 1) rfl ?_); refine be_ 1 #[.int .i64 a0_0, .int .i64 a0_1] 65 ?_; intro gb160 hg w5 hbox hb; have BK160 := A_ (hbox); have GW160 := A_ (sz_ hg (hb_ HB.out)); have GE160 := A_ (sz_ hg (hb_ HB.out)); replace HB := A_ (below_step (hb_ HB.out) hb); clear hb hbox hg; have hcz6_0 := bv_ BK160.out 0; have hcz6_1 := bv_ BK160.out 1; have hfz6_0 := blk_frozen BK160.out 0; have hfz6_1 := blk_frozen BK160.out 1)))
  go_ret
  exact ⟨by first | rfl | (simp [errW_none, errW_some] <;> rfl) | (simp only [← hji2, ← hji4]; first | rfl | (simp [errW_none, errW_some] <;> rfl)) | (simp [*, errW_none, errW_some] <;> rfl), hb1_ HB.out GE160.out⟩
 ·rw [if_neg c3] at H
  exact absurd H (by simp)
end Go.Proofs.YtnmlmgmljoncoaaGreatDoor.PA
