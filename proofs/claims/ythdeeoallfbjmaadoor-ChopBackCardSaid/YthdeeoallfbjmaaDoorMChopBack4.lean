/- What the Go functions that the statement ChopBack reaches compute, and the mathematics on it, in the order in which one leans on the other; for every input. -/
import Derived.Test.YthdeeoallfbjmaaDoorVChopBack1
import Derived.Test.YthdeeoallfbjmaaDoorMChopBack0
import Derived.Test.YthdeeoallfbjmaaDoorMChopBack3
namespace Go.Proofs.YthdeeoallfbjmaaDoor.PA
open Go.RowKit Go.Proofs.YthdeeoallfbjmaaDoorW.PrintWords Go.Proofs.YthdeeoallfbjmaaDoorW.PrintLast Go.Proofs.YthdeeoallfbjmaaDoorW.PrintMore
attribute [local go_sem] max2_int min2_int max_two min_two max_three min_three max_four min_four   -- for this text's walks alone
set_option linter.unusedVariables false
set_option linter.unusedSimpArgs false
set_option maxHeartbeats 8000000
set_option maxRecDepth 100000
mutual
def r1_Add.l0 : Nat → List Int → Int → Int → List Int → List Int → Option (List Int)
 | 0, _, _, _, _, _ => none
 | k + 1, x5, x6, x7, x401000, x402000 => if x7 < (mx (x401000.length : Int) (x402000.length : Int)) then (r1_Add.j1 k x5 x6 x7 true x401000 x402000) else (r1_Add.j1 k x5 x6 x7 (decide (x6 > 0)) x401000 x402000)
def r1_Add.j1 : Nat → List Int → Int → Int → Bool → List Int → List Int → Option (List Int)
 | 0, _, _, _, _, _, _ => none
 | k + 1, x5, x6, x7, x21, x401000, x402000 => if x21 = true then ((r1_at.f x401000 x7).bind fun t403 => ((r1_at.f x402000 x7).bind fun t404 => (if x5.length < 17592186044416 then (r1_Add.l0 k (x5 ++ [Int.tmod (IntKind.u64.wrap ((IntKind.u64.wrap (t403 + t404)) + x6)) 4294967296]) (IntKind.u64.wrap (Int.tdiv (IntKind.u64.wrap ((IntKind.u64.wrap (t403 + t404)) + x6)) 4294967296)) (wrap64 (x7 + 1)) x401000 x402000) else (none)))) else ((r1_trim.f k x5).bind fun t408 => (some t408))
end
def r1_Add.f (k : Nat) (l0_0 : List Int) (l1_0 : List Int) : Option (List Int) := r1_Add.l0 k ([] : List Int) 0 0 l0_0 l1_0
theorem r1_Add.mono_l : ∀ k, (∀ y0 y1 y2 y3 y4, LeO (r1_Add.l0 k y0 y1 y2 y3 y4) (r1_Add.l0 (k + 1) y0 y1 y2 y3 y4)) ∧ (∀ y0 y1 y2 y3 y4 y5, LeO (r1_Add.j1 k y0 y1 y2 y3 y4 y5) (r1_Add.j1 (k + 1) y0 y1 y2 y3 y4 y5))
 | 0 => ⟨fun _ _ _ _ _ r h => by simp [r1_Add.l0] at h, fun _ _ _ _ _ _ r h => by simp [r1_Add.j1] at h⟩
 | k + 1 => by
  obtain ⟨ih0, ih1⟩ := r1_Add.mono_l k
  refine ⟨?_, ?_⟩
  ·intro y0 y1 y2 y3 y4
   unfold r1_Add.l0
   repeat' first
   | (with_reducible exact ih0 _ _ _ _ _)
   | (with_reducible exact ih1 _ _ _ _ _ _)
   | (with_reducible exact r1_trim.mono _ _)
   | (with_reducible exact LeO.refl _)
   | (with_reducible exact LeO.none _)
   | (with_reducible refine LeO.ite ?_ ?_)
   | (with_reducible refine LeO.bind ?_ (fun _ => ?_))
   | exact ih0 _ _ _ _ _
   | exact ih1 _ _ _ _ _ _
   | exact r1_trim.mono _ _
   | exact LeO.none _
   | refine LeO.ite ?_ ?_
   | refine LeO.bind ?_ (fun _ => ?_)
  ·intro y0 y1 y2 y3 y4 y5
   unfold r1_Add.j1
   repeat' first
   | (with_reducible exact ih0 _ _ _ _ _)
   | (with_reducible exact ih1 _ _ _ _ _ _)
   | (with_reducible exact r1_trim.mono _ _)
   | (with_reducible exact LeO.refl _)
   | (with_reducible exact LeO.none _)
   | (with_reducible refine LeO.ite ?_ ?_)
   | (with_reducible refine LeO.bind ?_ (fun _ => ?_))
   | exact ih0 _ _ _ _ _
   | exact ih1 _ _ _ _ _ _
   | exact r1_trim.mono _ _
   | exact LeO.none _
   | refine LeO.ite ?_ ?_
   | refine LeO.bind ?_ (fun _ => ?_)
theorem r1_Add.mono : ∀ a0 a1 k, LeO (r1_Add.f k a0 a1) (r1_Add.f (k + 1) a0 a1) := by
 intro a0 a1 k
 obtain ⟨ih0, ih1⟩ := r1_Add.mono_l k
 unfold r1_Add.f
 repeat' first
   | (with_reducible exact ih0 _ _ _ _ _)
   | (with_reducible exact ih1 _ _ _ _ _ _)
   | (with_reducible exact r1_trim.mono _ _)
   | (with_reducible exact LeO.refl _)
   | (with_reducible exact LeO.none _)
   | (with_reducible refine LeO.ite ?_ ?_)
   | (with_reducible refine LeO.bind ?_ (fun _ => ?_))
   | exact ih0 _ _ _ _ _
   | exact ih1 _ _ _ _ _ _
   | exact r1_trim.mono _ _
   | exact LeO.none _
   | refine LeO.ite ?_ ?_
   | refine LeO.bind ?_ (fun _ => ?_)
theorem r1_Add.calls (k : Nat) (A0_0 : Option Addr) (c0_0 : Nat) (l0_0 : List Int) (A1_0 : Option Addr) (c1_0 : Nat) (l1_0 : List Int) (r : List Int) (w : World) (hr0_0 : Kd.C (Kd.int .u64) w A0_0 l0_0.length l0_0) (hc0_0 : l0_0.length ≤ c0_0) (hr1_0 : Kd.C (Kd.int .u64) w A1_0 l1_0.length l1_0) (hc1_0 : l1_0.length ≤ c1_0) (h : r1_Add.f k l0_0 l1_0 = some r) :
  Calls Tryd.prog 116 #[.agg #[.slice A0_0 l0_0.length c0_0], .agg #[.slice A1_0 l1_0.length c1_0]] w fun e w' => ∃ v0_ : Value, e = .returned (.agg #[v0_]) ∧ Kd.R (Kd.int .u64) 22 w' w.heap.size (fun _ => True) v0_ r ∧ Below w.heap.size w w' := by
 have hu67 := Tryd.underlying67
 have HR0_0 := A_ hr0_0;have HC0_0 := A_ hc0_0;clear hr0_0 hc0_0;have HR1_0 := A_ hr1_0;have HC1_0 := A_ hc1_0;clear hr1_0 hc1_0
 have HB := A_ (Below.refl w.heap.size w)
 have H : (r1_Add.l0 k ([] : List Int) 0 0 l0_0 l1_0) = some r := h
 clear h
 have H' := A_ H
 clear H
 go_enter Tryd.func116, Tryd.ntmps116
 go_wp2_with (first | ((with_reducible refine gate_dst (N := 2) rfl ?_); refine be_ 2 #[.slice A0_0 l0_0.length c0_0] 67 ?_; intro gb400 hg w3 hbox hb; have BK400 := A_ (hbox); have GW400 := A_ (sz_ hg (hb_ HB.out)); have GE400 := A_ (sz_ hg (hb_ HB.out)); replace HB := A_ (below_step (hb_ HB.out) hb); clear hb hbox hg) | ((with_reducible refine gate_dst (N := 3) rfl ?_); refine be_ 3 #[.slice A1_0 l1_0.length c1_0] 67 ?_; intro gb401 hg w4 hbox hb; have BK401 := A_ (hbox); have GW401 := A_ (sz_ hg (hb1_ HB.out GE400.out)); have GE401 := A_ (sz_ hg (hb1_ HB.out GE400.out)); have NB400_401 := A_ (nl_ hg BK400.out); have NB401_400 := A_ (ng_ hg BK400.out); replace BK400 := A_ (bb_ BK400.out hb); replace HB := A_ (below_step (hb1_ HB.out GE400.out) hb); clear hb hbox hg) | ((with_reducible refine gate_dst (N := 4) rfl ?_); refine be_ 4 #[.slice none 0 0] 67 ?_; intro gb402 hg w5 hbox hb; have BK402 := A_ (hbox); have GW402 := A_ (sz_ hg (hb2_ HB.out GE400.out GE401.out)); have GE402 := A_ (sz_ hg (hb2_ HB.out GE400.out GE401.out)); have NB400_402 := A_ (nl_ hg BK400.out); have NB402_400 := A_ (ng_ hg BK400.out); have NB401_402 := A_ (nl_ hg BK401.out); have NB402_401 := A_ (ng_ hg BK401.out); replace BK400 := A_ (bb_ BK400.out hb); replace BK401 := A_ (bb_ BK401.out hb); replace HB := A_ (below_step (hb2_ HB.out GE400.out GE401.out) hb); clear hb hbox hg))
 repeat (go_quiet (first | ((with_reducible refine gate_dst (N := 2) rfl ?_); refine be_ 2 #[.slice A0_0 l0_0.length c0_0] 67 ?_; intro gb400 hg w3 hbox hb; have BK400 := A_ (hbox); have GW400 := A_ (sz_ hg (hb_ HB.out)); have GE400 := A_ (sz_ hg (hb_ HB.out)); replace HB := A_ (below_step (hb_ HB.out) hb); clear hb hbox hg) | ((with_reducible refine gate_dst (N := 3) rfl ?_); refine be_ 3 #[.slice A1_0 l1_0.length c1_0] 67 ?_; intro gb401 hg w4 hbox hb; have BK401 := A_ (hbox); have GW401 := A_ (sz_ hg (hb1_ HB.out GE400.out)); have GE401 := A_ (sz_ hg (hb1_ HB.out GE400.out)); have NB400_401 := A_ (nl_ hg BK400.out); have NB401_400 := A_ (ng_ hg BK400.out); replace BK400 := A_ (bb_ BK400.out hb); replace HB := A_ (below_step (hb1_ HB.out GE400.out) hb); clear hb hbox hg) | ((with_reducible refine gate_dst (N := 4) rfl ?_); refine be_ 4 #[.slice none 0 0] 67 ?_; intro gb402 hg w5 hbox hb; have BK402 := A_ (hbox); have GW402 := A_ (sz_ hg (hb2_ HB.out GE400.out GE401.out)); have GE402 := A_ (sz_ hg (hb2_ HB.out GE400.out GE401.out)); have NB400_402 := A_ (nl_ hg BK400.out); have NB402_400 := A_ (ng_ hg BK400.out); have NB401_402 := A_ (nl_ hg BK401.out); have NB402_401 := A_ (ng_ hg BK401.out); replace BK400 := A_ (bb_ BK400.out hb); replace BK401 := A_ (bb_ BK401.out hb); replace HB := A_ (below_step (hb2_ HB.out GE400.out GE401.out) hb); clear hb hbox hg)); try go_wp2_with (first | ((with_reducible refine gate_dst (N := 2) rfl ?_); refine be_ 2 #[.slice A0_0 l0_0.length c0_0] 67 ?_; intro gb400 hg w3 hbox hb; have BK400 := A_ (hbox); have GW400 := A_ (sz_ hg (hb_ HB.out)); have GE400 := A_ (sz_ hg (hb_ HB.out)); replace HB := A_ (below_step (hb_ HB.out) hb); clear hb hbox hg) | ((with_reducible refine gate_dst (N := 3) rfl ?_); refine be_ 3 #[.slice A1_0 l1_0.length c1_0] 67 ?_; intro gb401 hg w4 hbox hb; have BK401 := A_ (hbox); have GW401 := A_ (sz_ hg (hb1_ HB.out GE400.out)); have GE401 := A_ (sz_ hg (hb1_ HB.out GE400.out)); have NB400_401 := A_ (nl_ hg BK400.out); have NB401_400 := A_ (ng_ hg BK400.out); replace BK400 := A_ (bb_ BK400.out hb); replace HB := A_ (below_step (hb1_ HB.out GE400.out) hb); clear hb hbox hg) | ((with_reducible refine gate_dst (N := 4) rfl ?_); refine be_ 4 #[.slice none 0 0] 67 ?_; intro gb402 hg w5 hbox hb; have BK402 := A_ (hbox); have GW402 := A_ (sz_ hg (hb2_ HB.out GE400.out GE401.out)); have GE402 := A_ (sz_ hg (hb2_ HB.out GE400.out GE401.out)); have NB400_402 := A_ (nl_ hg BK400.out); have NB402_400 := A_ (ng_ hg BK400.out); have NB401_402 := A_ (nl_ hg BK401.out); have NB402_401 := A_ (ng_ hg BK401.out); replace BK400 := A_ (bb_ BK400.out hb); replace BK401 := A_ (bb_ BK401.out hb); replace HB := A_ (below_step (hb2_ HB.out GE400.out GE401.out) hb); clear hb hbox hg)))
 go_loopg [5, 6, 7] k (fun kq v5 v6 v7 w' => ∃ (x5_1 : List Int) (x6_1 : Int) (x7_1 : Int), v6 = .int .u64 x6_1 ∧ v7 = .int .i64 x7_1 ∧ Aside0 (r1_Add.l0 kq x5_1 x6_1 x7_1 l0_0 l1_0 = some r) ∧ Aside0 (kq ≤ k) ∧ Aside0 (Kd.R (Kd.int .u64) 22 w' w.heap.size (fun _ => True) v5 x5_1) ∧ Aside0 (w'.heap[gb400]? = some (.cells #[(.slice A0_0 l0_0.length c0_0)] 67 (0, 0))) ∧ Aside0 (w'.heap[gb401]? = some (.cells #[(.slice A1_0 l1_0.length c1_0)] 67 (0, 0))) ∧ Aside0 (w'.heap[gb402]? = some (.cells #[(.slice none 0 0)] 67 (0, 0))) ∧ Aside0 (Below w.heap.size w w'))
 case atStart => exact ⟨(([] : List Int)), (0), (0), sm_, sm_, H', ⟨Nat.le_refl _⟩, ⟨by first | exact Kd.R_nil _ _ _ _ _ | exact Kd.N_nil _ _ _ _ _ | exact Kd.V_nil _ _ _ _ _ | exact Kd.Q_nil _ _ _ _ _ | exact Kd.S_nil _ _ _ _ _⟩, ⟨bk_ BK400.out⟩, ⟨bk_ BK401.out⟩, ⟨bk_ BK402.out⟩, ⟨hb3_ HB.out GE400.out GE401.out GE402.out⟩⟩
 case round =>
  clear H'
  try clear c1
  try clear p2
  obtain ⟨x5_1, x6_1, x7_1, rfl, rfl, HA, HK1, HO_5, BK400, BK401, BK402, HB⟩ := hrel
  cases gk with
  | zero => exact absurd HA.out (by simp [r1_Add.l0])
  | succ k1 =>
   have H := HA.out
   clear HA
   simp only [r1_Add.l0] at H
   have HC6 := A_ H;clear H
   go_upto_region 4 with (fail)
   repeat (go_quiet (fail); go_upto_region 4 with (fail))
   go_cut [21] (fun v21 wc => ∃ (kq : Nat) (x21_5 : Bool), v21 = .bool x21_5 ∧ Aside0 (r1_Add.j1 kq x5_1 x6_1 x7_1 x21_5 l0_0 l1_0 = some r) ∧ Aside0 (kq ≤ k1) ∧ Aside0 (Kd.R (Kd.int .u64) 22 wc w.heap.size (fun _ => True) u5 x5_1) ∧ Aside0 (wc.heap[gb400]? = some (.cells #[(.slice A0_0 l0_0.length c0_0)] 67 (0, 0))) ∧ Aside0 (wc.heap[gb401]? = some (.cells #[(.slice A1_0 l1_0.length c1_0)] 67 (0, 0))) ∧ Aside0 (wc.heap[gb402]? = some (.cells #[(.slice none 0 0)] 67 (0, 0))) ∧ Aside0 (Below w.heap.size w wc))
   case first =>
    have H := HC6.out
    clear HC6
    obtain ⟨ji7, hji7⟩ : ∃ j_ : Int, (mx (l0_0.length : Int) (l1_0.length : Int)) = j_ := ⟨_, rfl⟩
    replace H : (if x7_1 < (ji7) then (r1_Add.j1 k1 x5_1 x6_1 x7_1 true l0_0 l1_0) else (r1_Add.j1 k1 x5_1 x6_1 x7_1 (decide (x6_1 > 0)) l0_0 l1_0)) = some r := by first | (rw [hji7] at H; exact H) | (simp only [hji7] at H ⊢; exact H)
    (try (have hji7l : 0 ≤ ji7 := by (rw [← hji7]; unfold mx; (repeat' split) <;> omega)))
    (try (have hji7m : 0 ≤ ji7 := by omega))
    have hji7_ : (if (l0_0.length : Int) < (l1_0.length : Int) then (l1_0.length : Int) else (l0_0.length : Int)) = ji7 := hji7
    have hji7n_ : (if l0_0.length < l1_0.length then (l1_0.length : Int) else (l0_0.length : Int)) = ji7 := by have h_ := hji7_; simpa only [Int.ofNat_lt] using h_
    by_cases c8 : x7_1 < (ji7)
    ·rw [if_pos c8] at H
     have c8b0 : decide (x7_1 < (ji7)) = true := decide_eq_true c8
     clear c8
     (first | rw [c8b0] | (simp only [i64_w, i32_w]; rw [c8b0]) | skip)
     have H' := A_ H
     clear H
     have hnb9 := NB400_401.out
     have hnc9 := NB401_400.out
     have hnb10 := NB400_402.out
     have hnc10 := NB402_400.out
     have hcz11_0 := bv_ BK400.out 0
     have hfz11_0 := blk_frozen BK400.out 0
     have hnb12 := NB401_402.out
     have hnc12 := NB402_401.out
     have hcz13_0 := bv_ BK401.out 0
     have hfz13_0 := blk_frozen BK401.out 0
     go_wp2
     repeat (go_quiet (fail); try go_wp2)
     go_meet
     case rel => exact ⟨_, (true), sm_, H', ⟨by have := HK1.out; first | omega | exact Nat.le_refl _⟩, ⟨by (with_reducible repeat (first | apply Kd.R_alloc | apply Kd.R_drewN | apply Kd.R_drew)); exact HO_5.out⟩, ⟨bk_ BK400.out⟩, ⟨bk_ BK401.out⟩, ⟨bk_ BK402.out⟩, ⟨hb3_ HB.out GE400.out GE401.out GE402.out⟩⟩
    ·rw [if_neg c8] at H
     have c8b0 : decide (x7_1 < (ji7)) = false := decide_eq_false c8
     clear c8
     (first | rw [c8b0] | (simp only [i64_w, i32_w]; rw [c8b0]) | skip)
     have H' := A_ H
     clear H
     have hnb14 := NB400_401.out
     have hnc14 := NB401_400.out
     have hnb15 := NB400_402.out
     have hnc15 := NB402_400.out
     have hcz16_0 := bv_ BK400.out 0
     have hfz16_0 := blk_frozen BK400.out 0
     have hnb17 := NB401_402.out
     have hnc17 := NB402_401.out
     have hcz18_0 := bv_ BK401.out 0
     have hfz18_0 := blk_frozen BK401.out 0
     go_wp2
     repeat (go_quiet (fail); try go_wp2)
     go_meet
     case rel => exact ⟨_, (decide (x6_1 > 0)), sm_, H', ⟨by have := HK1.out; first | omega | exact Nat.le_refl _⟩, ⟨by (with_reducible repeat (first | apply Kd.R_alloc | apply Kd.R_drewN | apply Kd.R_drew)); exact HO_5.out⟩, ⟨bk_ BK400.out⟩, ⟨bk_ BK401.out⟩, ⟨bk_ BK402.out⟩, ⟨hb3_ HB.out GE400.out GE401.out GE402.out⟩⟩
   case rest =>
    clear HC6
    try clear c1
    try clear p2
    try clear c8
    try clear c8b0
    try clear c9
    try clear c10
    try clear c11
    try clear c12
    try clear c14
    try clear c15
    try clear c17
    try clear hcz11_0
    try clear hcz13_0
    try clear hcz16_0
    try clear hcz18_0
    try clear hfz11_0
    try clear hfz13_0
    try clear hfz16_0
    try clear hfz18_0
    try clear p2
    obtain ⟨kq, x21_5, rfl, HA, HJ5, HO_5, BK400, BK401, BK402, HB⟩ := hcut
    cases kq with
    | zero => exact absurd HA.out (by simp [r1_Add.j1])
    | succ kj5 =>
     have H := HA.out
     clear HA
     simp only [r1_Add.j1] at H
     by_cases c19 : x21_5 = true
     ·subst c19
      have H1 : ((r1_at.f l0_0 x7_1).bind fun t403 => ((r1_at.f l1_0 x7_1).bind fun t404 => (if x5_1.length < 17592186044416 then (r1_Add.l0 kj5 (x5_1 ++ [Int.tmod (IntKind.u64.wrap ((IntKind.u64.wrap (t403 + t404)) + x6_1)) 4294967296]) (IntKind.u64.wrap (Int.tdiv (IntKind.u64.wrap ((IntKind.u64.wrap (t403 + t404)) + x6_1)) 4294967296)) (wrap64 (x7_1 + 1)) l0_0 l1_0) else (none)))) = some r := by rw [if_pos rfl] at H; exact H
      clear H;have H := H1;clear H1
      replace H := ob_ H
      obtain ⟨t403, A200, H⟩ := H
      replace H : ((r1_at.f l1_0 x7_1).bind fun t404 => (if x5_1.length < 17592186044416 then (r1_Add.l0 kj5 (x5_1 ++ [Int.tmod (IntKind.u64.wrap ((IntKind.u64.wrap (t403 + t404)) + x6_1)) 4294967296]) (IntKind.u64.wrap (Int.tdiv (IntKind.u64.wrap ((IntKind.u64.wrap (t403 + t404)) + x6_1)) 4294967296)) (wrap64 (x7_1 + 1)) l0_0 l1_0) else (none))) = some r := H
      have A20 := A_ A200;clear A200
      replace H := ob_ H
      obtain ⟨t404, A210, H⟩ := H
      replace H : (if x5_1.length < 17592186044416 then (r1_Add.l0 kj5 (x5_1 ++ [Int.tmod (IntKind.u64.wrap ((IntKind.u64.wrap (t403 + t404)) + x6_1)) 4294967296]) (IntKind.u64.wrap (Int.tdiv (IntKind.u64.wrap ((IntKind.u64.wrap (t403 + t404)) + x6_1)) 4294967296)) (wrap64 (x7_1 + 1)) l0_0 l1_0) else (none)) = some r := H
      have A21 := A_ A210;clear A210
      by_cases c22 : x5_1.length < 17592186044416
      ·rw [if_pos c22] at H
       have LMc22 := A_ c22;clear c22
       obtain ⟨y405, hy405⟩ : ∃ y_ : List Int, y_ = (x5_1 ++ [Int.tmod (IntKind.u64.wrap ((IntKind.u64.wrap (t403 + t404)) + x6_1)) 4294967296]) := ⟨_, rfl⟩
       replace H : (r1_Add.l0 kj5 y405 (IntKind.u64.wrap (Int.tdiv (IntKind.u64.wrap ((IntKind.u64.wrap (t403 + t404)) + x6_1)) 4294967296)) (wrap64 (x7_1 + 1)) l0_0 l1_0) = some r := by first | (rw [hy405]; with_reducible exact H) | (have H2_ := (Option.bind_some _ _).symm.trans H; rw [hy405]; with_reducible exact H2_) | (have H2_ := (Option.bind_some _ _).symm.trans H; with_reducible exact H2_) | with_reducible exact H | (rw [hy405]; exact H) | exact H
       have Ny405 := A_ hy405;clear hy405
       have H' := A_ H
       clear H
       have hnb23 := NB400_401.out
       have hnc23 := NB401_400.out
       have hnb24 := NB400_402.out
       have hnc24 := NB402_400.out
       have hcz25_0 := bv_ BK400.out 0
       have hfz25_0 := blk_frozen BK400.out 0
       go_wp2_with (first | (go_at_call 82; (with_reducible refine (r1_at.calls _ _ l0_0 x7_1 t403 _ ?side1 ?side2 A20.out).mono ?_); (case side1 => exact cs_ ((Kd.C_below HR0_0.out HB.out))); (case side2 => exact HC0_0.out); rintro e w' ⟨rfl, ⟨nd, rfl⟩⟩; (try first | exact ⟨rfl, _, World.drewN_drewN _ _ _⟩ | exact ⟨rfl, _, Eq.trans (World.drewN_drewN _ _ _) (congrArg (World.drewN _) (Nat.add_assoc _ _ _))⟩); have hnb26 := NB401_402.out; have hnc26 := NB402_401.out; have hcz27_0 := bv_ BK401.out 0; have hfz27_0 := blk_frozen BK401.out 0) | (go_at_call 82; (with_reducible refine (r1_at.calls _ _ l1_0 x7_1 t404 _ ?side1 ?side2 A21.out).mono ?_); (case side1 => exact cs_ ((Kd.C_below HR1_0.out (hb3_ HB.out GE400.out GE401.out GE402.out)))); (case side2 => exact HC1_0.out); rintro e w' ⟨rfl, ⟨nd, rfl⟩⟩; (try first | exact ⟨rfl, _, World.drewN_drewN _ _ _⟩ | exact ⟨rfl, _, Eq.trans (World.drewN_drewN _ _ _) (congrArg (World.drewN _) (Nat.add_assoc _ _ _))⟩)) | ((with_reducible refine gate_builtin (b := .append) (xs := #[.tmp 35, .tmp 38]) rfl ?_); at_builtin; refine Kd.R_append (Kd.int .u64) (w0 := w) w.heap.size rfl (.tmp 35) (.tmp 38) 65 22 (.int .u64 0) 8 rfl Tryd.underlying65 info22 rfl (by decide) (by omega) u5 x5_1 (Int.tmod (IntKind.u64.wrap ((IntKind.u64.wrap (t403 + t404)) + x6_1)) 4294967296) [.int .u64 (Int.tmod (IntKind.u64.wrap ((IntKind.u64.wrap (t403 + t404)) + x6_1)) 4294967296)] (fun _ => True) (fun _ => False) rfl rfl ?aP (fun _ hk => hk.elim) ?aF ?aO ?aB ?aS ?aL ?_; (case aP => exact rfl); (case aB => exact (hb3_ HB.out GE400.out GE401.out GE402.out)); (case aF => exact (fun _ _ => trivial)); (case aO => exact (kr_ HO_5.out)); (case aS => exact (below_size (hb3_ HB.out GE400.out GE401.out GE402.out))); (case aL => have := LMc22.out; omega); intro v406 w28 ho hb hg hat; rw [← Ny405.out] at ho; have n0_ := A_ (blk_grown (g := gb400) (o := .cells #[.slice A0_0 l0_0.length c0_0] 67 (0, 0)) (bk_ BK400.out) hg (Kd.R_ne HO_5.out BK400.out (by decide))); have n1_ := A_ (blk_grown (g := gb401) (o := .cells #[.slice A1_0 l1_0.length c1_0] 67 (0, 0)) (bk_ BK401.out) hg (Kd.R_ne HO_5.out BK401.out (by decide))); have n2_ := A_ (blk_grown (g := gb402) (o := .cells #[.slice none 0 0] 67 (0, 0)) (bk_ BK402.out) hg (Kd.R_ne HO_5.out BK402.out (by decide))); have n3_ := A_ (hb); have n4_ := A_ (ho); clear BK400; clear BK401; clear BK402; clear HB; clear HO_5; have BK400 := n0_; have BK401 := n1_; have BK402 := n2_; have HB := n3_; have HO407 := n4_; clear n0_ n1_ n2_ n3_ n4_; clear ho hb hg hat))
       repeat (go_quiet (first | (go_at_call 82; (with_reducible refine (r1_at.calls _ _ l0_0 x7_1 t403 _ ?side1 ?side2 A20.out).mono ?_); (case side1 => exact cs_ ((Kd.C_below HR0_0.out HB.out))); (case side2 => exact HC0_0.out); rintro e w' ⟨rfl, ⟨nd, rfl⟩⟩; (try first | exact ⟨rfl, _, World.drewN_drewN _ _ _⟩ | exact ⟨rfl, _, Eq.trans (World.drewN_drewN _ _ _) (congrArg (World.drewN _) (Nat.add_assoc _ _ _))⟩); have hnb26 := NB401_402.out; have hnc26 := NB402_401.out; have hcz27_0 := bv_ BK401.out 0; have hfz27_0 := blk_frozen BK401.out 0) | (go_at_call 82; (with_reducible refine (r1_at.calls _ _ l1_0 x7_1 t404 _ ?side1 ?side2 A21.out).mono ?_); (case side1 => exact cs_ ((Kd.C_below HR1_0.out (hb3_ HB.out GE400.out GE401.out GE402.out)))); (case side2 => exact HC1_0.out); rintro e w' ⟨rfl, ⟨nd, rfl⟩⟩; (try first | exact ⟨rfl, _, World.drewN_drewN _ _ _⟩ | exact ⟨rfl, _, Eq.trans (World.drewN_drewN _ _ _) (congrArg (World.drewN _) (Nat.add_assoc _ _ _))⟩)) | ((with_reducible refine gate_builtin (b := .append) (xs := #[.tmp 35, .tmp 38]) rfl ?_); at_builtin; refine Kd.R_append (Kd.int .u64) (w0 := w) w.heap.size rfl (.tmp 35) (.tmp 38) 65 22 (.int .u64 0) 8 rfl Tryd.underlying65 info22 rfl (by decide) (by omega) u5 x5_1 (Int.tmod (IntKind.u64.wrap ((IntKind.u64.wrap (t403 + t404)) + x6_1)) 4294967296) [.int .u64 (Int.tmod (IntKind.u64.wrap ((IntKind.u64.wrap (t403 + t404)) + x6_1)) 4294967296)] (fun _ => True) (fun _ => False) rfl rfl ?aP (fun _ hk => hk.elim) ?aF ?aO ?aB ?aS ?aL ?_; (case aP => exact rfl); (case aB => exact (hb3_ HB.out GE400.out GE401.out GE402.out)); (case aF => exact (fun _ _ => trivial)); (case aO => exact (kr_ HO_5.out)); (case aS => exact (below_size (hb3_ HB.out GE400.out GE401.out GE402.out))); (case aL => have := LMc22.out; omega); intro v406 w28 ho hb hg hat; rw [← Ny405.out] at ho; have n0_ := A_ (blk_grown (g := gb400) (o := .cells #[.slice A0_0 l0_0.length c0_0] 67 (0, 0)) (bk_ BK400.out) hg (Kd.R_ne HO_5.out BK400.out (by decide))); have n1_ := A_ (blk_grown (g := gb401) (o := .cells #[.slice A1_0 l1_0.length c1_0] 67 (0, 0)) (bk_ BK401.out) hg (Kd.R_ne HO_5.out BK401.out (by decide))); have n2_ := A_ (blk_grown (g := gb402) (o := .cells #[.slice none 0 0] 67 (0, 0)) (bk_ BK402.out) hg (Kd.R_ne HO_5.out BK402.out (by decide))); have n3_ := A_ (hb); have n4_ := A_ (ho); clear BK400; clear BK401; clear BK402; clear HB; clear HO_5; have BK400 := n0_; have BK401 := n1_; have BK402 := n2_; have HB := n3_; have HO407 := n4_; clear n0_ n1_ n2_ n3_ n4_; clear ho hb hg hat)); try go_wp2_with (first | (go_at_call 82; (with_reducible refine (r1_at.calls _ _ l0_0 x7_1 t403 _ ?side1 ?side2 A20.out).mono ?_); (case side1 => exact cs_ ((Kd.C_below HR0_0.out HB.out))); (case side2 => exact HC0_0.out); rintro e w' ⟨rfl, ⟨nd, rfl⟩⟩; (try first | exact ⟨rfl, _, World.drewN_drewN _ _ _⟩ | exact ⟨rfl, _, Eq.trans (World.drewN_drewN _ _ _) (congrArg (World.drewN _) (Nat.add_assoc _ _ _))⟩); have hnb26 := NB401_402.out; have hnc26 := NB402_401.out; have hcz27_0 := bv_ BK401.out 0; have hfz27_0 := blk_frozen BK401.out 0) | (go_at_call 82; (with_reducible refine (r1_at.calls _ _ l1_0 x7_1 t404 _ ?side1 ?side2 A21.out).mono ?_); (case side1 => exact cs_ ((Kd.C_below HR1_0.out (hb3_ HB.out GE400.out GE401.out GE402.out)))); (case side2 => exact HC1_0.out); rintro e w' ⟨rfl, ⟨nd, rfl⟩⟩; (try first | exact ⟨rfl, _, World.drewN_drewN _ _ _⟩ | exact ⟨rfl, _, Eq.trans (World.drewN_drewN _ _ _) (congrArg (World.drewN _) (Nat.add_assoc _ _ _))⟩)) | ((with_reducible refine gate_builtin (b := .append) (xs := #[.tmp 35, .tmp 38]) rfl ?_); at_builtin; refine Kd.R_append (Kd.int .u64) (w0 := w) w.heap.size rfl (.tmp 35) (.tmp 38) 65 22 (.int .u64 0) 8 rfl Tryd.underlying65 info22 rfl (by decide) (by omega) u5 x5_1 (Int.tmod (IntKind.u64.wrap ((IntKind.u64.wrap (t403 + t404)) + x6_1)) 4294967296) [.int .u64 (Int.tmod (IntKind.u64.wrap ((IntKind.u64.wrap (t403 + t404)) + x6_1)) 4294967296)] (fun _ => True) (fun _ => False) rfl rfl ?aP (fun _ hk => hk.elim) ?aF ?aO ?aB ?aS ?aL ?_; (case aP => exact rfl); (case aB => exact (hb3_ HB.out GE400.out GE401.out GE402.out)); (case aF => exact (fun _ _ => trivial)); (case aO => exact (kr_ HO_5.out)); (case aS => exact (below_size (hb3_ HB.out GE400.out GE401.out GE402.out))); (case aL => have := LMc22.out; omega); intro v406 w28 ho hb hg hat; rw [← Ny405.out] at ho; have n0_ := A_ (blk_grown (g := gb400) (o := .cells #[.slice A0_0 l0_0.length c0_0] 67 (0, 0)) (bk_ BK400.out) hg (Kd.R_ne HO_5.out BK400.out (by decide))); have n1_ := A_ (blk_grown (g := gb401) (o := .cells #[.slice A1_0 l1_0.length c1_0] 67 (0, 0)) (bk_ BK401.out) hg (Kd.R_ne HO_5.out BK401.out (by decide))); have n2_ := A_ (blk_grown (g := gb402) (o := .cells #[.slice none 0 0] 67 (0, 0)) (bk_ BK402.out) hg (Kd.R_ne HO_5.out BK402.out (by decide))); have n3_ := A_ (hb); have n4_ := A_ (ho); clear BK400; clear BK401; clear BK402; clear HB; clear HO_5; have BK400 := n0_; have BK401 := n1_; have BK402 := n2_; have HB := n3_; have HO407 := n4_; clear n0_ n1_ n2_ n3_ n4_; clear ho hb hg hat)))
       go_roundg kj5
       case measure => have := HK1.out; have := HJ5.out; omega
       case rel => exact ⟨(y405), (IntKind.u64.wrap (Int.tdiv (IntKind.u64.wrap ((IntKind.u64.wrap (t403 + t404)) + x6_1)) 4294967296)), (wrap64 (x7_1 + 1)), sm_, sm_, H', ⟨by have := HK1.out; have := HJ5.out; omega⟩, ⟨by (with_reducible repeat (first | apply Kd.R_alloc | apply Kd.R_drewN | apply Kd.R_drew)); exact HO407.out⟩, ⟨bk_ BK400.out⟩, ⟨bk_ BK401.out⟩, ⟨bk_ BK402.out⟩, ⟨hb3_ HB.out GE400.out GE401.out GE402.out⟩⟩
      ·rw [if_neg c22] at H
       exact absurd H (by simp)
     ·replace c19 := Bool.eq_false_iff.mpr c19
      subst c19
      have H1 : ((r1_trim.f kj5 x5_1).bind fun t408 => (some t408)) = some r := by rw [if_neg (show ¬ (false = true) by decide)] at H; exact H
      clear H;have H := H1;clear H1
      replace H := ob_ H
      obtain ⟨t408, A290, H⟩ := H
      replace H : (some t408) = some r := H
      have A29 := A_ A290;clear A290
      obtain rfl := Option.some.inj H
      obtain ⟨Ao30, co30, eo30⟩ := Kd.R_slice HO_5.out
      subst eo30
      go_wp2_with (first | (go_at_call 75; (with_reducible refine (r1_trim.calls kj5 (fun k_ => some k_ = (.slice Ao30 x5_1.length co30 : Value).ownBlock) (.slice Ao30 x5_1.length co30) x5_1 t408 w _ ?side1 ?side2 A29.out).mono ?_); (case side1 => exact hb3_ HB.out GE400.out GE401.out GE402.out); (case side2 => exact Kd.R_tight rfl HO_5.out); rintro e w31 ⟨v409, rfl, ho0, hb, hkp⟩; have n0_ := A_ (blk_kept (bk_ BK400.out) hkp (fun hs_ => (fun e_ => (Kd.R_ne HO_5.out BK400.out (by decide)) e_) hs_)); have n1_ := A_ (blk_kept (bk_ BK401.out) hkp (fun hs_ => (fun e_ => (Kd.R_ne HO_5.out BK401.out (by decide)) e_) hs_)); have n2_ := A_ (blk_kept (bk_ BK402.out) hkp (fun hs_ => (fun e_ => (Kd.R_ne HO_5.out BK402.out (by decide)) e_) hs_)); have n3_ := A_ (Kd.R_mono (ok' := fun k_ => True) ho0 (fun k_ hk_ => trivial)); have n4_ := A_ (hb); clear BK400; clear BK401; clear BK402; clear HB; clear HO_5; have BK400 := n0_; have BK401 := n1_; have BK402 := n2_; have HO410 := n3_; have HB := n4_; clear n0_ n1_ n2_ n3_ n4_; (try clear hb); (try clear hkp); (try clear ho0); obtain ⟨Ao32, co32, eo32⟩ := Kd.R_slice HO410.out; subst eo32; have hnb33 := NB402_400.out; have hnc33 := NB400_402.out; have hnb34 := NB402_401.out; have hnc34 := NB401_402.out; have hcz35_0 := bv_ BK402.out 0; have hfz35_0 := blk_frozen BK402.out 0))
      repeat (go_quiet (first | (go_at_call 75; (with_reducible refine (r1_trim.calls kj5 (fun k_ => some k_ = (.slice Ao30 x5_1.length co30 : Value).ownBlock) (.slice Ao30 x5_1.length co30) x5_1 t408 w _ ?side1 ?side2 A29.out).mono ?_); (case side1 => exact hb3_ HB.out GE400.out GE401.out GE402.out); (case side2 => exact Kd.R_tight rfl HO_5.out); rintro e w31 ⟨v409, rfl, ho0, hb, hkp⟩; have n0_ := A_ (blk_kept (bk_ BK400.out) hkp (fun hs_ => (fun e_ => (Kd.R_ne HO_5.out BK400.out (by decide)) e_) hs_)); have n1_ := A_ (blk_kept (bk_ BK401.out) hkp (fun hs_ => (fun e_ => (Kd.R_ne HO_5.out BK401.out (by decide)) e_) hs_)); have n2_ := A_ (blk_kept (bk_ BK402.out) hkp (fun hs_ => (fun e_ => (Kd.R_ne HO_5.out BK402.out (by decide)) e_) hs_)); have n3_ := A_ (Kd.R_mono (ok' := fun k_ => True) ho0 (fun k_ hk_ => trivial)); have n4_ := A_ (hb); clear BK400; clear BK401; clear BK402; clear HB; clear HO_5; have BK400 := n0_; have BK401 := n1_; have BK402 := n2_; have HO410 := n3_; have HB := n4_; clear n0_ n1_ n2_ n3_ n4_; (try clear hb); (try clear hkp); (try clear ho0); obtain ⟨Ao32, co32, eo32⟩ := Kd.R_slice HO410.out; subst eo32; have hnb33 := NB402_400.out; have hnc33 := NB400_402.out; have hnb34 := NB402_401.out; have hnc34 := NB401_402.out; have hcz35_0 := bv_ BK402.out 0; have hfz35_0 := blk_frozen BK402.out 0)); try go_wp2_with (first | (go_at_call 75; (with_reducible refine (r1_trim.calls kj5 (fun k_ => some k_ = (.slice Ao30 x5_1.length co30 : Value).ownBlock) (.slice Ao30 x5_1.length co30) x5_1 t408 w _ ?side1 ?side2 A29.out).mono ?_); (case side1 => exact hb3_ HB.out GE400.out GE401.out GE402.out); (case side2 => exact Kd.R_tight rfl HO_5.out); rintro e w31 ⟨v409, rfl, ho0, hb, hkp⟩; have n0_ := A_ (blk_kept (bk_ BK400.out) hkp (fun hs_ => (fun e_ => (Kd.R_ne HO_5.out BK400.out (by decide)) e_) hs_)); have n1_ := A_ (blk_kept (bk_ BK401.out) hkp (fun hs_ => (fun e_ => (Kd.R_ne HO_5.out BK401.out (by decide)) e_) hs_)); have n2_ := A_ (blk_kept (bk_ BK402.out) hkp (fun hs_ => (fun e_ => (Kd.R_ne HO_5.out BK402.out (by decide)) e_) hs_)); have n3_ := A_ (Kd.R_mono (ok' := fun k_ => True) ho0 (fun k_ hk_ => trivial)); have n4_ := A_ (hb); clear BK400; clear BK401; clear BK402; clear HB; clear HO_5; have BK400 := n0_; have BK401 := n1_; have BK402 := n2_; have HO410 := n3_; have HB := n4_; clear n0_ n1_ n2_ n3_ n4_; (try clear hb); (try clear hkp); (try clear ho0); obtain ⟨Ao32, co32, eo32⟩ := Kd.R_slice HO410.out; subst eo32; have hnb33 := NB402_400.out; have hnc33 := NB400_402.out; have hnb34 := NB402_401.out; have hnc34 := NB401_402.out; have hcz35_0 := bv_ BK402.out 0; have hfz35_0 := blk_frozen BK402.out 0)))
      refine bodyPost_ret (results_cell_row rfl _ _ gb402 67 #[.slice Ao32 t408.length co32] (0, 0) _ rfl (by (with_reducible repeat (first | refine blk_drewN ?_ _ | refine blk_drew ?_ | refine blk_alloc ?_ _)); refine blk_put (cs := #[.slice none 0 0]) ?_ 0 _ rfl; (with_reducible repeat (first | refine blk_drewN ?_ _ | refine blk_drew ?_ | refine blk_alloc ?_ _)); exact BK402.out) Tryd.underlying67 rfl (by kernel_rfl)) rfl ?_
      exact ⟨_, by first | rfl | (simp [errW_none, errW_some] <;> rfl) | (simp [*, errW_none, errW_some] <;> rfl), by (with_reducible repeat (first | apply Kd.R_alloc | apply Kd.R_drewN | apply Kd.R_drew)); exact Kd.R_mono (Kd.R_far (p := ⟨gb402, 0, none⟩) (Kd.R_types HO410.out BK402.out (by decide)) (fun _ hk => hk.2) (.slice Ao32 t408.length co32)) (fun _ hk => trivial), hb3_ HB.out GE400.out GE401.out GE402.out⟩
def r1_Of.f (k : Nat) (a0 : Int) : Option (List Int) := (r1_trim.f k (([Int.tmod a0 4294967296, IntKind.u64.wrap (Int.tdiv a0 4294967296)] : List Int))).bind fun t352 => (some t352)
theorem r1_Of.mono : ∀ a0 k, LeO (r1_Of.f k a0) (r1_Of.f (k + 1) a0) := by
 intro a0 k
 unfold r1_Of.f
 repeat' first
   | (with_reducible exact r1_trim.mono _ _)
   | (with_reducible exact LeO.refl _)
   | (with_reducible exact LeO.none _)
   | (with_reducible refine LeO.ite ?_ ?_)
   | (with_reducible refine LeO.bind ?_ (fun _ => ?_))
   | exact r1_trim.mono _ _
   | exact LeO.none _
   | refine LeO.ite ?_ ?_
   | refine LeO.bind ?_ (fun _ => ?_)
theorem r1_Of.calls (k : Nat) (a0 : Int) (r : List Int) (w : World) (h : r1_Of.f k a0 = some r) :
  Calls Tryd.prog 57 #[.int .u64 a0] w fun e w' => ∃ v0_ : Value, e = .returned (.agg #[v0_]) ∧ Kd.R (Kd.int .u64) 22 w' w.heap.size (fun _ => True) v0_ r ∧ Below w.heap.size w w' := by
 have hu67 := Tryd.underlying67
 have HB := A_ (Below.refl w.heap.size w)
 have H : ((r1_trim.f k (([Int.tmod a0 4294967296, IntKind.u64.wrap (Int.tdiv a0 4294967296)] : List Int))).bind fun t352 => (some t352)) = some r := h
 clear h
 obtain ⟨y349, hy349⟩ : ∃ y_ : List Int, y_ = (([Int.tmod a0 4294967296, IntKind.u64.wrap (Int.tdiv a0 4294967296)] : List Int)) := ⟨_, rfl⟩
 replace H : ((r1_trim.f k y349).bind fun t352 => (some t352)) = some r := by first | (rw [hy349]; with_reducible exact H) | (have H2_ := (Option.bind_some _ _).symm.trans H; rw [hy349]; with_reducible exact H2_) | (have H2_ := (Option.bind_some _ _).symm.trans H; with_reducible exact H2_) | with_reducible exact H | (rw [hy349]; exact H) | exact H
 have Ny349 := A_ hy349;clear hy349
 replace H := ob_ H
 obtain ⟨t352, A20, H⟩ := H
 replace H : (some t352) = some r := H
 have A2 := A_ A20;clear A20
 obtain rfl := Option.some.inj H
 go_enter Tryd.func57, Tryd.ntmps57
 go_wp2_with (first | ((with_reducible refine gate_dst (N := 2) rfl ?_); refine be_ 2 #[.slice none 0 0] 67 ?_; intro gb348 hg w3 hbox hb; have BK348 := A_ (hbox); have GW348 := A_ (sz_ hg (hb_ HB.out)); have GE348 := A_ (sz_ hg (hb_ HB.out)); replace HB := A_ (below_step (hb_ HB.out) hb); clear hb hbox hg) | ((with_reducible refine gate_dst (N := 7) rfl ?_); refine Kd.R_lit (Kd.int .u64) _ 22 ?hg (N := 7) ?hd (xs := ([Int.tmod a0 4294967296, IntKind.u64.wrap (Int.tdiv a0 4294967296)] : List Int)) (inner := [.int .u64 (Int.tmod a0 4294967296), .int .u64 (IntKind.u64.wrap (Int.tdiv a0 4294967296))]) (ok := fun _ => True) (okp := fun _ => True) ?hr ?hp (fun _ hk => hk) trivial (Below.refl _ _) (Nat.le_refl _) (by simp) ?_; (case hd => rfl); (case hg => rfl); (case hr => first | (go_simp; done) | (go_simp; rfl)); (case hp => exact (Reps.one (show Kd.M (Kd.int .u64) _ _ _ (Int.tmod a0 4294967296) [.int .u64 (Int.tmod a0 4294967296)] from rfl) (Reps.one (show Kd.M (Kd.int .u64) _ _ _ (IntKind.u64.wrap (Int.tdiv a0 4294967296)) [.int .u64 (IntKind.u64.wrap (Int.tdiv a0 4294967296))] from rfl) (Reps.none _ _)))); intro v350 w4 ho5 hb hg_ hnew_; clear hg_ hnew_; (first | rw [← Ny349.out] at ho5 | (simp only [Int.reduceToNat] at ho5; rw [← Ny349.out] at ho5)); have HO351 := A_ (Kd.R_lower ho5 (below_size (hb1_ HB.out GE348.out))); replace BK348 := A_ (bb_ BK348.out hb); replace HB := A_ (below_step (hb1_ HB.out GE348.out) hb); clear hb ho5; obtain ⟨Ao6, co6, eo6⟩ := Kd.R_slice HO351.out; subst eo6) | ((with_reducible refine gate_callee (f := 75) rfl ?_); refine goesL_ (some 8) rfl rfl Tryd.func75 (by kernel_rfl) rfl #[.slice Ao6 y349.length co6] rfl mp_ ?_; (with_reducible refine (r1_trim.calls k (fun k_ => some k_ = (.slice Ao6 y349.length co6 : Value).ownBlock) (.slice Ao6 y349.length co6) y349 t352 w _ ?side1 ?side2 A2.out).mono ?_); (case side1 => exact hb1_ HB.out GE348.out); (case side2 => exact Kd.R_tight rfl HO351.out); rintro e w7 ⟨v353, rfl, ho0, hb, hkp⟩; refine ⟨_, rfl, ?_⟩; have n0_ := A_ (blk_kept (bk_ BK348.out) hkp (fun hs_ => (fun e_ => (Kd.R_ne HO351.out BK348.out (by decide)) e_) hs_)); have n1_ := A_ (Kd.R_mono (ok' := fun k_ => True) ho0 (fun k_ hk_ => trivial)); have n2_ := A_ (hb); clear BK348; clear HB; clear HO351; have BK348 := n0_; have HO354 := n1_; have HB := n2_; clear n0_ n1_ n2_; (try clear hb); (try clear hkp); (try clear ho0); obtain ⟨Ao8, co8, eo8⟩ := Kd.R_slice HO354.out; subst eo8; have hcz9_0 := bv_ BK348.out 0; have hfz9_0 := blk_frozen BK348.out 0))
 refine bodyPost_ret (results_cell_row rfl _ _ gb348 67 #[.slice Ao8 t352.length co8] (0, 0) _ rfl (by (with_reducible repeat (first | refine blk_drewN ?_ _ | refine blk_drew ?_ | refine blk_alloc ?_ _)); refine blk_put (cs := #[.slice none 0 0]) ?_ 0 _ rfl; (with_reducible repeat (first | refine blk_drewN ?_ _ | refine blk_drew ?_ | refine blk_alloc ?_ _)); exact BK348.out) Tryd.underlying67 rfl (by kernel_rfl)) rfl ?_
 exact ⟨_, by first | rfl | (simp [errW_none, errW_some] <;> rfl) | (simp [*, errW_none, errW_some] <;> rfl), by (with_reducible repeat (first | apply Kd.R_alloc | apply Kd.R_drewN | apply Kd.R_drew)); exact Kd.R_mono (Kd.R_far (p := ⟨gb348, 0, none⟩) (Kd.R_types HO354.out BK348.out (by decide)) (fun _ hk => hk.2) (.slice Ao8 t352.length co8)) (fun _ hk => trivial), hb1_ HB.out GE348.out⟩
mutual
def r1_Shl.l0 : Nat → Int → List Int → Int → List Int → Option (List Int)
 | 0, _, _, _, _ => none
 | k + 1, x1, x5, x6, x373000 => if x6 < (wrap64 (Int.tdiv x1 32)) then (if x5.length < 17592186044416 then (r1_Shl.l0 k x1 (x5 ++ [0]) (wrap64 (x6 + 1)) x373000) else (none)) else (r1_Shl.l1 k x1 x5 1 0 x373000)
def r1_Shl.l1 : Nat → Int → List Int → Int → Int → List Int → Option (List Int)
 | 0, _, _, _, _, _ => none
 | k + 1, x1, x5, x7, x8, x373000 => if x8 < (Int.tmod x1 32) then (r1_Shl.l1 k x1 x5 (IntKind.u64.wrap (2 * x7)) (wrap64 (x8 + 1)) x373000) else (r1_Shl.l2 k x5 x7 0 0 x373000)
def r1_Shl.l2 : Nat → List Int → Int → Int → Int → List Int → Option (List Int)
 | 0, _, _, _, _, _ => none
 | k + 1, x5, x7, x9, x10, x373000 => if x10 < (x373000.length : Int) then (if 0 ≤ x10 then (if x5.length < 17592186044416 then (r1_Shl.l2 k (x5 ++ [Int.tmod (IntKind.u64.wrap ((IntKind.u64.wrap ((rd x373000 x10) * x7)) + x9)) 4294967296]) x7 (IntKind.u64.wrap (Int.tdiv (IntKind.u64.wrap ((IntKind.u64.wrap ((rd x373000 x10) * x7)) + x9)) 4294967296)) (wrap64 (x10 + 1)) x373000) else (none)) else (none)) else (if x5.length < 17592186044416 then ((r1_trim.f k (x5 ++ [x9])).bind fun t384 => (some t384)) else (none))
end
def r1_Shl.f (k : Nat) (l0_0 : List Int) (a1 : Int) : Option (List Int) := r1_Shl.l0 k a1 ([] : List Int) 0 l0_0
theorem r1_Shl.mono_l : ∀ k, (∀ y0 y1 y2 y3, LeO (r1_Shl.l0 k y0 y1 y2 y3) (r1_Shl.l0 (k + 1) y0 y1 y2 y3)) ∧ (∀ y0 y1 y2 y3 y4, LeO (r1_Shl.l1 k y0 y1 y2 y3 y4) (r1_Shl.l1 (k + 1) y0 y1 y2 y3 y4)) ∧ (∀ y0 y1 y2 y3 y4, LeO (r1_Shl.l2 k y0 y1 y2 y3 y4) (r1_Shl.l2 (k + 1) y0 y1 y2 y3 y4))
 | 0 => ⟨fun _ _ _ _ r h => by simp [r1_Shl.l0] at h, fun _ _ _ _ _ r h => by simp [r1_Shl.l1] at h, fun _ _ _ _ _ r h => by simp [r1_Shl.l2] at h⟩
 | k + 1 => by
  obtain ⟨ih0, ih1, ih2⟩ := r1_Shl.mono_l k
  refine ⟨?_, ?_, ?_⟩
  ·intro y0 y1 y2 y3
   unfold r1_Shl.l0
   repeat' first
   | (with_reducible exact ih0 _ _ _ _)
   | (with_reducible exact ih1 _ _ _ _ _)
   | (with_reducible exact ih2 _ _ _ _ _)
   | (with_reducible exact r1_trim.mono _ _)
   | (with_reducible exact LeO.refl _)
   | (with_reducible exact LeO.none _)
   | (with_reducible refine LeO.ite ?_ ?_)
   | (with_reducible refine LeO.bind ?_ (fun _ => ?_))
   | exact ih0 _ _ _ _
   | exact ih1 _ _ _ _ _
   | exact ih2 _ _ _ _ _
   | exact r1_trim.mono _ _
   | exact LeO.none _
   | refine LeO.ite ?_ ?_
   | refine LeO.bind ?_ (fun _ => ?_)
  ·intro y0 y1 y2 y3 y4
   unfold r1_Shl.l1
   repeat' first
   | (with_reducible exact ih0 _ _ _ _)
   | (with_reducible exact ih1 _ _ _ _ _)
   | (with_reducible exact ih2 _ _ _ _ _)
   | (with_reducible exact r1_trim.mono _ _)
   | (with_reducible exact LeO.refl _)
   | (with_reducible exact LeO.none _)
   | (with_reducible refine LeO.ite ?_ ?_)
   | (with_reducible refine LeO.bind ?_ (fun _ => ?_))
   | exact ih0 _ _ _ _
   | exact ih1 _ _ _ _ _
   | exact ih2 _ _ _ _ _
   | exact r1_trim.mono _ _
   | exact LeO.none _
   | refine LeO.ite ?_ ?_
   | refine LeO.bind ?_ (fun _ => ?_)
  ·intro y0 y1 y2 y3 y4
   unfold r1_Shl.l2
   repeat' first
   | (with_reducible exact ih0 _ _ _ _)
   | (with_reducible exact ih1 _ _ _ _ _)
   | (with_reducible exact ih2 _ _ _ _ _)
   | (with_reducible exact r1_trim.mono _ _)
   | (with_reducible exact LeO.refl _)
   | (with_reducible exact LeO.none _)
   | (with_reducible refine LeO.ite ?_ ?_)
   | (with_reducible refine LeO.bind ?_ (fun _ => ?_))
   | exact ih0 _ _ _ _
   | exact ih1 _ _ _ _ _
   | exact ih2 _ _ _ _ _
   | exact r1_trim.mono _ _
   | exact LeO.none _
   | refine LeO.ite ?_ ?_
   | refine LeO.bind ?_ (fun _ => ?_)
theorem r1_Shl.mono : ∀ a0 a1 k, LeO (r1_Shl.f k a0 a1) (r1_Shl.f (k + 1) a0 a1) := by
 intro a0 a1 k
 obtain ⟨ih0, ih1, ih2⟩ := r1_Shl.mono_l k
 unfold r1_Shl.f
 repeat' first
   | (with_reducible exact ih0 _ _ _ _)
   | (with_reducible exact ih1 _ _ _ _ _)
   | (with_reducible exact ih2 _ _ _ _ _)
   | (with_reducible exact r1_trim.mono _ _)
   | (with_reducible exact LeO.refl _)
   | (with_reducible exact LeO.none _)
   | (with_reducible refine LeO.ite ?_ ?_)
   | (with_reducible refine LeO.bind ?_ (fun _ => ?_))
   | exact ih0 _ _ _ _
   | exact ih1 _ _ _ _ _
   | exact ih2 _ _ _ _ _
   | exact r1_trim.mono _ _
   | exact LeO.none _
   | refine LeO.ite ?_ ?_
   | refine LeO.bind ?_ (fun _ => ?_)
theorem r1_Shl.calls (k : Nat) (A0_0 : Option Addr) (c0_0 : Nat) (l0_0 : List Int) (a1 : Int) (r : List Int) (w : World) (hr0_0 : Kd.C (Kd.int .u64) w A0_0 l0_0.length l0_0) (hc0_0 : l0_0.length ≤ c0_0) (h : r1_Shl.f k l0_0 a1 = some r) :
  Calls Tryd.prog 60 #[.agg #[.slice A0_0 l0_0.length c0_0], .int .i64 a1] w fun e w' => ∃ v0_ : Value, e = .returned (.agg #[v0_]) ∧ Kd.R (Kd.int .u64) 22 w' w.heap.size (fun _ => True) v0_ r ∧ Below w.heap.size w w' := by
 have hu67 := Tryd.underlying67
 have HR0_0 := A_ hr0_0;have HC0_0 := A_ hc0_0;clear hr0_0 hc0_0
 have HB := A_ (Below.refl w.heap.size w)
 have H : (r1_Shl.l0 k a1 ([] : List Int) 0 l0_0) = some r := h
 clear h
 have H' := A_ H
 clear H
 go_enter Tryd.func60, Tryd.ntmps60
 go_wp2_with (first | ((with_reducible refine gate_dst (N := 2) rfl ?_); refine be_ 2 #[.slice A0_0 l0_0.length c0_0] 67 ?_; intro gb372 hg w3 hbox hb; have BK372 := A_ (hbox); have GW372 := A_ (sz_ hg (hb_ HB.out)); have GE372 := A_ (sz_ hg (hb_ HB.out)); replace HB := A_ (below_step (hb_ HB.out) hb); clear hb hbox hg) | ((with_reducible refine gate_dst (N := 4) rfl ?_); refine be_ 4 #[.slice none 0 0] 67 ?_; intro gb373 hg w4 hbox hb; have BK373 := A_ (hbox); have GW373 := A_ (sz_ hg (hb1_ HB.out GE372.out)); have GE373 := A_ (sz_ hg (hb1_ HB.out GE372.out)); have NB372_373 := A_ (nl_ hg BK372.out); have NB373_372 := A_ (ng_ hg BK372.out); replace BK372 := A_ (bb_ BK372.out hb); replace HB := A_ (below_step (hb1_ HB.out GE372.out) hb); clear hb hbox hg))
 go_loopg [5, 6] k (fun kq v5 v6 w' => ∃ (x5_1 : List Int) (x6_1 : Int), v6 = .int .i64 x6_1 ∧ Aside0 (r1_Shl.l0 kq a1 x5_1 x6_1 l0_0 = some r) ∧ Aside0 (kq ≤ k) ∧ Aside0 (Kd.R (Kd.int .u64) 22 w' w.heap.size (fun _ => True) v5 x5_1) ∧ Aside0 (w'.heap[gb372]? = some (.cells #[(.slice A0_0 l0_0.length c0_0)] 67 (0, 0))) ∧ Aside0 (w'.heap[gb373]? = some (.cells #[(.slice none 0 0)] 67 (0, 0))) ∧ Aside0 (Below w.heap.size w w'))
 case atStart => exact ⟨(([] : List Int)), (0), sm_, H', ⟨Nat.le_refl _⟩, ⟨by first | exact Kd.R_nil _ _ _ _ _ | exact Kd.N_nil _ _ _ _ _ | exact Kd.V_nil _ _ _ _ _ | exact Kd.Q_nil _ _ _ _ _ | exact Kd.S_nil _ _ _ _ _⟩, ⟨bk_ BK372.out⟩, ⟨bk_ BK373.out⟩, ⟨hb2_ HB.out GE372.out GE373.out⟩⟩
 case round =>
  clear H'
  try clear p2
  obtain ⟨x5_1, x6_1, rfl, HA, HK1, HO_5, BK372, BK373, HB⟩ := hrel
  cases gk with
  | zero => exact absurd HA.out (by simp [r1_Shl.l0])
  | succ k1 =>
   have H := HA.out
   clear HA
   simp only [r1_Shl.l0] at H
   by_cases c5 : x6_1 < (wrap64 (Int.tdiv a1 32))
   ·rw [if_pos c5] at H
    have c5b0 : decide (x6_1 < (wrap64 (Int.tdiv a1 32))) = true := decide_eq_true c5
    clear c5
    by_cases c6 : x5_1.length < 17592186044416
    ·rw [if_pos c6] at H
     have LMc6 := A_ c6;clear c6
     obtain ⟨y374, hy374⟩ : ∃ y_ : List Int, y_ = (x5_1 ++ [0]) := ⟨_, rfl⟩
     replace H : (r1_Shl.l0 k1 a1 y374 (wrap64 (x6_1 + 1)) l0_0) = some r := by first | (rw [hy374]; with_reducible exact H) | (have H2_ := (Option.bind_some _ _).symm.trans H; rw [hy374]; with_reducible exact H2_) | (have H2_ := (Option.bind_some _ _).symm.trans H; with_reducible exact H2_) | with_reducible exact H | (rw [hy374]; exact H) | exact H
     have Ny374 := A_ hy374;clear hy374
     have H' := A_ H
     clear H
     go_wp2_with (first | ((with_reducible refine gate_builtin (b := .append) (xs := #[.tmp 18, .tmp 19]) rfl ?_); at_builtin; refine Kd.R_append (Kd.int .u64) (w0 := w) w.heap.size rfl (.tmp 18) (.tmp 19) 65 22 (.int .u64 0) 8 rfl Tryd.underlying65 info22 rfl (by decide) (by omega) u5 x5_1 0 [.int .u64 0] (fun _ => True) (fun _ => False) rfl rfl ?aP (fun _ hk => hk.elim) ?aF ?aO ?aB ?aS ?aL ?_; (case aP => exact rfl); (case aB => exact (hb2_ HB.out GE372.out GE373.out)); (case aF => exact (fun _ _ => trivial)); (case aO => exact (kr_ HO_5.out)); (case aS => exact (below_size (hb2_ HB.out GE372.out GE373.out))); (case aL => have := LMc6.out; omega); intro v375 w7 ho hb hg hat; rw [← Ny374.out] at ho; have n0_ := A_ (blk_grown (g := gb372) (o := .cells #[.slice A0_0 l0_0.length c0_0] 67 (0, 0)) (bk_ BK372.out) hg (Kd.R_ne HO_5.out BK372.out (by decide))); have n1_ := A_ (blk_grown (g := gb373) (o := .cells #[.slice none 0 0] 67 (0, 0)) (bk_ BK373.out) hg (Kd.R_ne HO_5.out BK373.out (by decide))); have n2_ := A_ (hb); have n3_ := A_ (ho); clear BK372; clear BK373; clear HB; clear HO_5; have BK372 := n0_; have BK373 := n1_; have HB := n2_; have HO376 := n3_; clear n0_ n1_ n2_ n3_; clear ho hb hg hat))
     go_roundg k1
     case measure => have := HK1.out; omega
     case rel => exact ⟨(y374), (wrap64 (x6_1 + 1)), sm_, H', ⟨by have := HK1.out; omega⟩, ⟨by (with_reducible repeat (first | apply Kd.R_alloc | apply Kd.R_drewN | apply Kd.R_drew)); exact HO376.out⟩, ⟨bk_ BK372.out⟩, ⟨bk_ BK373.out⟩, ⟨hb2_ HB.out GE372.out GE373.out⟩⟩
    ·rw [if_neg c6] at H
     exact absurd H (by simp)
   ·rw [if_neg c5] at H
    have c5b0 : decide (x6_1 < (wrap64 (Int.tdiv a1 32))) = false := decide_eq_false c5
    clear c5
    have H' := A_ H
    clear H
    go_wp2
    go_loopg [7, 8] k1 (fun kq v7 v8 w' => ∃ (x7_2 : Int) (x8_2 : Int), v7 = .int .u64 x7_2 ∧ v8 = .int .i64 x8_2 ∧ Aside0 (r1_Shl.l1 kq a1 x5_1 x7_2 x8_2 l0_0 = some r) ∧ Aside0 (kq ≤ k1) ∧ Aside0 (Kd.R (Kd.int .u64) 22 w' w.heap.size (fun _ => True) u5 x5_1) ∧ Aside0 (w'.heap[gb372]? = some (.cells #[(.slice A0_0 l0_0.length c0_0)] 67 (0, 0))) ∧ Aside0 (w'.heap[gb373]? = some (.cells #[(.slice none 0 0)] 67 (0, 0))) ∧ Aside0 (Below w.heap.size w w'))
    case atStart => exact ⟨(1), (0), sm_, sm_, H', ⟨Nat.le_refl _⟩, ⟨by (with_reducible repeat (first | apply Kd.R_alloc | apply Kd.R_drewN | apply Kd.R_drew)); exact HO_5.out⟩, ⟨bk_ BK372.out⟩, ⟨bk_ BK373.out⟩, ⟨hb2_ HB.out GE372.out GE373.out⟩⟩
    case round =>
     clear H'
     try clear p2
     try clear c5
     try clear c5b0
     try clear c6
     try clear p6
     try clear p2
     obtain ⟨x7_2, x8_2, rfl, rfl, HA, HK2, HO_5, BK372, BK373, HB⟩ := hrel
     cases gk with
     | zero => exact absurd HA.out (by simp [r1_Shl.l1])
     | succ k2 =>
      have H := HA.out
      clear HA
      simp only [r1_Shl.l1] at H
      by_cases c8 : x8_2 < (Int.tmod a1 32)
      ·rw [if_pos c8] at H
       have c8b0 : decide (x8_2 < (Int.tmod a1 32)) = true := decide_eq_true c8
       clear c8
       have H' := A_ H
       clear H
       go_wp2
       go_roundg k2
       case measure => have := HK1.out; have := HK2.out; omega
       case rel => exact ⟨(IntKind.u64.wrap (2 * x7_2)), (wrap64 (x8_2 + 1)), sm_, sm_, H', ⟨by have := HK1.out; have := HK2.out; omega⟩, ⟨by (with_reducible repeat (first | apply Kd.R_alloc | apply Kd.R_drewN | apply Kd.R_drew)); exact HO_5.out⟩, ⟨bk_ BK372.out⟩, ⟨bk_ BK373.out⟩, ⟨hb2_ HB.out GE372.out GE373.out⟩⟩
      ·rw [if_neg c8] at H
       have c8b0 : decide (x8_2 < (Int.tmod a1 32)) = false := decide_eq_false c8
       clear c8
       have H' := A_ H
       clear H
       go_wp2
       go_loopg [5, 9, 10] k2 (fun kq v5 v9 v10 w' => ∃ (x5_3 : List Int) (x9_3 : Int) (x10_3 : Int), v9 = .int .u64 x9_3 ∧ v10 = .int .i64 x10_3 ∧ Aside0 (r1_Shl.l2 kq x5_3 x7_2 x9_3 x10_3 l0_0 = some r) ∧ Aside0 (kq ≤ k2) ∧ Aside0 (Kd.R (Kd.int .u64) 22 w' w.heap.size (fun _ => True) v5 x5_3) ∧ Aside0 (w'.heap[gb372]? = some (.cells #[(.slice A0_0 l0_0.length c0_0)] 67 (0, 0))) ∧ Aside0 (w'.heap[gb373]? = some (.cells #[(.slice none 0 0)] 67 (0, 0))) ∧ Aside0 (Below w.heap.size w w'))
       case atStart => exact ⟨(x5_1), (0), (0), sm_, sm_, H', ⟨Nat.le_refl _⟩, ⟨by (with_reducible repeat (first | apply Kd.R_alloc | apply Kd.R_drewN | apply Kd.R_drew)); exact HO_5.out⟩, ⟨bk_ BK372.out⟩, ⟨bk_ BK373.out⟩, ⟨hb2_ HB.out GE372.out GE373.out⟩⟩
       case round =>
        clear H'
        try clear p2
        try clear c5
        try clear c5b0
        try clear c6
        try clear p6
        try clear c8
        try clear c8b0
        try clear p2
        try clear p6
        obtain ⟨x5_3, x9_3, x10_3, rfl, rfl, HA, HK3, HO_5, BK372, BK373, HB⟩ := hrel
        cases gk with
        | zero => exact absurd HA.out (by simp [r1_Shl.l2])
        | succ k3 =>
         have H := HA.out
         clear HA
         simp only [r1_Shl.l2] at H
         by_cases c9 : x10_3 < (l0_0.length : Int)
         ·rw [if_pos c9] at H
          have c9b0 : decide (x10_3 < (l0_0.length : Int)) = true := decide_eq_true c9
          clear c9
          by_cases c10 : 0 ≤ x10_3
          ·rw [if_pos c10] at H
           have c10b0 : decide (0 ≤ x10_3) = true := decide_eq_true c10
           clear c10
           by_cases c11 : x5_3.length < 17592186044416
           ·rw [if_pos c11] at H
            have LMc11 := A_ c11;clear c11
            obtain ⟨y378, hy378⟩ : ∃ y_ : List Int, y_ = (x5_3 ++ [Int.tmod (IntKind.u64.wrap ((IntKind.u64.wrap ((rd l0_0 x10_3) * x7_2)) + x9_3)) 4294967296]) := ⟨_, rfl⟩
            replace H : (r1_Shl.l2 k3 y378 x7_2 (IntKind.u64.wrap (Int.tdiv (IntKind.u64.wrap ((IntKind.u64.wrap ((rd l0_0 x10_3) * x7_2)) + x9_3)) 4294967296)) (wrap64 (x10_3 + 1)) l0_0) = some r := by first | (rw [hy378]; with_reducible exact H) | (have H2_ := (Option.bind_some _ _).symm.trans H; rw [hy378]; with_reducible exact H2_) | (have H2_ := (Option.bind_some _ _).symm.trans H; with_reducible exact H2_) | with_reducible exact H | (rw [hy378]; exact H) | exact H
            have Ny378 := A_ hy378;clear hy378
            have H' := A_ H
            clear H
            have hnb12 := NB372_373.out
            have hnc12 := NB373_372.out
            have hcz13_0 := bv_ BK372.out 0
            have hfz13_0 := blk_frozen BK372.out 0
            have p377 : 0 ≤ (x10_3 : Int) := of_decide_eq_true (by first | (with_reducible assumption) | assumption)
            have q377 : x10_3 < (l0_0.length : Int) := of_decide_eq_true (by first | (with_reducible assumption) | assumption)
            obtain ⟨ad377, e377, hx377_0⟩ := Kd.at_int HR0_0.out x10_3 p377 q377
            cases e377
            replace hx377_0 := (HB.out.cell (World.block_lt_of_cell? w _ hx377_0)).trans hx377_0
            replace p377 := eq_true p377
            replace q377 := eq_true q377
            go_wp2_with (first | ((with_reducible refine gate_builtin (b := .append) (xs := #[.tmp 45, .tmp 48]) rfl ?_); at_builtin; refine Kd.R_append (Kd.int .u64) (w0 := w) w.heap.size rfl (.tmp 45) (.tmp 48) 65 22 (.int .u64 0) 8 rfl Tryd.underlying65 info22 rfl (by decide) (by omega) u5 x5_3 (Int.tmod (IntKind.u64.wrap ((IntKind.u64.wrap ((rd l0_0 x10_3) * x7_2)) + x9_3)) 4294967296) [.int .u64 (Int.tmod (IntKind.u64.wrap ((IntKind.u64.wrap ((rd l0_0 x10_3) * x7_2)) + x9_3)) 4294967296)] (fun _ => True) (fun _ => False) rfl rfl ?aP (fun _ hk => hk.elim) ?aF ?aO ?aB ?aS ?aL ?_; (case aP => exact rfl); (case aB => exact (hb2_ HB.out GE372.out GE373.out)); (case aF => exact (fun _ _ => trivial)); (case aO => exact (kr_ HO_5.out)); (case aS => exact (below_size (hb2_ HB.out GE372.out GE373.out))); (case aL => have := LMc11.out; omega); intro v379 w14 ho hb hg hat; rw [← Ny378.out] at ho; have n0_ := A_ (blk_grown (g := gb372) (o := .cells #[.slice (some ad377) l0_0.length c0_0] 67 (0, 0)) (bk_ BK372.out) hg (Kd.R_ne HO_5.out BK372.out (by decide))); have n1_ := A_ (blk_grown (g := gb373) (o := .cells #[.slice none 0 0] 67 (0, 0)) (bk_ BK373.out) hg (Kd.R_ne HO_5.out BK373.out (by decide))); have n2_ := A_ (hb); have n3_ := A_ (ho); clear BK372; clear BK373; clear HB; clear HO_5; have BK372 := n0_; have BK373 := n1_; have HB := n2_; have HO380 := n3_; clear n0_ n1_ n2_ n3_; clear ho hb hg hat))
            go_roundg k3
            case measure => have := HK1.out; have := HK2.out; have := HK3.out; omega
            case rel => exact ⟨(y378), (IntKind.u64.wrap (Int.tdiv (IntKind.u64.wrap ((IntKind.u64.wrap ((rd l0_0 x10_3) * x7_2)) + x9_3)) 4294967296)), (wrap64 (x10_3 + 1)), sm_, sm_, H', ⟨by have := HK1.out; have := HK2.out; have := HK3.out; omega⟩, ⟨by (with_reducible repeat (first | apply Kd.R_alloc | apply Kd.R_drewN | apply Kd.R_drew)); exact HO380.out⟩, ⟨bk_ BK372.out⟩, ⟨bk_ BK373.out⟩, ⟨hb2_ HB.out GE372.out GE373.out⟩⟩
           ·rw [if_neg c11] at H
            exact absurd H (by simp)
          ·rw [if_neg c10] at H
           exact absurd H (by simp)
         ·rw [if_neg c9] at H
          have c9b0 : decide (x10_3 < (l0_0.length : Int)) = false := decide_eq_false c9
          clear c9
          by_cases c15 : x5_3.length < 17592186044416
          ·rw [if_pos c15] at H
           have LMc15 := A_ c15;clear c15
           obtain ⟨y381, hy381⟩ : ∃ y_ : List Int, y_ = (x5_3 ++ [x9_3]) := ⟨_, rfl⟩
           replace H : ((r1_trim.f k3 y381).bind fun t384 => (some t384)) = some r := by first | (rw [hy381]; with_reducible exact H) | (have H2_ := (Option.bind_some _ _).symm.trans H; rw [hy381]; with_reducible exact H2_) | (have H2_ := (Option.bind_some _ _).symm.trans H; with_reducible exact H2_) | with_reducible exact H | (rw [hy381]; exact H) | exact H
           have Ny381 := A_ hy381;clear hy381
           replace H := ob_ H
           obtain ⟨t384, A160, H⟩ := H
           replace H : (some t384) = some r := H
           have A16 := A_ A160;clear A160
           obtain rfl := Option.some.inj H
           have hnb17 := NB372_373.out
           have hnc17 := NB373_372.out
           have hcz18_0 := bv_ BK372.out 0
           have hfz18_0 := blk_frozen BK372.out 0
           go_wp2_with (first | ((with_reducible refine gate_builtin (b := .append) (xs := #[.tmp 52, .tmp 54]) rfl ?_); at_builtin; refine Kd.R_append (Kd.int .u64) (w0 := w) w.heap.size rfl (.tmp 52) (.tmp 54) 65 22 (.int .u64 0) 8 rfl Tryd.underlying65 info22 rfl (by decide) (by omega) u5 x5_3 x9_3 [.int .u64 x9_3] (fun _ => True) (fun _ => False) rfl rfl ?aP (fun _ hk => hk.elim) ?aF ?aO ?aB ?aS ?aL ?_; (case aP => exact rfl); (case aB => exact (hb2_ HB.out GE372.out GE373.out)); (case aF => exact (fun _ _ => trivial)); (case aO => exact (kr_ HO_5.out)); (case aS => exact (below_size (hb2_ HB.out GE372.out GE373.out))); (case aL => have := LMc15.out; omega); intro v382 w19 ho hb hg hat; rw [← Ny381.out] at ho; have n0_ := A_ (blk_grown (g := gb372) (o := .cells #[.slice A0_0 l0_0.length c0_0] 67 (0, 0)) (bk_ BK372.out) hg (Kd.R_ne HO_5.out BK372.out (by decide))); have n1_ := A_ (blk_grown (g := gb373) (o := .cells #[.slice none 0 0] 67 (0, 0)) (bk_ BK373.out) hg (Kd.R_ne HO_5.out BK373.out (by decide))); have n2_ := A_ (hb); have n3_ := A_ (ho); clear BK372; clear BK373; clear HB; clear HO_5; have BK372 := n0_; have BK373 := n1_; have HB := n2_; have HO383 := n3_; clear n0_ n1_ n2_ n3_; clear ho hb hg hat; obtain ⟨Ao20, co20, eo20⟩ := Kd.R_slice HO383.out; subst eo20) | ((with_reducible refine gate_callee (f := 75) rfl ?_); refine goesL_ (some 56) rfl rfl Tryd.func75 (by kernel_rfl) rfl #[.slice Ao20 y381.length co20] rfl mp_ ?_; (with_reducible refine (r1_trim.calls k3 (fun k_ => some k_ = (.slice Ao20 y381.length co20 : Value).ownBlock) (.slice Ao20 y381.length co20) y381 t384 w _ ?side1 ?side2 A16.out).mono ?_); (case side1 => exact hb2_ HB.out GE372.out GE373.out); (case side2 => exact Kd.R_tight rfl HO383.out); rintro e w21 ⟨v385, rfl, ho0, hb, hkp⟩; refine ⟨_, rfl, ?_⟩; have n0_ := A_ (blk_kept (bk_ BK372.out) hkp (fun hs_ => (fun e_ => (Kd.R_ne HO383.out BK372.out (by decide)) e_) hs_)); have n1_ := A_ (blk_kept (bk_ BK373.out) hkp (fun hs_ => (fun e_ => (Kd.R_ne HO383.out BK373.out (by decide)) e_) hs_)); have n2_ := A_ (Kd.R_mono (ok' := fun k_ => True) ho0 (fun k_ hk_ => trivial)); have n3_ := A_ (hb); clear BK372; clear BK373; clear HB; clear HO383; have BK372 := n0_; have BK373 := n1_; have HO386 := n2_; have HB := n3_; clear n0_ n1_ n2_ n3_; (try clear hb); (try clear hkp); (try clear ho0); obtain ⟨Ao22, co22, eo22⟩ := Kd.R_slice HO386.out; subst eo22; have hcz23_0 := bv_ BK373.out 0; have hfz23_0 := blk_frozen BK373.out 0))
           refine bodyPost_ret (results_cell_row rfl _ _ gb373 67 #[.slice Ao22 t384.length co22] (0, 0) _ rfl (by (with_reducible repeat (first | refine blk_drewN ?_ _ | refine blk_drew ?_ | refine blk_alloc ?_ _)); refine blk_put (cs := #[.slice none 0 0]) ?_ 0 _ rfl; (with_reducible repeat (first | refine blk_drewN ?_ _ | refine blk_drew ?_ | refine blk_alloc ?_ _)); exact BK373.out) Tryd.underlying67 rfl (by kernel_rfl)) rfl ?_
           exact ⟨_, by first | rfl | (simp [errW_none, errW_some] <;> rfl) | (simp [*, errW_none, errW_some] <;> rfl), by (with_reducible repeat (first | apply Kd.R_alloc | apply Kd.R_drewN | apply Kd.R_drew)); exact Kd.R_mono (Kd.R_far (p := ⟨gb373, 0, none⟩) (Kd.R_types HO386.out BK373.out (by decide)) (fun _ hk => hk.2) (.slice Ao22 t384.length co22)) (fun _ hk => trivial), hb2_ HB.out GE372.out GE373.out⟩
          ·rw [if_neg c15] at H
           exact absurd H (by simp)
def r1_Sub.l0 : Nat → List Int → Int → Int → List Int → List Int → Option (List Int)
 | 0, _, _, _, _, _ => none
 | k + 1, x5, x6, x7, x412000, x413000 => if x7 < (x412000.length : Int) then (if 0 ≤ x7 then ((r1_at.f x413000 x7).bind fun t415 => (if x5.length < 17592186044416 then (r1_Sub.l0 k (x5 ++ [Int.tmod (IntKind.u64.wrap ((IntKind.u64.wrap ((IntKind.u64.wrap ((rd x412000 x7) + 4294967296)) - t415)) - x6)) 4294967296]) (IntKind.u64.wrap (1 - (IntKind.u64.wrap (Int.tdiv (IntKind.u64.wrap ((IntKind.u64.wrap ((IntKind.u64.wrap ((rd x412000 x7) + 4294967296)) - t415)) - x6)) 4294967296)))) (wrap64 (x7 + 1)) x412000 x413000) else (none))) else (none)) else ((r1_trim.f k x5).bind fun t419 => (some t419))
def r1_Sub.f (k : Nat) (l0_0 : List Int) (l1_0 : List Int) : Option (List Int) := r1_Sub.l0 k ([] : List Int) 0 0 l0_0 l1_0
theorem r1_Sub.mono_l : ∀ k, (∀ y0 y1 y2 y3 y4, LeO (r1_Sub.l0 k y0 y1 y2 y3 y4) (r1_Sub.l0 (k + 1) y0 y1 y2 y3 y4))
 | 0 => fun _ _ _ _ _ r h => by simp [r1_Sub.l0] at h
 | k + 1 => by
  have ih0 := r1_Sub.mono_l k
  ·intro y0 y1 y2 y3 y4
   unfold r1_Sub.l0
   repeat' first
   | (with_reducible exact ih0 _ _ _ _ _)
   | (with_reducible exact r1_trim.mono _ _)
   | (with_reducible exact LeO.refl _)
   | (with_reducible exact LeO.none _)
   | (with_reducible refine LeO.ite ?_ ?_)
   | (with_reducible refine LeO.bind ?_ (fun _ => ?_))
   | exact ih0 _ _ _ _ _
   | exact r1_trim.mono _ _
   | exact LeO.none _
   | refine LeO.ite ?_ ?_
   | refine LeO.bind ?_ (fun _ => ?_)
theorem r1_Sub.mono : ∀ a0 a1 k, LeO (r1_Sub.f k a0 a1) (r1_Sub.f (k + 1) a0 a1) := by
 intro a0 a1 k
 have ih0 := r1_Sub.mono_l k
 unfold r1_Sub.f
 repeat' first
   | (with_reducible exact ih0 _ _ _ _ _)
   | (with_reducible exact r1_trim.mono _ _)
   | (with_reducible exact LeO.refl _)
   | (with_reducible exact LeO.none _)
   | (with_reducible refine LeO.ite ?_ ?_)
   | (with_reducible refine LeO.bind ?_ (fun _ => ?_))
   | exact ih0 _ _ _ _ _
   | exact r1_trim.mono _ _
   | exact LeO.none _
   | refine LeO.ite ?_ ?_
   | refine LeO.bind ?_ (fun _ => ?_)
theorem r1_Sub.calls (k : Nat) (A0_0 : Option Addr) (c0_0 : Nat) (l0_0 : List Int) (A1_0 : Option Addr) (c1_0 : Nat) (l1_0 : List Int) (r : List Int) (w : World) (hr0_0 : Kd.C (Kd.int .u64) w A0_0 l0_0.length l0_0) (hc0_0 : l0_0.length ≤ c0_0) (hr1_0 : Kd.C (Kd.int .u64) w A1_0 l1_0.length l1_0) (hc1_0 : l1_0.length ≤ c1_0) (h : r1_Sub.f k l0_0 l1_0 = some r) :
  Calls Tryd.prog 117 #[.agg #[.slice A0_0 l0_0.length c0_0], .agg #[.slice A1_0 l1_0.length c1_0]] w fun e w' => ∃ v0_ : Value, e = .returned (.agg #[v0_]) ∧ Kd.R (Kd.int .u64) 22 w' w.heap.size (fun _ => True) v0_ r ∧ Below w.heap.size w w' := by
 have hu67 := Tryd.underlying67
 have HR0_0 := A_ hr0_0;have HC0_0 := A_ hc0_0;clear hr0_0 hc0_0;have HR1_0 := A_ hr1_0;have HC1_0 := A_ hc1_0;clear hr1_0 hc1_0
 have HB := A_ (Below.refl w.heap.size w)
 have H : (r1_Sub.l0 k ([] : List Int) 0 0 l0_0 l1_0) = some r := h
 clear h
 have H' := A_ H
 clear H
 go_enter Tryd.func117, Tryd.ntmps117
 go_wp2_with (first | ((with_reducible refine gate_dst (N := 2) rfl ?_); refine be_ 2 #[.slice A0_0 l0_0.length c0_0] 67 ?_; intro gb411 hg w3 hbox hb; have BK411 := A_ (hbox); have GW411 := A_ (sz_ hg (hb_ HB.out)); have GE411 := A_ (sz_ hg (hb_ HB.out)); replace HB := A_ (below_step (hb_ HB.out) hb); clear hb hbox hg) | ((with_reducible refine gate_dst (N := 3) rfl ?_); refine be_ 3 #[.slice A1_0 l1_0.length c1_0] 67 ?_; intro gb412 hg w4 hbox hb; have BK412 := A_ (hbox); have GW412 := A_ (sz_ hg (hb1_ HB.out GE411.out)); have GE412 := A_ (sz_ hg (hb1_ HB.out GE411.out)); have NB411_412 := A_ (nl_ hg BK411.out); have NB412_411 := A_ (ng_ hg BK411.out); replace BK411 := A_ (bb_ BK411.out hb); replace HB := A_ (below_step (hb1_ HB.out GE411.out) hb); clear hb hbox hg) | ((with_reducible refine gate_dst (N := 4) rfl ?_); refine be_ 4 #[.slice none 0 0] 67 ?_; intro gb413 hg w5 hbox hb; have BK413 := A_ (hbox); have GW413 := A_ (sz_ hg (hb2_ HB.out GE411.out GE412.out)); have GE413 := A_ (sz_ hg (hb2_ HB.out GE411.out GE412.out)); have NB411_413 := A_ (nl_ hg BK411.out); have NB413_411 := A_ (ng_ hg BK411.out); have NB412_413 := A_ (nl_ hg BK412.out); have NB413_412 := A_ (ng_ hg BK412.out); replace BK411 := A_ (bb_ BK411.out hb); replace BK412 := A_ (bb_ BK412.out hb); replace HB := A_ (below_step (hb2_ HB.out GE411.out GE412.out) hb); clear hb hbox hg))
 repeat (go_quiet (first | ((with_reducible refine gate_dst (N := 2) rfl ?_); refine be_ 2 #[.slice A0_0 l0_0.length c0_0] 67 ?_; intro gb411 hg w3 hbox hb; have BK411 := A_ (hbox); have GW411 := A_ (sz_ hg (hb_ HB.out)); have GE411 := A_ (sz_ hg (hb_ HB.out)); replace HB := A_ (below_step (hb_ HB.out) hb); clear hb hbox hg) | ((with_reducible refine gate_dst (N := 3) rfl ?_); refine be_ 3 #[.slice A1_0 l1_0.length c1_0] 67 ?_; intro gb412 hg w4 hbox hb; have BK412 := A_ (hbox); have GW412 := A_ (sz_ hg (hb1_ HB.out GE411.out)); have GE412 := A_ (sz_ hg (hb1_ HB.out GE411.out)); have NB411_412 := A_ (nl_ hg BK411.out); have NB412_411 := A_ (ng_ hg BK411.out); replace BK411 := A_ (bb_ BK411.out hb); replace HB := A_ (below_step (hb1_ HB.out GE411.out) hb); clear hb hbox hg) | ((with_reducible refine gate_dst (N := 4) rfl ?_); refine be_ 4 #[.slice none 0 0] 67 ?_; intro gb413 hg w5 hbox hb; have BK413 := A_ (hbox); have GW413 := A_ (sz_ hg (hb2_ HB.out GE411.out GE412.out)); have GE413 := A_ (sz_ hg (hb2_ HB.out GE411.out GE412.out)); have NB411_413 := A_ (nl_ hg BK411.out); have NB413_411 := A_ (ng_ hg BK411.out); have NB412_413 := A_ (nl_ hg BK412.out); have NB413_412 := A_ (ng_ hg BK412.out); replace BK411 := A_ (bb_ BK411.out hb); replace BK412 := A_ (bb_ BK412.out hb); replace HB := A_ (below_step (hb2_ HB.out GE411.out GE412.out) hb); clear hb hbox hg)); try go_wp2_with (first | ((with_reducible refine gate_dst (N := 2) rfl ?_); refine be_ 2 #[.slice A0_0 l0_0.length c0_0] 67 ?_; intro gb411 hg w3 hbox hb; have BK411 := A_ (hbox); have GW411 := A_ (sz_ hg (hb_ HB.out)); have GE411 := A_ (sz_ hg (hb_ HB.out)); replace HB := A_ (below_step (hb_ HB.out) hb); clear hb hbox hg) | ((with_reducible refine gate_dst (N := 3) rfl ?_); refine be_ 3 #[.slice A1_0 l1_0.length c1_0] 67 ?_; intro gb412 hg w4 hbox hb; have BK412 := A_ (hbox); have GW412 := A_ (sz_ hg (hb1_ HB.out GE411.out)); have GE412 := A_ (sz_ hg (hb1_ HB.out GE411.out)); have NB411_412 := A_ (nl_ hg BK411.out); have NB412_411 := A_ (ng_ hg BK411.out); replace BK411 := A_ (bb_ BK411.out hb); replace HB := A_ (below_step (hb1_ HB.out GE411.out) hb); clear hb hbox hg) | ((with_reducible refine gate_dst (N := 4) rfl ?_); refine be_ 4 #[.slice none 0 0] 67 ?_; intro gb413 hg w5 hbox hb; have BK413 := A_ (hbox); have GW413 := A_ (sz_ hg (hb2_ HB.out GE411.out GE412.out)); have GE413 := A_ (sz_ hg (hb2_ HB.out GE411.out GE412.out)); have NB411_413 := A_ (nl_ hg BK411.out); have NB413_411 := A_ (ng_ hg BK411.out); have NB412_413 := A_ (nl_ hg BK412.out); have NB413_412 := A_ (ng_ hg BK412.out); replace BK411 := A_ (bb_ BK411.out hb); replace BK412 := A_ (bb_ BK412.out hb); replace HB := A_ (below_step (hb2_ HB.out GE411.out GE412.out) hb); clear hb hbox hg)))
 go_loopg [5, 6, 7] k (fun kq v5 v6 v7 w' => ∃ (x5_1 : List Int) (x6_1 : Int) (x7_1 : Int), v6 = .int .u64 x6_1 ∧ v7 = .int .i64 x7_1 ∧ Aside0 (r1_Sub.l0 kq x5_1 x6_1 x7_1 l0_0 l1_0 = some r) ∧ Aside0 (kq ≤ k) ∧ Aside0 (Kd.R (Kd.int .u64) 22 w' w.heap.size (fun _ => True) v5 x5_1) ∧ Aside0 (w'.heap[gb411]? = some (.cells #[(.slice A0_0 l0_0.length c0_0)] 67 (0, 0))) ∧ Aside0 (w'.heap[gb412]? = some (.cells #[(.slice A1_0 l1_0.length c1_0)] 67 (0, 0))) ∧ Aside0 (w'.heap[gb413]? = some (.cells #[(.slice none 0 0)] 67 (0, 0))) ∧ Aside0 (Below w.heap.size w w'))
 case atStart => exact ⟨(([] : List Int)), (0), (0), sm_, sm_, H', ⟨Nat.le_refl _⟩, ⟨by first | exact Kd.R_nil _ _ _ _ _ | exact Kd.N_nil _ _ _ _ _ | exact Kd.V_nil _ _ _ _ _ | exact Kd.Q_nil _ _ _ _ _ | exact Kd.S_nil _ _ _ _ _⟩, ⟨bk_ BK411.out⟩, ⟨bk_ BK412.out⟩, ⟨bk_ BK413.out⟩, ⟨hb3_ HB.out GE411.out GE412.out GE413.out⟩⟩
 case round =>
  clear H'
  try clear c1
  try clear p2
  obtain ⟨x5_1, x6_1, x7_1, rfl, rfl, HA, HK1, HO_5, BK411, BK412, BK413, HB⟩ := hrel
  cases gk with
  | zero => exact absurd HA.out (by simp [r1_Sub.l0])
  | succ k1 =>
   have H := HA.out
   clear HA
   simp only [r1_Sub.l0] at H
   by_cases c6 : x7_1 < (l0_0.length : Int)
   ·rw [if_pos c6] at H
    have c6b0 : decide (x7_1 < (l0_0.length : Int)) = true := decide_eq_true c6
    clear c6
    by_cases c7 : 0 ≤ x7_1
    ·rw [if_pos c7] at H
     have c7b0 : decide (0 ≤ x7_1) = true := decide_eq_true c7
     clear c7
     replace H := ob_ H
     obtain ⟨t415, A80, H⟩ := H
     replace H : (if x5_1.length < 17592186044416 then (r1_Sub.l0 k1 (x5_1 ++ [Int.tmod (IntKind.u64.wrap ((IntKind.u64.wrap ((IntKind.u64.wrap ((rd l0_0 x7_1) + 4294967296)) - t415)) - x6_1)) 4294967296]) (IntKind.u64.wrap (1 - (IntKind.u64.wrap (Int.tdiv (IntKind.u64.wrap ((IntKind.u64.wrap ((IntKind.u64.wrap ((rd l0_0 x7_1) + 4294967296)) - t415)) - x6_1)) 4294967296)))) (wrap64 (x7_1 + 1)) l0_0 l1_0) else (none)) = some r := H
     have A8 := A_ A80;clear A80
     by_cases c9 : x5_1.length < 17592186044416
     ·rw [if_pos c9] at H
      have LMc9 := A_ c9;clear c9
      obtain ⟨y416, hy416⟩ : ∃ y_ : List Int, y_ = (x5_1 ++ [Int.tmod (IntKind.u64.wrap ((IntKind.u64.wrap ((IntKind.u64.wrap ((rd l0_0 x7_1) + 4294967296)) - t415)) - x6_1)) 4294967296]) := ⟨_, rfl⟩
      replace H : (r1_Sub.l0 k1 y416 (IntKind.u64.wrap (1 - (IntKind.u64.wrap (Int.tdiv (IntKind.u64.wrap ((IntKind.u64.wrap ((IntKind.u64.wrap ((rd l0_0 x7_1) + 4294967296)) - t415)) - x6_1)) 4294967296)))) (wrap64 (x7_1 + 1)) l0_0 l1_0) = some r := by first | (rw [hy416]; with_reducible exact H) | (have H2_ := (Option.bind_some _ _).symm.trans H; rw [hy416]; with_reducible exact H2_) | (have H2_ := (Option.bind_some _ _).symm.trans H; with_reducible exact H2_) | with_reducible exact H | (rw [hy416]; exact H) | exact H
      have Ny416 := A_ hy416;clear hy416
      have H' := A_ H
      clear H
      have hnb10 := NB411_412.out
      have hnc10 := NB412_411.out
      have hnb11 := NB411_413.out
      have hnc11 := NB413_411.out
      have hcz12_0 := bv_ BK411.out 0
      have hfz12_0 := blk_frozen BK411.out 0
      have p414 : 0 ≤ (x7_1 : Int) := of_decide_eq_true (by first | (with_reducible assumption) | assumption)
      have q414 : x7_1 < (l0_0.length : Int) := of_decide_eq_true (by first | (with_reducible assumption) | assumption)
      obtain ⟨ad414, e414, hx414_0⟩ := Kd.at_int HR0_0.out x7_1 p414 q414
      cases e414
      replace hx414_0 := (HB.out.cell (World.block_lt_of_cell? w _ hx414_0)).trans hx414_0
      replace p414 := eq_true p414
      replace q414 := eq_true q414
      have hnb13 := NB412_413.out
      have hnc13 := NB413_412.out
      have hcz14_0 := bv_ BK412.out 0
      have hfz14_0 := blk_frozen BK412.out 0
      go_wp2_with (first | (go_at_call 82; (with_reducible refine (r1_at.calls _ _ l1_0 x7_1 t415 _ ?side1 ?side2 A8.out).mono ?_); (case side1 => exact cs_ ((Kd.C_below HR1_0.out HB.out))); (case side2 => exact HC1_0.out); rintro e w' ⟨rfl, ⟨nd, rfl⟩⟩; (try first | exact ⟨rfl, _, World.drewN_drewN _ _ _⟩ | exact ⟨rfl, _, Eq.trans (World.drewN_drewN _ _ _) (congrArg (World.drewN _) (Nat.add_assoc _ _ _))⟩)) | ((with_reducible refine gate_builtin (b := .append) (xs := #[.tmp 29, .tmp 32]) rfl ?_); at_builtin; refine Kd.R_append (Kd.int .u64) (w0 := w) w.heap.size rfl (.tmp 29) (.tmp 32) 65 22 (.int .u64 0) 8 rfl Tryd.underlying65 info22 rfl (by decide) (by omega) u5 x5_1 (Int.tmod (IntKind.u64.wrap ((IntKind.u64.wrap ((IntKind.u64.wrap ((rd l0_0 x7_1) + 4294967296)) - t415)) - x6_1)) 4294967296) [.int .u64 (Int.tmod (IntKind.u64.wrap ((IntKind.u64.wrap ((IntKind.u64.wrap ((rd l0_0 x7_1) + 4294967296)) - t415)) - x6_1)) 4294967296)] (fun _ => True) (fun _ => False) rfl rfl ?aP (fun _ hk => hk.elim) ?aF ?aO ?aB ?aS ?aL ?_; (case aP => exact rfl); (case aB => exact (hb3_ HB.out GE411.out GE412.out GE413.out)); (case aF => exact (fun _ _ => trivial)); (case aO => exact (kr_ HO_5.out)); (case aS => exact (below_size (hb3_ HB.out GE411.out GE412.out GE413.out))); (case aL => have := LMc9.out; omega); intro v417 w15 ho hb hg hat; rw [← Ny416.out] at ho; have n0_ := A_ (blk_grown (g := gb411) (o := .cells #[.slice (some ad414) l0_0.length c0_0] 67 (0, 0)) (bk_ BK411.out) hg (Kd.R_ne HO_5.out BK411.out (by decide))); have n1_ := A_ (blk_grown (g := gb412) (o := .cells #[.slice A1_0 l1_0.length c1_0] 67 (0, 0)) (bk_ BK412.out) hg (Kd.R_ne HO_5.out BK412.out (by decide))); have n2_ := A_ (blk_grown (g := gb413) (o := .cells #[.slice none 0 0] 67 (0, 0)) (bk_ BK413.out) hg (Kd.R_ne HO_5.out BK413.out (by decide))); have n3_ := A_ (hb); have n4_ := A_ (ho); clear BK411; clear BK412; clear BK413; clear HB; clear HO_5; have BK411 := n0_; have BK412 := n1_; have BK413 := n2_; have HB := n3_; have HO418 := n4_; clear n0_ n1_ n2_ n3_ n4_; clear ho hb hg hat))
      repeat (go_quiet (first | (go_at_call 82; (with_reducible refine (r1_at.calls _ _ l1_0 x7_1 t415 _ ?side1 ?side2 A8.out).mono ?_); (case side1 => exact cs_ ((Kd.C_below HR1_0.out HB.out))); (case side2 => exact HC1_0.out); rintro e w' ⟨rfl, ⟨nd, rfl⟩⟩; (try first | exact ⟨rfl, _, World.drewN_drewN _ _ _⟩ | exact ⟨rfl, _, Eq.trans (World.drewN_drewN _ _ _) (congrArg (World.drewN _) (Nat.add_assoc _ _ _))⟩)) | ((with_reducible refine gate_builtin (b := .append) (xs := #[.tmp 29, .tmp 32]) rfl ?_); at_builtin; refine Kd.R_append (Kd.int .u64) (w0 := w) w.heap.size rfl (.tmp 29) (.tmp 32) 65 22 (.int .u64 0) 8 rfl Tryd.underlying65 info22 rfl (by decide) (by omega) u5 x5_1 (Int.tmod (IntKind.u64.wrap ((IntKind.u64.wrap ((IntKind.u64.wrap ((rd l0_0 x7_1) + 4294967296)) - t415)) - x6_1)) 4294967296) [.int .u64 (Int.tmod (IntKind.u64.wrap ((IntKind.u64.wrap ((IntKind.u64.wrap ((rd l0_0 x7_1) + 4294967296)) - t415)) - x6_1)) 4294967296)] (fun _ => True) (fun _ => False) rfl rfl ?aP (fun _ hk => hk.elim) ?aF ?aO ?aB ?aS ?aL ?_; (case aP => exact rfl); (case aB => exact (hb3_ HB.out GE411.out GE412.out GE413.out)); (case aF => exact (fun _ _ => trivial)); (case aO => exact (kr_ HO_5.out)); (case aS => exact (below_size (hb3_ HB.out GE411.out GE412.out GE413.out))); (case aL => have := LMc9.out; omega); intro v417 w15 ho hb hg hat; rw [← Ny416.out] at ho; have n0_ := A_ (blk_grown (g := gb411) (o := .cells #[.slice (some ad414) l0_0.length c0_0] 67 (0, 0)) (bk_ BK411.out) hg (Kd.R_ne HO_5.out BK411.out (by decide))); have n1_ := A_ (blk_grown (g := gb412) (o := .cells #[.slice A1_0 l1_0.length c1_0] 67 (0, 0)) (bk_ BK412.out) hg (Kd.R_ne HO_5.out BK412.out (by decide))); have n2_ := A_ (blk_grown (g := gb413) (o := .cells #[.slice none 0 0] 67 (0, 0)) (bk_ BK413.out) hg (Kd.R_ne HO_5.out BK413.out (by decide))); have n3_ := A_ (hb); have n4_ := A_ (ho); clear BK411; clear BK412; clear BK413; clear HB; clear HO_5; have BK411 := n0_; have BK412 := n1_; have BK413 := n2_; have HB := n3_; have HO418 := n4_; clear n0_ n1_ n2_ n3_ n4_; clear ho hb hg hat)); try go_wp2_with (first | (go_at_call 82; (with_reducible refine (r1_at.calls _ _ l1_0 x7_1 t415 _ ?side1 ?side2 A8.out).mono ?_); (case side1 => exact cs_ ((Kd.C_below HR1_0.out HB.out))); (case side2 => exact HC1_0.out); rintro e w' ⟨rfl, ⟨nd, rfl⟩⟩; (try first | exact ⟨rfl, _, World.drewN_drewN _ _ _⟩ | exact ⟨rfl, _, Eq.trans (World.drewN_drewN _ _ _) (congrArg (World.drewN _) (Nat.add_assoc _ _ _))⟩)) | ((with_reducible refine gate_builtin (b := .append) (xs := #[.tmp 29, .tmp 32]) rfl ?_); at_builtin; refine Kd.R_append (Kd.int .u64) (w0 := w) w.heap.size rfl (.tmp 29) (.tmp 32) 65 22 (.int .u64 0) 8 rfl Tryd.underlying65 info22 rfl (by decide) (by omega) u5 x5_1 (Int.tmod (IntKind.u64.wrap ((IntKind.u64.wrap ((IntKind.u64.wrap ((rd l0_0 x7_1) + 4294967296)) - t415)) - x6_1)) 4294967296) [.int .u64 (Int.tmod (IntKind.u64.wrap ((IntKind.u64.wrap ((IntKind.u64.wrap ((rd l0_0 x7_1) + 4294967296)) - t415)) - x6_1)) 4294967296)] (fun _ => True) (fun _ => False) rfl rfl ?aP (fun _ hk => hk.elim) ?aF ?aO ?aB ?aS ?aL ?_; (case aP => exact rfl); (case aB => exact (hb3_ HB.out GE411.out GE412.out GE413.out)); (case aF => exact (fun _ _ => trivial)); (case aO => exact (kr_ HO_5.out)); (case aS => exact (below_size (hb3_ HB.out GE411.out GE412.out GE413.out))); (case aL => have := LMc9.out; omega); intro v417 w15 ho hb hg hat; rw [← Ny416.out] at ho; have n0_ := A_ (blk_grown (g := gb411) (o := .cells #[.slice (some ad414) l0_0.length c0_0] 67 (0, 0)) (bk_ BK411.out) hg (Kd.R_ne HO_5.out BK411.out (by decide))); have n1_ := A_ (blk_grown (g := gb412) (o := .cells #[.slice A1_0 l1_0.length c1_0] 67 (0, 0)) (bk_ BK412.out) hg (Kd.R_ne HO_5.out BK412.out (by decide))); have n2_ := A_ (blk_grown (g := gb413) (o := .cells #[.slice none 0 0] 67 (0, 0)) (bk_ BK413.out) hg (Kd.R_ne HO_5.out BK413.out (by decide))); have n3_ := A_ (hb); have n4_ := A_ (ho); clear BK411; clear BK412; clear BK413; clear HB; clear HO_5; have BK411 := n0_; have BK412 := n1_; have BK413 := n2_; have HB := n3_; have HO418 := n4_; clear n0_ n1_ n2_ n3_ n4_; clear ho hb hg hat)))
      go_roundg k1
      case measure => have := HK1.out; omega
      case rel => exact ⟨(y416), (IntKind.u64.wrap (1 - (IntKind.u64.wrap (Int.tdiv (IntKind.u64.wrap ((IntKind.u64.wrap ((IntKind.u64.wrap ((rd l0_0 x7_1) + 4294967296)) - t415)) - x6_1)) 4294967296)))), (wrap64 (x7_1 + 1)), sm_, sm_, H', ⟨by have := HK1.out; omega⟩, ⟨by (with_reducible repeat (first | apply Kd.R_alloc | apply Kd.R_drewN | apply Kd.R_drew)); exact HO418.out⟩, ⟨bk_ BK411.out⟩, ⟨bk_ BK412.out⟩, ⟨bk_ BK413.out⟩, ⟨hb3_ HB.out GE411.out GE412.out GE413.out⟩⟩
     ·rw [if_neg c9] at H
      exact absurd H (by simp)
    ·rw [if_neg c7] at H
     exact absurd H (by simp)
   ·rw [if_neg c6] at H
    have c6b0 : decide (x7_1 < (l0_0.length : Int)) = false := decide_eq_false c6
    clear c6
    replace H := ob_ H
    obtain ⟨t419, A160, H⟩ := H
    replace H : (some t419) = some r := H
    have A16 := A_ A160;clear A160
    obtain rfl := Option.some.inj H
    have hnb17 := NB411_412.out
    have hnc17 := NB412_411.out
    have hnb18 := NB411_413.out
    have hnc18 := NB413_411.out
    have hcz19_0 := bv_ BK411.out 0
    have hfz19_0 := blk_frozen BK411.out 0
    obtain ⟨Ao20, co20, eo20⟩ := Kd.R_slice HO_5.out
    subst eo20
    go_wp2_with (first | (go_at_call 75; (with_reducible refine (r1_trim.calls k1 (fun k_ => some k_ = (.slice Ao20 x5_1.length co20 : Value).ownBlock) (.slice Ao20 x5_1.length co20) x5_1 t419 w _ ?side1 ?side2 A16.out).mono ?_); (case side1 => exact hb3_ HB.out GE411.out GE412.out GE413.out); (case side2 => exact Kd.R_tight rfl HO_5.out); rintro e w21 ⟨v420, rfl, ho0, hb, hkp⟩; have n0_ := A_ (blk_kept (bk_ BK411.out) hkp (fun hs_ => (fun e_ => (Kd.R_ne HO_5.out BK411.out (by decide)) e_) hs_)); have n1_ := A_ (blk_kept (bk_ BK412.out) hkp (fun hs_ => (fun e_ => (Kd.R_ne HO_5.out BK412.out (by decide)) e_) hs_)); have n2_ := A_ (blk_kept (bk_ BK413.out) hkp (fun hs_ => (fun e_ => (Kd.R_ne HO_5.out BK413.out (by decide)) e_) hs_)); have n3_ := A_ (Kd.R_mono (ok' := fun k_ => True) ho0 (fun k_ hk_ => trivial)); have n4_ := A_ (hb); clear BK411; clear BK412; clear BK413; clear HB; clear HO_5; have BK411 := n0_; have BK412 := n1_; have BK413 := n2_; have HO421 := n3_; have HB := n4_; clear n0_ n1_ n2_ n3_ n4_; (try clear hb); (try clear hkp); (try clear ho0); obtain ⟨Ao22, co22, eo22⟩ := Kd.R_slice HO421.out; subst eo22; have hnb23 := NB413_412.out; have hnc23 := NB412_413.out; have hcz24_0 := bv_ BK413.out 0; have hfz24_0 := blk_frozen BK413.out 0))
    repeat (go_quiet (first | (go_at_call 75; (with_reducible refine (r1_trim.calls k1 (fun k_ => some k_ = (.slice Ao20 x5_1.length co20 : Value).ownBlock) (.slice Ao20 x5_1.length co20) x5_1 t419 w _ ?side1 ?side2 A16.out).mono ?_); (case side1 => exact hb3_ HB.out GE411.out GE412.out GE413.out); (case side2 => exact Kd.R_tight rfl HO_5.out); rintro e w21 ⟨v420, rfl, ho0, hb, hkp⟩; have n0_ := A_ (blk_kept (bk_ BK411.out) hkp (fun hs_ => (fun e_ => (Kd.R_ne HO_5.out BK411.out (by decide)) e_) hs_)); have n1_ := A_ (blk_kept (bk_ BK412.out) hkp (fun hs_ => (fun e_ => (Kd.R_ne HO_5.out BK412.out (by decide)) e_) hs_)); have n2_ := A_ (blk_kept (bk_ BK413.out) hkp (fun hs_ => (fun e_ => (Kd.R_ne HO_5.out BK413.out (by decide)) e_) hs_)); have n3_ := A_ (Kd.R_mono (ok' := fun k_ => True) ho0 (fun k_ hk_ => trivial)); have n4_ := A_ (hb); clear BK411; clear BK412; clear BK413; clear HB; clear HO_5; have BK411 := n0_; have BK412 := n1_; have BK413 := n2_; have HO421 := n3_; have HB := n4_; clear n0_ n1_ n2_ n3_ n4_; (try clear hb); (try clear hkp); (try clear ho0); obtain ⟨Ao22, co22, eo22⟩ := Kd.R_slice HO421.out; subst eo22; have hnb23 := NB413_412.out; have hnc23 := NB412_413.out; have hcz24_0 := bv_ BK413.out 0; have hfz24_0 := blk_frozen BK413.out 0)); try go_wp2_with (first | (go_at_call 75; (with_reducible refine (r1_trim.calls k1 (fun k_ => some k_ = (.slice Ao20 x5_1.length co20 : Value).ownBlock) (.slice Ao20 x5_1.length co20) x5_1 t419 w _ ?side1 ?side2 A16.out).mono ?_); (case side1 => exact hb3_ HB.out GE411.out GE412.out GE413.out); (case side2 => exact Kd.R_tight rfl HO_5.out); rintro e w21 ⟨v420, rfl, ho0, hb, hkp⟩; have n0_ := A_ (blk_kept (bk_ BK411.out) hkp (fun hs_ => (fun e_ => (Kd.R_ne HO_5.out BK411.out (by decide)) e_) hs_)); have n1_ := A_ (blk_kept (bk_ BK412.out) hkp (fun hs_ => (fun e_ => (Kd.R_ne HO_5.out BK412.out (by decide)) e_) hs_)); have n2_ := A_ (blk_kept (bk_ BK413.out) hkp (fun hs_ => (fun e_ => (Kd.R_ne HO_5.out BK413.out (by decide)) e_) hs_)); have n3_ := A_ (Kd.R_mono (ok' := fun k_ => True) ho0 (fun k_ hk_ => trivial)); have n4_ := A_ (hb); clear BK411; clear BK412; clear BK413; clear HB; clear HO_5; have BK411 := n0_; have BK412 := n1_; have BK413 := n2_; have HO421 := n3_; have HB := n4_; clear n0_ n1_ n2_ n3_ n4_; (try clear hb); (try clear hkp); (try clear ho0); obtain ⟨Ao22, co22, eo22⟩ := Kd.R_slice HO421.out; subst eo22; have hnb23 := NB413_412.out; have hnc23 := NB412_413.out; have hcz24_0 := bv_ BK413.out 0; have hfz24_0 := blk_frozen BK413.out 0)))
    refine bodyPost_ret (results_cell_row rfl _ _ gb413 67 #[.slice Ao22 t419.length co22] (0, 0) _ rfl (by (with_reducible repeat (first | refine blk_drewN ?_ _ | refine blk_drew ?_ | refine blk_alloc ?_ _)); refine blk_put (cs := #[.slice none 0 0]) ?_ 0 _ rfl; (with_reducible repeat (first | refine blk_drewN ?_ _ | refine blk_drew ?_ | refine blk_alloc ?_ _)); exact BK413.out) Tryd.underlying67 rfl (by kernel_rfl)) rfl ?_
    exact ⟨_, by first | rfl | (simp [errW_none, errW_some] <;> rfl) | (simp [*, errW_none, errW_some] <;> rfl), by (with_reducible repeat (first | apply Kd.R_alloc | apply Kd.R_drewN | apply Kd.R_drew)); exact Kd.R_mono (Kd.R_far (p := ⟨gb413, 0, none⟩) (Kd.R_types HO421.out BK413.out (by decide)) (fun _ hk => hk.2) (.slice Ao22 t419.length co22)) (fun _ hk => trivial), hb3_ HB.out GE411.out GE412.out GE413.out⟩
def r1_Cmp.l0 : Nat → Int → List Int → List Int → Option (Int)
 | 0, _, _, _ => none
 | k + 1, x5, x369000, x370000 => if x5 ≥ 0 then ((r1_at.f x369000 x5).bind fun t370 => ((r1_at.f x370000 x5).bind fun t371 => (if t370 < t371 then (some (-1)) else (if t370 > t371 then (some 1) else (r1_Cmp.l0 k (wrap64 (x5 - 1)) x369000 x370000))))) else (some 0)
def r1_Cmp.f (k : Nat) (l0_0 : List Int) (l1_0 : List Int) : Option (Int) := r1_Cmp.l0 k (wrap64 ((mx (l0_0.length : Int) (l1_0.length : Int)) - 1)) l0_0 l1_0
theorem r1_Cmp.mono_l : ∀ k, (∀ y0 y1 y2, LeO (r1_Cmp.l0 k y0 y1 y2) (r1_Cmp.l0 (k + 1) y0 y1 y2))
 | 0 => fun _ _ _ r h => by simp [r1_Cmp.l0] at h
 | k + 1 => by
  have ih0 := r1_Cmp.mono_l k
  ·intro y0 y1 y2
   unfold r1_Cmp.l0
   repeat' first
   | (with_reducible exact ih0 _ _ _)
   | (with_reducible exact LeO.refl _)
   | (with_reducible exact LeO.none _)
   | (with_reducible refine LeO.ite ?_ ?_)
   | (with_reducible refine LeO.bind ?_ (fun _ => ?_))
   | exact ih0 _ _ _
   | exact LeO.none _
   | refine LeO.ite ?_ ?_
   | refine LeO.bind ?_ (fun _ => ?_)
theorem r1_Cmp.mono : ∀ a0 a1 k, LeO (r1_Cmp.f k a0 a1) (r1_Cmp.f (k + 1) a0 a1) := by
 intro a0 a1 k
 have ih0 := r1_Cmp.mono_l k
 unfold r1_Cmp.f
 repeat' first
   | (with_reducible exact ih0 _ _ _)
   | (with_reducible exact LeO.refl _)
   | (with_reducible exact LeO.none _)
   | (with_reducible refine LeO.ite ?_ ?_)
   | (with_reducible refine LeO.bind ?_ (fun _ => ?_))
   | exact ih0 _ _ _
   | exact LeO.none _
   | refine LeO.ite ?_ ?_
   | refine LeO.bind ?_ (fun _ => ?_)
theorem r1_Cmp.calls (k : Nat) (A0_0 : Option Addr) (c0_0 : Nat) (l0_0 : List Int) (A1_0 : Option Addr) (c1_0 : Nat) (l1_0 : List Int) (r : Int) (w : World) (hr0_0 : Kd.C (Kd.int .u64) w A0_0 l0_0.length l0_0) (hc0_0 : l0_0.length ≤ c0_0) (hr1_0 : Kd.C (Kd.int .u64) w A1_0 l1_0.length l1_0) (hc1_0 : l1_0.length ≤ c1_0) (h : r1_Cmp.f k l0_0 l1_0 = some r) :
  Calls Tryd.prog 59 #[.agg #[.slice A0_0 l0_0.length c0_0], .agg #[.slice A1_0 l1_0.length c1_0]] w fun e w' => e = .returned (.int .i64 r) ∧ Below w.heap.size w w' := by
 have hu67 := Tryd.underlying67
 have HR0_0 := A_ hr0_0;have HC0_0 := A_ hc0_0;clear hr0_0 hc0_0;have HR1_0 := A_ hr1_0;have HC1_0 := A_ hc1_0;clear hr1_0 hc1_0
 have HB := A_ (Below.refl w.heap.size w)
 have H : (r1_Cmp.l0 k (wrap64 ((mx (l0_0.length : Int) (l1_0.length : Int)) - 1)) l0_0 l1_0) = some r := h
 clear h
 obtain ⟨ji3, hji3⟩ : ∃ j_ : Int, (mx (l0_0.length : Int) (l1_0.length : Int)) = j_ := ⟨_, rfl⟩
 replace H : (r1_Cmp.l0 k (wrap64 ((ji3) - 1)) l0_0 l1_0) = some r := by first | (rw [hji3] at H; exact H) | (simp only [hji3] at H ⊢; exact H)
 (try (have hji3l : 0 ≤ ji3 := by (rw [← hji3]; unfold mx; (repeat' split) <;> omega)))
 (try (have hji3m : 0 ≤ ji3 := by omega))
 have hji3_ : (if (l0_0.length : Int) < (l1_0.length : Int) then (l1_0.length : Int) else (l0_0.length : Int)) = ji3 := hji3
 have hji3n_ : (if l0_0.length < l1_0.length then (l1_0.length : Int) else (l0_0.length : Int)) = ji3 := by have h_ := hji3_; simpa only [Int.ofNat_lt] using h_
 have H' := A_ H
 clear H
 go_enter Tryd.func59, Tryd.ntmps59
 go_wp2_with (first | ((with_reducible refine gate_dst (N := 2) rfl ?_); refine be_ 2 #[.slice A0_0 l0_0.length c0_0] 67 ?_; intro gb368 hg w4 hbox hb; have BK368 := A_ (hbox); have GW368 := A_ (sz_ hg (hb_ HB.out)); have GE368 := A_ (sz_ hg (hb_ HB.out)); replace HB := A_ (below_step (hb_ HB.out) hb); clear hb hbox hg) | ((with_reducible refine gate_dst (N := 3) rfl ?_); refine be_ 3 #[.slice A1_0 l1_0.length c1_0] 67 ?_; intro gb369 hg w5 hbox hb; have BK369 := A_ (hbox); have GW369 := A_ (sz_ hg (hb1_ HB.out GE368.out)); have GE369 := A_ (sz_ hg (hb1_ HB.out GE368.out)); have NB368_369 := A_ (nl_ hg BK368.out); have NB369_368 := A_ (ng_ hg BK368.out); replace BK368 := A_ (bb_ BK368.out hb); replace HB := A_ (below_step (hb1_ HB.out GE368.out) hb); clear hb hbox hg; have hnb6 := NB368_369.out; have hnc6 := NB369_368.out; have hcz7_0 := bv_ BK368.out 0; have hfz7_0 := blk_frozen BK368.out 0; have hcz8_0 := bv_ BK369.out 0; have hfz8_0 := blk_frozen BK369.out 0))
 repeat (go_quiet (first | ((with_reducible refine gate_dst (N := 2) rfl ?_); refine be_ 2 #[.slice A0_0 l0_0.length c0_0] 67 ?_; intro gb368 hg w4 hbox hb; have BK368 := A_ (hbox); have GW368 := A_ (sz_ hg (hb_ HB.out)); have GE368 := A_ (sz_ hg (hb_ HB.out)); replace HB := A_ (below_step (hb_ HB.out) hb); clear hb hbox hg) | ((with_reducible refine gate_dst (N := 3) rfl ?_); refine be_ 3 #[.slice A1_0 l1_0.length c1_0] 67 ?_; intro gb369 hg w5 hbox hb; have BK369 := A_ (hbox); have GW369 := A_ (sz_ hg (hb1_ HB.out GE368.out)); have GE369 := A_ (sz_ hg (hb1_ HB.out GE368.out)); have NB368_369 := A_ (nl_ hg BK368.out); have NB369_368 := A_ (ng_ hg BK368.out); replace BK368 := A_ (bb_ BK368.out hb); replace HB := A_ (below_step (hb1_ HB.out GE368.out) hb); clear hb hbox hg; have hnb6 := NB368_369.out; have hnc6 := NB369_368.out; have hcz7_0 := bv_ BK368.out 0; have hfz7_0 := blk_frozen BK368.out 0; have hcz8_0 := bv_ BK369.out 0; have hfz8_0 := blk_frozen BK369.out 0)); try go_wp2_with (first | ((with_reducible refine gate_dst (N := 2) rfl ?_); refine be_ 2 #[.slice A0_0 l0_0.length c0_0] 67 ?_; intro gb368 hg w4 hbox hb; have BK368 := A_ (hbox); have GW368 := A_ (sz_ hg (hb_ HB.out)); have GE368 := A_ (sz_ hg (hb_ HB.out)); replace HB := A_ (below_step (hb_ HB.out) hb); clear hb hbox hg) | ((with_reducible refine gate_dst (N := 3) rfl ?_); refine be_ 3 #[.slice A1_0 l1_0.length c1_0] 67 ?_; intro gb369 hg w5 hbox hb; have BK369 := A_ (hbox); have GW369 := A_ (sz_ hg (hb1_ HB.out GE368.out)); have GE369 := A_ (sz_ hg (hb1_ HB.out GE368.out)); have NB368_369 := A_ (nl_ hg BK368.out); have NB369_368 := A_ (ng_ hg BK368.out); replace BK368 := A_ (bb_ BK368.out hb); replace HB := A_ (below_step (hb1_ HB.out GE368.out) hb); clear hb hbox hg; have hnb6 := NB368_369.out; have hnc6 := NB369_368.out; have hcz7_0 := bv_ BK368.out 0; have hfz7_0 := blk_frozen BK368.out 0; have hcz8_0 := bv_ BK369.out 0; have hfz8_0 := blk_frozen BK369.out 0)))
 go_loopg [5] k (fun kq v5 w' => ∃ (x5_1 : Int), v5 = .int .i64 x5_1 ∧ Aside0 (r1_Cmp.l0 kq x5_1 l0_0 l1_0 = some r) ∧ Aside0 (kq ≤ k) ∧ Aside0 (w'.heap[gb368]? = some (.cells #[(.slice A0_0 l0_0.length c0_0)] 67 (0, 0))) ∧ Aside0 (w'.heap[gb369]? = some (.cells #[(.slice A1_0 l1_0.length c1_0)] 67 (0, 0))) ∧ Aside0 (Below w.heap.size w w'))
 case atStart => exact ⟨(wrap64 ((ji3) - 1)), (by first | rfl | (simp; done) | (simp only [← hji3] <;> (first | rfl | simp)) | (simp [*]; done)), H', ⟨Nat.le_refl _⟩, ⟨bk_ BK368.out⟩, ⟨bk_ BK369.out⟩, ⟨hb2_ HB.out GE368.out GE369.out⟩⟩
 case round =>
  clear H'
  try clear c1
  try clear p2
  try clear c5
  try clear c6
  try clear p6
  try clear hcz7_0
  try clear hcz8_0
  try clear hfz7_0
  try clear hfz8_0
  obtain ⟨x5_1, rfl, HA, HK1, BK368, BK369, HB⟩ := hrel
  cases gk with
  | zero => exact absurd HA.out (by simp [r1_Cmp.l0])
  | succ k1 =>
   have H := HA.out
   clear HA
   simp only [r1_Cmp.l0] at H
   by_cases c9 : x5_1 ≥ 0
   ·rw [if_pos c9] at H
    have c9b0 : decide (0 ≤ x5_1) = true := decide_eq_true c9
    clear c9
    replace H := ob_ H
    obtain ⟨t370, A100, H⟩ := H
    replace H : ((r1_at.f l1_0 x5_1).bind fun t371 => (if t370 < t371 then (some (-1)) else (if t370 > t371 then (some 1) else (r1_Cmp.l0 k1 (wrap64 (x5_1 - 1)) l0_0 l1_0)))) = some r := H
    have A10 := A_ A100;clear A100
    replace H := ob_ H
    obtain ⟨t371, A110, H⟩ := H
    replace H : (if t370 < t371 then (some (-1)) else (if t370 > t371 then (some 1) else (r1_Cmp.l0 k1 (wrap64 (x5_1 - 1)) l0_0 l1_0))) = some r := H
    have A11 := A_ A110;clear A110
    by_cases c12 : t370 < t371
    ·rw [if_pos c12] at H
     have c12b0 : decide (t370 < t371) = true := decide_eq_true c12
     clear c12
     obtain rfl := Option.some.inj H
     have hnb13 := NB368_369.out
     have hnc13 := NB369_368.out
     have hcz14_0 := bv_ BK368.out 0
     have hfz14_0 := blk_frozen BK368.out 0
     go_wp2_with (first | (go_at_call 82; (with_reducible refine (r1_at.calls _ _ l0_0 x5_1 t370 _ ?side1 ?side2 A10.out).mono ?_); (case side1 => exact cs_ ((Kd.C_below HR0_0.out HB.out))); (case side2 => exact HC0_0.out); rintro e w' ⟨rfl, ⟨nd, rfl⟩⟩; (try first | exact ⟨rfl, _, World.drewN_drewN _ _ _⟩ | exact ⟨rfl, _, Eq.trans (World.drewN_drewN _ _ _) (congrArg (World.drewN _) (Nat.add_assoc _ _ _))⟩); have hcz15_0 := bv_ BK369.out 0; have hfz15_0 := blk_frozen BK369.out 0) | (go_at_call 82; (with_reducible refine (r1_at.calls _ _ l1_0 x5_1 t371 _ ?side1 ?side2 A11.out).mono ?_); (case side1 => exact cs_ ((Kd.C_below HR1_0.out (hb2_ HB.out GE368.out GE369.out)))); (case side2 => exact HC1_0.out); rintro e w' ⟨rfl, ⟨nd, rfl⟩⟩; (try first | exact ⟨rfl, _, World.drewN_drewN _ _ _⟩ | exact ⟨rfl, _, Eq.trans (World.drewN_drewN _ _ _) (congrArg (World.drewN _) (Nat.add_assoc _ _ _))⟩)))
     repeat (go_quiet (first | (go_at_call 82; (with_reducible refine (r1_at.calls _ _ l0_0 x5_1 t370 _ ?side1 ?side2 A10.out).mono ?_); (case side1 => exact cs_ ((Kd.C_below HR0_0.out HB.out))); (case side2 => exact HC0_0.out); rintro e w' ⟨rfl, ⟨nd, rfl⟩⟩; (try first | exact ⟨rfl, _, World.drewN_drewN _ _ _⟩ | exact ⟨rfl, _, Eq.trans (World.drewN_drewN _ _ _) (congrArg (World.drewN _) (Nat.add_assoc _ _ _))⟩); have hcz15_0 := bv_ BK369.out 0; have hfz15_0 := blk_frozen BK369.out 0) | (go_at_call 82; (with_reducible refine (r1_at.calls _ _ l1_0 x5_1 t371 _ ?side1 ?side2 A11.out).mono ?_); (case side1 => exact cs_ ((Kd.C_below HR1_0.out (hb2_ HB.out GE368.out GE369.out)))); (case side2 => exact HC1_0.out); rintro e w' ⟨rfl, ⟨nd, rfl⟩⟩; (try first | exact ⟨rfl, _, World.drewN_drewN _ _ _⟩ | exact ⟨rfl, _, Eq.trans (World.drewN_drewN _ _ _) (congrArg (World.drewN _) (Nat.add_assoc _ _ _))⟩))); try go_wp2_with (first | (go_at_call 82; (with_reducible refine (r1_at.calls _ _ l0_0 x5_1 t370 _ ?side1 ?side2 A10.out).mono ?_); (case side1 => exact cs_ ((Kd.C_below HR0_0.out HB.out))); (case side2 => exact HC0_0.out); rintro e w' ⟨rfl, ⟨nd, rfl⟩⟩; (try first | exact ⟨rfl, _, World.drewN_drewN _ _ _⟩ | exact ⟨rfl, _, Eq.trans (World.drewN_drewN _ _ _) (congrArg (World.drewN _) (Nat.add_assoc _ _ _))⟩); have hcz15_0 := bv_ BK369.out 0; have hfz15_0 := blk_frozen BK369.out 0) | (go_at_call 82; (with_reducible refine (r1_at.calls _ _ l1_0 x5_1 t371 _ ?side1 ?side2 A11.out).mono ?_); (case side1 => exact cs_ ((Kd.C_below HR1_0.out (hb2_ HB.out GE368.out GE369.out)))); (case side2 => exact HC1_0.out); rintro e w' ⟨rfl, ⟨nd, rfl⟩⟩; (try first | exact ⟨rfl, _, World.drewN_drewN _ _ _⟩ | exact ⟨rfl, _, Eq.trans (World.drewN_drewN _ _ _) (congrArg (World.drewN _) (Nat.add_assoc _ _ _))⟩))))
     go_ret
     exact ⟨by first | rfl | (simp [errW_none, errW_some] <;> rfl) | (simp only [← hji3]; first | rfl | (simp [errW_none, errW_some] <;> rfl)) | (simp [*, errW_none, errW_some] <;> rfl), hb2_ HB.out GE368.out GE369.out⟩
    ·rw [if_neg c12] at H
     have c12b0 : decide (t370 < t371) = false := decide_eq_false c12
     clear c12
     by_cases c16 : t370 > t371
     ·rw [if_pos c16] at H
      have c16b0 : decide (t371 < t370) = true := decide_eq_true c16
      clear c16
      obtain rfl := Option.some.inj H
      have hnb17 := NB368_369.out
      have hnc17 := NB369_368.out
      have hcz18_0 := bv_ BK368.out 0
      have hfz18_0 := blk_frozen BK368.out 0
      go_wp2_with (first | (go_at_call 82; (with_reducible refine (r1_at.calls _ _ l0_0 x5_1 t370 _ ?side1 ?side2 A10.out).mono ?_); (case side1 => exact cs_ ((Kd.C_below HR0_0.out HB.out))); (case side2 => exact HC0_0.out); rintro e w' ⟨rfl, ⟨nd, rfl⟩⟩; (try first | exact ⟨rfl, _, World.drewN_drewN _ _ _⟩ | exact ⟨rfl, _, Eq.trans (World.drewN_drewN _ _ _) (congrArg (World.drewN _) (Nat.add_assoc _ _ _))⟩); have hcz19_0 := bv_ BK369.out 0; have hfz19_0 := blk_frozen BK369.out 0) | (go_at_call 82; (with_reducible refine (r1_at.calls _ _ l1_0 x5_1 t371 _ ?side1 ?side2 A11.out).mono ?_); (case side1 => exact cs_ ((Kd.C_below HR1_0.out (hb2_ HB.out GE368.out GE369.out)))); (case side2 => exact HC1_0.out); rintro e w' ⟨rfl, ⟨nd, rfl⟩⟩; (try first | exact ⟨rfl, _, World.drewN_drewN _ _ _⟩ | exact ⟨rfl, _, Eq.trans (World.drewN_drewN _ _ _) (congrArg (World.drewN _) (Nat.add_assoc _ _ _))⟩)))
      repeat (go_quiet (first | (go_at_call 82; (with_reducible refine (r1_at.calls _ _ l0_0 x5_1 t370 _ ?side1 ?side2 A10.out).mono ?_); (case side1 => exact cs_ ((Kd.C_below HR0_0.out HB.out))); (case side2 => exact HC0_0.out); rintro e w' ⟨rfl, ⟨nd, rfl⟩⟩; (try first | exact ⟨rfl, _, World.drewN_drewN _ _ _⟩ | exact ⟨rfl, _, Eq.trans (World.drewN_drewN _ _ _) (congrArg (World.drewN _) (Nat.add_assoc _ _ _))⟩); have hcz19_0 := bv_ BK369.out 0; have hfz19_0 := blk_frozen BK369.out 0) | (go_at_call 82; (with_reducible refine (r1_at.calls _ _ l1_0 x5_1 t371 _ ?side1 ?side2 A11.out).mono ?_); (case side1 => exact cs_ ((Kd.C_below HR1_0.out (hb2_ HB.out GE368.out GE369.out)))); (case side2 => exact HC1_0.out); rintro e w' ⟨rfl, ⟨nd, rfl⟩⟩; (try first | exact ⟨rfl, _, World.drewN_drewN _ _ _⟩ | exact ⟨rfl, _, Eq.trans (World.drewN_drewN _ _ _) (congrArg (World.drewN _) (Nat.add_assoc _ _ _))⟩))); try go_wp2_with (first | (go_at_call 82; (with_reducible refine (r1_at.calls _ _ l0_0 x5_1 t370 _ ?side1 ?side2 A10.out).mono ?_); (case side1 => exact cs_ ((Kd.C_below HR0_0.out HB.out))); (case side2 => exact HC0_0.out); rintro e w' ⟨rfl, ⟨nd, rfl⟩⟩; (try first | exact ⟨rfl, _, World.drewN_drewN _ _ _⟩ | exact ⟨rfl, _, Eq.trans (World.drewN_drewN _ _ _) (congrArg (World.drewN _) (Nat.add_assoc _ _ _))⟩); have hcz19_0 := bv_ BK369.out 0; have hfz19_0 := blk_frozen BK369.out 0) | (go_at_call 82; (with_reducible refine (r1_at.calls _ _ l1_0 x5_1 t371 _ ?side1 ?side2 A11.out).mono ?_); (case side1 => exact cs_ ((Kd.C_below HR1_0.out (hb2_ HB.out GE368.out GE369.out)))); (case side2 => exact HC1_0.out); rintro e w' ⟨rfl, ⟨nd, rfl⟩⟩; (try first | exact ⟨rfl, _, World.drewN_drewN _ _ _⟩ | exact ⟨rfl, _, Eq.trans (World.drewN_drewN _ _ _) (congrArg (World.drewN _) (Nat.add_assoc _ _ _))⟩))))
      go_ret
      exact ⟨by first | rfl | (simp [errW_none, errW_some] <;> rfl) | (simp only [← hji3]; first | rfl | (simp [errW_none, errW_some] <;> rfl)) | (simp [*, errW_none, errW_some] <;> rfl), hb2_ HB.out GE368.out GE369.out⟩
     ·rw [if_neg c16] at H
      have c16b0 : decide (t371 < t370) = false := decide_eq_false c16
      clear c16
      have H' := A_ H
      clear H
      have hnb20 := NB368_369.out
      have hnc20 := NB369_368.out
      have hcz21_0 := bv_ BK368.out 0
      have hfz21_0 := blk_frozen BK368.out 0
      go_wp2_with (first | (go_at_call 82; (with_reducible refine (r1_at.calls _ _ l0_0 x5_1 t370 _ ?side1 ?side2 A10.out).mono ?_); (case side1 => exact cs_ ((Kd.C_below HR0_0.out HB.out))); (case side2 => exact HC0_0.out); rintro e w' ⟨rfl, ⟨nd, rfl⟩⟩; (try first | exact ⟨rfl, _, World.drewN_drewN _ _ _⟩ | exact ⟨rfl, _, Eq.trans (World.drewN_drewN _ _ _) (congrArg (World.drewN _) (Nat.add_assoc _ _ _))⟩); have hcz22_0 := bv_ BK369.out 0; have hfz22_0 := blk_frozen BK369.out 0) | (go_at_call 82; (with_reducible refine (r1_at.calls _ _ l1_0 x5_1 t371 _ ?side1 ?side2 A11.out).mono ?_); (case side1 => exact cs_ ((Kd.C_below HR1_0.out (hb2_ HB.out GE368.out GE369.out)))); (case side2 => exact HC1_0.out); rintro e w' ⟨rfl, ⟨nd, rfl⟩⟩; (try first | exact ⟨rfl, _, World.drewN_drewN _ _ _⟩ | exact ⟨rfl, _, Eq.trans (World.drewN_drewN _ _ _) (congrArg (World.drewN _) (Nat.add_assoc _ _ _))⟩)))
      repeat (go_quiet (first | (go_at_call 82; (with_reducible refine (r1_at.calls _ _ l0_0 x5_1 t370 _ ?side1 ?side2 A10.out).mono ?_); (case side1 => exact cs_ ((Kd.C_below HR0_0.out HB.out))); (case side2 => exact HC0_0.out); rintro e w' ⟨rfl, ⟨nd, rfl⟩⟩; (try first | exact ⟨rfl, _, World.drewN_drewN _ _ _⟩ | exact ⟨rfl, _, Eq.trans (World.drewN_drewN _ _ _) (congrArg (World.drewN _) (Nat.add_assoc _ _ _))⟩); have hcz22_0 := bv_ BK369.out 0; have hfz22_0 := blk_frozen BK369.out 0) | (go_at_call 82; (with_reducible refine (r1_at.calls _ _ l1_0 x5_1 t371 _ ?side1 ?side2 A11.out).mono ?_); (case side1 => exact cs_ ((Kd.C_below HR1_0.out (hb2_ HB.out GE368.out GE369.out)))); (case side2 => exact HC1_0.out); rintro e w' ⟨rfl, ⟨nd, rfl⟩⟩; (try first | exact ⟨rfl, _, World.drewN_drewN _ _ _⟩ | exact ⟨rfl, _, Eq.trans (World.drewN_drewN _ _ _) (congrArg (World.drewN _) (Nat.add_assoc _ _ _))⟩))); try go_wp2_with (first | (go_at_call 82; (with_reducible refine (r1_at.calls _ _ l0_0 x5_1 t370 _ ?side1 ?side2 A10.out).mono ?_); (case side1 => exact cs_ ((Kd.C_below HR0_0.out HB.out))); (case side2 => exact HC0_0.out); rintro e w' ⟨rfl, ⟨nd, rfl⟩⟩; (try first | exact ⟨rfl, _, World.drewN_drewN _ _ _⟩ | exact ⟨rfl, _, Eq.trans (World.drewN_drewN _ _ _) (congrArg (World.drewN _) (Nat.add_assoc _ _ _))⟩); have hcz22_0 := bv_ BK369.out 0; have hfz22_0 := blk_frozen BK369.out 0) | (go_at_call 82; (with_reducible refine (r1_at.calls _ _ l1_0 x5_1 t371 _ ?side1 ?side2 A11.out).mono ?_); (case side1 => exact cs_ ((Kd.C_below HR1_0.out (hb2_ HB.out GE368.out GE369.out)))); (case side2 => exact HC1_0.out); rintro e w' ⟨rfl, ⟨nd, rfl⟩⟩; (try first | exact ⟨rfl, _, World.drewN_drewN _ _ _⟩ | exact ⟨rfl, _, Eq.trans (World.drewN_drewN _ _ _) (congrArg (World.drewN _) (Nat.add_assoc _ _ _))⟩))))
      go_roundg k1
      case measure => have := HK1.out; omega
      case rel => exact ⟨(wrap64 (x5_1 - 1)), sm_, H', ⟨by have := HK1.out; omega⟩, ⟨bk_ BK368.out⟩, ⟨bk_ BK369.out⟩, ⟨hb2_ HB.out GE368.out GE369.out⟩⟩
   ·rw [if_neg c9] at H
    have c9b0 : decide (0 ≤ x5_1) = false := decide_eq_false c9
    clear c9
    obtain rfl := Option.some.inj H
    go_wp2
    repeat (go_quiet (fail); try go_wp2)
    go_ret
    exact ⟨by first | rfl | (simp [errW_none, errW_some] <;> rfl) | (simp only [← hji3]; first | rfl | (simp [errW_none, errW_some] <;> rfl)) | (simp [*, errW_none, errW_some] <;> rfl), hb2_ HB.out GE368.out GE369.out⟩
end Go.Proofs.YthdeeoallfbjmaaDoor.PA
