/- What the Go functions that the statement WideSums reaches compute, and the mathematics on it, in the order in which one leans on the other; for every input. -/
import Derived.Test.YtjjehbedpgdhgaaVWideSums0
import Derived.Test.YtjjehbedpgdhgaaMWideSums0
import Derived.Test.YtjjehbedpgdhgaaMWideSums1
import Derived.Deep.RegionHeld3
namespace Go.Proofs.Ytjjehbedpgdhgaa.PA
open Go.RowKit Go.Proofs.YtjjehbedpgdhgaaW.PrintWords Go.Proofs.YtjjehbedpgdhgaaW.PrintLast Go.Proofs.YtjjehbedpgdhgaaW.PrintMore
attribute [local go_sem] max2_int min2_int max_two min_two max_three min_three max_four min_four   -- for this text's walks alone
set_option linter.unusedVariables false
set_option linter.unusedSimpArgs false
set_option maxHeartbeats 8000000
set_option maxRecDepth 100000
def r1_Len.l0 : Nat → Int → Int → Option (Int)
 | 0, _, _ => none
 | k + 1, x3, x4 => if x4 > 0 then (r1_Len.l0 k (wrap64 (x3 + 1)) (IntKind.u64.wrap (Int.tdiv x4 2))) else (some x3)
def r1_Len.f (k : Nat) (l0_0 : List Int) : Option (Int) := if (l0_0.length : Int) = 0 then (some 0) else (if 0 ≤ (wrap64 ((l0_0.length : Int) - 1)) then (if (wrap64 ((l0_0.length : Int) - 1)) < (l0_0.length : Int) then (r1_Len.l0 k (wrap64 (32 * (wrap64 ((l0_0.length : Int) - 1)))) (rd l0_0 (wrap64 ((l0_0.length : Int) - 1)))) else (none)) else (none))
theorem r1_Len.mono_l : ∀ k, (∀ y0 y1, LeO (r1_Len.l0 k y0 y1) (r1_Len.l0 (k + 1) y0 y1))
 | 0 => fun _ _ r h => by simp [r1_Len.l0] at h
 | k + 1 => by
  have ih0 := r1_Len.mono_l k
  ·intro y0 y1
   unfold r1_Len.l0
   repeat' first
   | (with_reducible exact ih0 _ _)
   | (with_reducible exact LeO.refl _)
   | (with_reducible exact LeO.none _)
   | (with_reducible refine LeO.ite ?_ ?_)
   | (with_reducible refine LeO.bind ?_ (fun _ => ?_))
   | exact ih0 _ _
   | exact LeO.none _
   | refine LeO.ite ?_ ?_
   | refine LeO.bind ?_ (fun _ => ?_)
theorem r1_Len.mono : ∀ a0 k, LeO (r1_Len.f k a0) (r1_Len.f (k + 1) a0) := by
 intro a0 k
 have ih0 := r1_Len.mono_l k
 unfold r1_Len.f
 repeat' first
   | (with_reducible exact ih0 _ _)
   | (with_reducible exact LeO.refl _)
   | (with_reducible exact LeO.none _)
   | (with_reducible refine LeO.ite ?_ ?_)
   | (with_reducible refine LeO.bind ?_ (fun _ => ?_))
   | exact ih0 _ _
   | exact LeO.none _
   | refine LeO.ite ?_ ?_
   | refine LeO.bind ?_ (fun _ => ?_)
theorem r1_Len.calls (k : Nat) (A0_0 : Option Addr) (c0_0 : Nat) (l0_0 : List Int) (r : Int) (w : World) (hr0_0 : Kd.C (Kd.int .u64) w A0_0 l0_0.length l0_0) (hc0_0 : l0_0.length ≤ c0_0) (h : r1_Len.f k l0_0 = some r) :
  Calls Try.prog 73 #[.agg #[.slice A0_0 l0_0.length c0_0]] w fun e w' => e = .returned (.int .i64 r) ∧ Below w.heap.size w w' := by
 have hu53 := Try.underlying53
 have HR0_0 := A_ hr0_0;have HC0_0 := A_ hc0_0;clear hr0_0 hc0_0
 have HB := A_ (Below.refl w.heap.size w)
 have H : (if (l0_0.length : Int) = 0 then (some 0) else (if 0 ≤ (wrap64 ((l0_0.length : Int) - 1)) then (if (wrap64 ((l0_0.length : Int) - 1)) < (l0_0.length : Int) then (r1_Len.l0 k (wrap64 (32 * (wrap64 ((l0_0.length : Int) - 1)))) (rd l0_0 (wrap64 ((l0_0.length : Int) - 1)))) else (none)) else (none))) = some r := h
 clear h
 by_cases c2 : (l0_0.length : Int) = 0
 ·rw [if_pos c2] at H
  have c2b0 : ((l0_0.length : Int) == 0) = true := beq_iff_eq.mpr c2
  have c2b1 : ((l0_0.length : Int) != 0) = false := bne_eq_false_iff_eq.mpr c2
  clear c2
  obtain rfl := Option.some.inj H
  go_enter Try.func73, Try.ntmps73
  go_wp2_with (first | ((with_reducible refine gate_dst (N := 1) rfl ?_); refine be_ 1 #[.slice A0_0 l0_0.length c0_0] 53 ?_; intro gb478 hg w3 hbox hb; have BK478 := A_ (hbox); have GW478 := A_ (sz_ hg (hb_ HB.out)); have GE478 := A_ (sz_ hg (hb_ HB.out)); replace HB := A_ (below_step (hb_ HB.out) hb); clear hb hbox hg; have hcz4_0 := bv_ BK478.out 0; have hfz4_0 := blk_frozen BK478.out 0))
  go_ret
  exact ⟨er_, hb1_ HB.out GE478.out⟩
 ·rw [if_neg c2] at H
  have c2b0 : ((l0_0.length : Int) == 0) = false := beq_eq_false_iff_ne.mpr c2
  have c2b1 : ((l0_0.length : Int) != 0) = true := bne_iff_ne.mpr c2
  have c2b2 : ¬ (l0_0 = []) := fun h_ => c2 (by rw [h_]; rfl)
  obtain ⟨ji5, hji5⟩ : ∃ j_ : Int, (wrap64 ((l0_0.length : Int) - 1)) = j_ := ⟨_, rfl⟩
  replace H : (if 0 ≤ (ji5) then (if (ji5) < (l0_0.length : Int) then (r1_Len.l0 k (wrap64 (32 * (ji5))) (rd l0_0 (ji5))) else (none)) else (none)) = some r := by first | (rw [hji5] at H; exact H) | (simp only [hji5] at H ⊢; exact H)
  have hji5w : (IntKind.i64.wrap ((l0_0.length : Int) - 1)) = ji5 := (i64_w _).trans hji5
  by_cases c6 : 0 ≤ (ji5)
  ·rw [if_pos c6] at H
   have c6b0 : decide (0 ≤ (ji5)) = true := decide_eq_true c6
   clear c6
   by_cases c7 : (ji5) < (l0_0.length : Int)
   ·rw [if_pos c7] at H
    have c7b0 : decide ((ji5) < (l0_0.length : Int)) = true := decide_eq_true c7
    clear c7
    have H' := A_ H
    clear H
    go_enter Try.func73, Try.ntmps73
    go_wp2_with (first | ((with_reducible refine gate_dst (N := 1) rfl ?_); refine be_ 1 #[.slice A0_0 l0_0.length c0_0] 53 ?_; intro gb478 hg w8 hbox hb; have BK478 := A_ (hbox); have GW478 := A_ (sz_ hg (hb_ HB.out)); have GE478 := A_ (sz_ hg (hb_ HB.out)); replace HB := A_ (below_step (hb_ HB.out) hb); clear hb hbox hg; have hcz9_0 := bv_ BK478.out 0; have hfz9_0 := blk_frozen BK478.out 0; have p479 : 0 ≤ ((ji5) : Int) := of_decide_eq_true (by first | (with_reducible assumption) | assumption); have q479 : (ji5) < (l0_0.length : Int) := of_decide_eq_true (by first | (with_reducible assumption) | assumption); obtain ⟨ad479, e479, hx479_0⟩ := Kd.at_int HR0_0.out (ji5) p479 q479; cases e479; replace hx479_0 := (HB.out.cell (World.block_lt_of_cell? w _ hx479_0)).trans hx479_0; replace p479 := eq_true p479; replace q479 := eq_true q479))
    go_loopg [3, 4] k (fun kq v3 v4 w' => ∃ (x3_1 : Int) (x4_1 : Int), v3 = .int .i64 x3_1 ∧ v4 = .int .u64 x4_1 ∧ Aside0 (r1_Len.l0 kq x3_1 x4_1 = some r) ∧ Aside0 (kq ≤ k) ∧ Aside0 (w'.heap[gb478]? = some (.cells #[(.slice (some ad479) l0_0.length c0_0)] 53 (0, 0))) ∧ Aside0 (Below w.heap.size w w'))
    case atStart => exact ⟨(wrap64 (32 * (ji5))), (rd l0_0 (ji5)), (by first | rfl | (simp; done) | (simp only [← hji5] <;> (first | rfl | simp)) | (simp [*]; done)), (by first | rfl | (simp; done) | (simp only [← hji5] <;> (first | rfl | simp)) | (simp [*]; done)), H', ⟨Nat.le_refl _⟩, ⟨bk_ BK478.out⟩, ⟨hb1_ HB.out GE478.out⟩⟩
    case round =>
     clear H'
     try clear c2
     try clear c2b0
     try clear c2b1
     try clear c2b2
     try clear p2
     try clear p4
     try clear q4
     try clear hx4
     try clear c6
     try clear c6b0
     try clear p6
     try clear c7
     try clear c7b0
     try clear hcz4_0
     try clear hcz9_0
     try clear hfz4_0
     try clear hfz9_0
     try clear hx479_0
     try clear p479
     try clear q479
     obtain ⟨x3_1, x4_1, rfl, rfl, HA, HK1, BK478, HB⟩ := hrel
     cases gk with
     | zero => exact absurd HA.out (by simp [r1_Len.l0])
     | succ k1 =>
      have H := HA.out
      clear HA
      simp only [r1_Len.l0] at H
      by_cases c10 : x4_1 > 0
      ·rw [if_pos c10] at H
       have c10b0 : decide (0 < x4_1) = true := decide_eq_true c10
       clear c10
       have H' := A_ H
       clear H
       go_wp2
       go_roundg k1
       case measure => have := HK1.out; omega
       case rel => exact ⟨(wrap64 (x3_1 + 1)), (IntKind.u64.wrap (Int.tdiv x4_1 2)), sm_, sm_, H', ⟨by have := HK1.out; omega⟩, ⟨bk_ BK478.out⟩, ⟨hb1_ HB.out GE478.out⟩⟩
      ·rw [if_neg c10] at H
       have c10b0 : decide (0 < x4_1) = false := decide_eq_false c10
       clear c10
       obtain rfl := Option.some.inj H
       go_wp2
       go_ret
       exact ⟨by first | rfl | (simp [errW_none, errW_some] <;> rfl) | (simp only [← hji5]; first | rfl | (simp [errW_none, errW_some] <;> rfl)) | (simp [*, errW_none, errW_some] <;> rfl), hb1_ HB.out GE478.out⟩
   ·rw [if_neg c7] at H
    exact absurd H (by simp)
  ·rw [if_neg c6] at H
   exact absurd H (by simp)
def r1_Uint.f (l0_0 : List Int) : Option (Int) := (r1_at.f l0_0 1).bind fun t536 => ((r1_at.f l0_0 0).bind fun t537 => (some (IntKind.u64.wrap ((IntKind.u64.wrap (t536 * 4294967296)) + t537))))
theorem r1_Uint.calls (A0_0 : Option Addr) (c0_0 : Nat) (l0_0 : List Int) (r : Int) (w : World) (hr0_0 : Kd.C (Kd.int .u64) w A0_0 l0_0.length l0_0) (hc0_0 : l0_0.length ≤ c0_0) (h : r1_Uint.f l0_0 = some r) :
  Calls Try.prog 66 #[.agg #[.slice A0_0 l0_0.length c0_0]] w fun e w' => e = .returned (.int .u64 r) ∧ Below w.heap.size w w' := by
 have hu53 := Try.underlying53
 have HR0_0 := A_ hr0_0;have HC0_0 := A_ hc0_0;clear hr0_0 hc0_0
 have HB := A_ (Below.refl w.heap.size w)
 have H : ((r1_at.f l0_0 1).bind fun t536 => ((r1_at.f l0_0 0).bind fun t537 => (some (IntKind.u64.wrap ((IntKind.u64.wrap (t536 * 4294967296)) + t537))))) = some r := h
 clear h
 replace H := ob_ H
 obtain ⟨t536, A20, H⟩ := H
 replace H : ((r1_at.f l0_0 0).bind fun t537 => (some (IntKind.u64.wrap ((IntKind.u64.wrap (t536 * 4294967296)) + t537)))) = some r := H
 have A2 := A_ A20;clear A20
 replace H := ob_ H
 obtain ⟨t537, A30, H⟩ := H
 replace H : (some (IntKind.u64.wrap ((IntKind.u64.wrap (t536 * 4294967296)) + t537))) = some r := H
 have A3 := A_ A30;clear A30
 obtain rfl := Option.some.inj H
 go_enter Try.func66, Try.ntmps66
 go_wp2_with (first | ((with_reducible refine gate_dst (N := 1) rfl ?_); refine be_ 1 #[.slice A0_0 l0_0.length c0_0] 53 ?_; intro gb535 hg w4 hbox hb; have BK535 := A_ (hbox); have GW535 := A_ (sz_ hg (hb_ HB.out)); have GE535 := A_ (sz_ hg (hb_ HB.out)); replace HB := A_ (below_step (hb_ HB.out) hb); clear hb hbox hg; have hcz5_0 := bv_ BK535.out 0; have hfz5_0 := blk_frozen BK535.out 0) | (go_at_call 70; (with_reducible refine (r1_at.calls _ _ l0_0 1 t536 _ ?side1 ?side2 A2.out).mono ?_); (case side1 => exact cs_ ((Kd.C_below HR0_0.out HB.out))); (case side2 => exact HC0_0.out); rintro e w' ⟨rfl, ⟨nd, rfl⟩⟩; (try first | exact ⟨rfl, _, World.drewN_drewN _ _ _⟩ | exact ⟨rfl, _, Eq.trans (World.drewN_drewN _ _ _) (congrArg (World.drewN _) (Nat.add_assoc _ _ _))⟩)) | (go_at_call 70; (with_reducible refine (r1_at.calls _ _ l0_0 0 t537 _ ?side1 ?side2 A3.out).mono ?_); (case side1 => exact cs_ ((Kd.C_below HR0_0.out (hb1_ HB.out GE535.out)))); (case side2 => exact HC0_0.out); rintro e w' ⟨rfl, ⟨nd, rfl⟩⟩; (try first | exact ⟨rfl, _, World.drewN_drewN _ _ _⟩ | exact ⟨rfl, _, Eq.trans (World.drewN_drewN _ _ _) (congrArg (World.drewN _) (Nat.add_assoc _ _ _))⟩)))
 repeat (go_quiet (first | ((with_reducible refine gate_dst (N := 1) rfl ?_); refine be_ 1 #[.slice A0_0 l0_0.length c0_0] 53 ?_; intro gb535 hg w4 hbox hb; have BK535 := A_ (hbox); have GW535 := A_ (sz_ hg (hb_ HB.out)); have GE535 := A_ (sz_ hg (hb_ HB.out)); replace HB := A_ (below_step (hb_ HB.out) hb); clear hb hbox hg; have hcz5_0 := bv_ BK535.out 0; have hfz5_0 := blk_frozen BK535.out 0) | (go_at_call 70; (with_reducible refine (r1_at.calls _ _ l0_0 1 t536 _ ?side1 ?side2 A2.out).mono ?_); (case side1 => exact cs_ ((Kd.C_below HR0_0.out HB.out))); (case side2 => exact HC0_0.out); rintro e w' ⟨rfl, ⟨nd, rfl⟩⟩; (try first | exact ⟨rfl, _, World.drewN_drewN _ _ _⟩ | exact ⟨rfl, _, Eq.trans (World.drewN_drewN _ _ _) (congrArg (World.drewN _) (Nat.add_assoc _ _ _))⟩)) | (go_at_call 70; (with_reducible refine (r1_at.calls _ _ l0_0 0 t537 _ ?side1 ?side2 A3.out).mono ?_); (case side1 => exact cs_ ((Kd.C_below HR0_0.out (hb1_ HB.out GE535.out)))); (case side2 => exact HC0_0.out); rintro e w' ⟨rfl, ⟨nd, rfl⟩⟩; (try first | exact ⟨rfl, _, World.drewN_drewN _ _ _⟩ | exact ⟨rfl, _, Eq.trans (World.drewN_drewN _ _ _) (congrArg (World.drewN _) (Nat.add_assoc _ _ _))⟩))); try go_wp2_with (first | ((with_reducible refine gate_dst (N := 1) rfl ?_); refine be_ 1 #[.slice A0_0 l0_0.length c0_0] 53 ?_; intro gb535 hg w4 hbox hb; have BK535 := A_ (hbox); have GW535 := A_ (sz_ hg (hb_ HB.out)); have GE535 := A_ (sz_ hg (hb_ HB.out)); replace HB := A_ (below_step (hb_ HB.out) hb); clear hb hbox hg; have hcz5_0 := bv_ BK535.out 0; have hfz5_0 := blk_frozen BK535.out 0) | (go_at_call 70; (with_reducible refine (r1_at.calls _ _ l0_0 1 t536 _ ?side1 ?side2 A2.out).mono ?_); (case side1 => exact cs_ ((Kd.C_below HR0_0.out HB.out))); (case side2 => exact HC0_0.out); rintro e w' ⟨rfl, ⟨nd, rfl⟩⟩; (try first | exact ⟨rfl, _, World.drewN_drewN _ _ _⟩ | exact ⟨rfl, _, Eq.trans (World.drewN_drewN _ _ _) (congrArg (World.drewN _) (Nat.add_assoc _ _ _))⟩)) | (go_at_call 70; (with_reducible refine (r1_at.calls _ _ l0_0 0 t537 _ ?side1 ?side2 A3.out).mono ?_); (case side1 => exact cs_ ((Kd.C_below HR0_0.out (hb1_ HB.out GE535.out)))); (case side2 => exact HC0_0.out); rintro e w' ⟨rfl, ⟨nd, rfl⟩⟩; (try first | exact ⟨rfl, _, World.drewN_drewN _ _ _⟩ | exact ⟨rfl, _, Eq.trans (World.drewN_drewN _ _ _) (congrArg (World.drewN _) (Nat.add_assoc _ _ _))⟩))))
 go_ret
 exact ⟨er_, hb1_ HB.out GE535.out⟩
def L01_is.f (k : Nat) (a0_0 : Int) (a0_1 : Int) (l1_0 : List Int) : Option (Bool) := (r1_Uint.f l1_0).bind fun t616 => (if a0_1 = t616 then ((r1_High.f l1_0).bind fun t617 => (if a0_0 = t617 then ((r1_Len.f k l1_0).bind fun t618 => (some (decide (t618 ≤ 128)))) else (some false))) else (some false))
theorem L01_is.mono : ∀ a0 a1 a2 k, LeO (L01_is.f k a0 a1 a2) (L01_is.f (k + 1) a0 a1 a2) := by
 intro a0 a1 a2 k
 unfold L01_is.f
 repeat' first
   | (with_reducible exact r1_Len.mono _ _)
   | (with_reducible exact LeO.refl _)
   | (with_reducible exact LeO.none _)
   | (with_reducible refine LeO.ite ?_ ?_)
   | (with_reducible refine LeO.bind ?_ (fun _ => ?_))
   | exact r1_Len.mono _ _
   | exact LeO.none _
   | refine LeO.ite ?_ ?_
   | refine LeO.bind ?_ (fun _ => ?_)
def L01_is.T1 : Bool × List (List Nat × List Nat) := (true, [([], []), ([0], [0]), ([], []), ([2], [2]), ([1, 3], [1, 3]), ([4, 3], [4]), ([5], [5]), ([6, 5], [5, 6]), ([5], [5]), ([8, 5, 5], [5, 8]), ([7, 9, 5], [5, 7, 9]), ([5, 10], [5, 10]), ([11, 9], [11]), ([12], [12]), ([13, 12, 12], [12, 13]), ([14, 12], [12, 14]), ([12, 15], [12, 15]), ([16, 14, 0, 1, 2, 3, 4, 5, 6, 7, 8, 9, 10, 11, 12, 13, 14, 15, 16], [16])])
def L01_is.B1 : List Nat := [0, 1, 0, 4, 15, 31, 63, 127, 63, 319, 1023, 2047, 4095, 8191, 16383, 32767, 65535, 131071]
theorem L01_is.tab1 : rtab .any (opsOf Try.f34 1) = L01_is.T1 := by kernel_rfl
theorem L01_is.bits1 : waitsOk L01_is.T1.2 L01_is.B1 = true := by kernel_rfl
theorem L01_is.calls (k : Nat) (a0_0 : Int) (a0_1 : Int) (A1_0 : Option Addr) (c1_0 : Nat) (l1_0 : List Int) (r : Bool) (w : World) (hr1_0 : Kd.C (Kd.int .u64) w A1_0 l1_0.length l1_0) (hc1_0 : l1_0.length ≤ c1_0) (h : L01_is.f k a0_0 a0_1 l1_0 = some r) :
  Calls Try.prog 34 #[.agg #[.int .u64 a0_0, .int .u64 a0_1], .agg #[.slice A1_0 l1_0.length c1_0]] w fun e w' => e = .returned (.bool r) ∧ Below w.heap.size w w' := by
 have hu50 := Try.underlying50
 have hu53 := Try.underlying53
 have HR1_0 := A_ hr1_0;have HC1_0 := A_ hc1_0;clear hr1_0 hc1_0
 have HB := A_ (Below.refl w.heap.size w)
 have H : ((r1_Uint.f l1_0).bind fun t616 => (if a0_1 = t616 then ((r1_High.f l1_0).bind fun t617 => (if a0_0 = t617 then ((r1_Len.f k l1_0).bind fun t618 => (some (decide (t618 ≤ 128)))) else (some false))) else (some false))) = some r := h
 clear h
 replace H := ob_ H
 obtain ⟨t616, A30, H⟩ := H
 replace H : (if a0_1 = t616 then ((r1_High.f l1_0).bind fun t617 => (if a0_0 = t617 then ((r1_Len.f k l1_0).bind fun t618 => (some (decide (t618 ≤ 128)))) else (some false))) else (some false)) = some r := H
 have A3 := A_ A30;clear A30
 by_cases c4 : a0_1 = t616
 ·rw [if_pos c4] at H
  have c4b0 : (a0_1 == t616) = true := beq_iff_eq.mpr c4
  have c4b1 : (a0_1 != t616) = false := bne_eq_false_iff_eq.mpr c4
  clear c4
  replace H := ob_ H
  obtain ⟨t617, A50, H⟩ := H
  replace H : (if a0_0 = t617 then ((r1_Len.f k l1_0).bind fun t618 => (some (decide (t618 ≤ 128)))) else (some false)) = some r := H
  have A5 := A_ A50;clear A50
  by_cases c6 : a0_0 = t617
  ·rw [if_pos c6] at H
   have c6b0 : (a0_0 == t617) = true := beq_iff_eq.mpr c6
   have c6b1 : (a0_0 != t617) = false := bne_eq_false_iff_eq.mpr c6
   clear c6
   replace H := ob_ H
   obtain ⟨t618, A70, H⟩ := H
   replace H : (some (decide (t618 ≤ 128))) = some r := H
   have A7 := A_ A70;clear A70
   obtain rfl := Option.some.inj H
   go_enter Try.func34, Try.ntmps34
   try go_wp2_with (first | ((with_reducible refine gate_dst (N := 2) rfl ?_); refine be_ 2 #[.int .u64 a0_0, .int .u64 a0_1] 50 ?_; intro gb614 hg w8 hbox hb; have BK614 := A_ (hbox); have GW614 := A_ (sz_ hg (hb_ HB.out)); have GE614 := A_ (sz_ hg (hb_ HB.out)); replace HB := A_ (below_step (hb_ HB.out) hb); clear hb hbox hg) | ((with_reducible refine gate_dst (N := 3) rfl ?_); refine be_ 3 #[.slice A1_0 l1_0.length c1_0] 53 ?_; intro gb615 hg w9 hbox hb; have BK615 := A_ (hbox); have GW615 := A_ (sz_ hg (hb1_ HB.out GE614.out)); have GE615 := A_ (sz_ hg (hb1_ HB.out GE614.out)); have NB614_615 := A_ (nl_ hg BK614.out); have NB615_614 := A_ (ng_ hg BK614.out); replace BK614 := A_ (bb_ BK614.out hb); replace HB := A_ (below_step (hb1_ HB.out GE614.out) hb); clear hb hbox hg))
   replace BK614 := A_ (blk_drew BK614.out)
   replace BK615 := A_ (blk_drew BK615.out)
   replace HB := A_ (below_drew1 HB.out)
   refine start_ (n := 18) (S := fun w' => w'.cell? ⟨gb614, 0, none⟩ = some (.int .u64 a0_0) ∧ w'.cell? ⟨gb614, 1, none⟩ = some (.int .u64 a0_1) ∧ w'.cell? ⟨gb615, 0, none⟩ = some (.slice A1_0 l1_0.length c1_0)) (ds := []) #[false, false, false, false, false, false, false, false, false, false, false, false, false, false, false, false, false, false] (by kernel_rfl) rfl rfl ⟨bc_ BK614.out 0, bc_ BK614.out 1, bc_ BK615.out 0⟩ (fun hHeld => ?_); refine with_tabW L01_is.tab1 L01_is.bits1 (fun HT_ HW_ => ?_)
   generalize w9.drew = w10 at BK614 BK615 HB hHeld ⊢
   refine pu_ 0 (some 5) #[true, false, false, false, false, false, false, false, false, false, false, false, false, false, false, false, false, false] rfl rfl (any_of HT_.out (by kernel_rfl)) ?_
   refine tk3_ 1 (some 6) #[true, true, false, false, false, false, false, false, false, false, false, false, false, false, false, false, false, false] rfl rfl (take_ofW HT_.out HW_.out (by kernel_rfl)) hHeld ?_
   refine tk3_ 2 (some 7) #[true, true, true, false, false, false, false, false, false, false, false, false, false, false, false, false, false, false] rfl rfl (take_ofW HT_.out HW_.out (by kernel_rfl)) hHeld ?_
   refine one_ (i := 3) (N := some 8) #[true, true, true, true, false, false, false, false, false, false, false, false, false, false, false, false, false, false] rfl rfl (one_of HT_.out (by kernel_rfl)) (by decide) (fun K hK => ?_)
   refine goes_ Try.func66 (by kernel_rfl) rfl #[.agg #[.slice A1_0 l1_0.length c1_0]] (by rfl) rfl rfl mp_ ?_
   with_reducible refine (r1_Uint.calls _ _ l1_0 t616 _ ?side1 ?side2 A3.out).mono ?_
   (case side1 => exact cs_ ((Kd.C_below HR1_0.out HB.out)))
   (case side2 => exact HC1_0.out)
   rintro e w11 ⟨rfl, hb⟩
   refine ⟨_, rfl, ?_⟩
   replace BK614 := A_ (bb_ BK614.out hb)
   replace BK615 := A_ (bb_ BK615.out hb)
   replace HB := A_ (below_step (hb2_ HB.out GE614.out GE615.out) hb);(try clear hb);(try clear hb2);(try clear hk);(try clear hi)
   refine hK.out _ _ ⟨bc_ BK614.out 0, bc_ BK614.out 1, bc_ BK615.out 0⟩ (fun hHeld => ?_)
   clear hK K
   refine norm_ (a' := ?_) ?_ ?_
   rotate_left
   ·show Act.put _ (some 8) _ = _
    simp only [Act.put, lI_, l0_, lS_, i64_w, i32_w]
    rfl
   refine pu_ 4 (some 9) #[true, true, true, true, true, false, false, false, false, false, false, false, false, false, false, false, false, false] rfl rfl (any_of HT_.out (by kernel_rfl)) ?_
   refine pu_ 5 (some 10) #[true, true, true, true, true, true, false, false, false, false, false, false, false, false, false, false, false, false] rfl rfl (any_of HT_.out (by kernel_rfl)) ?_
   refine pu_ 6 (some 11) #[true, true, true, true, true, true, true, false, false, false, false, false, false, false, false, false, false, false] rfl rfl (any_of HT_.out (by kernel_rfl)) ?_
   refine tk3_ 7 (some 12) #[true, true, true, true, true, true, true, true, false, false, false, false, false, false, false, false, false, false] rfl rfl (take_ofW HT_.out HW_.out (by kernel_rfl)) hHeld ?_
   refine tk3_ 8 (some 13) #[true, true, true, true, true, true, true, true, true, false, false, false, false, false, false, false, false, false] rfl rfl (take_ofW HT_.out HW_.out (by kernel_rfl)) hHeld ?_
   refine one_ (i := 9) (N := some 14) #[true, true, true, true, true, true, true, true, true, true, false, false, false, false, false, false, false, false] rfl rfl (one_of HT_.out (by kernel_rfl)) (by decide) (fun K hK => ?_)
   refine goes_ Try.func72 (by kernel_rfl) rfl #[.agg #[.slice A1_0 l1_0.length c1_0]] (by rfl) rfl rfl mp_ ?_
   with_reducible refine (r1_High.calls _ _ l1_0 t617 _ ?side1 ?side2 A5.out).mono ?_
   (case side1 => exact cs_ ((Kd.C_below HR1_0.out HB.out)))
   (case side2 => exact HC1_0.out)
   rintro e w12 ⟨rfl, hb⟩
   refine ⟨_, rfl, ?_⟩
   replace BK614 := A_ (bb_ BK614.out hb)
   replace BK615 := A_ (bb_ BK615.out hb)
   replace HB := A_ (below_step (hb2_ HB.out GE614.out GE615.out) hb);(try clear hb);(try clear hb2);(try clear hk);(try clear hi)
   refine hK.out _ _ ⟨bc_ BK614.out 0, bc_ BK614.out 1, bc_ BK615.out 0⟩ (fun hHeld => ?_)
   clear hK K
   refine norm_ (a' := ?_) ?_ ?_
   rotate_left
   ·show Act.put _ (some 14) _ = _
    simp only [Act.put, lI_, l0_, lS_, i64_w, i32_w]
    rfl
   refine pu_ 10 (some 15) #[true, true, true, true, true, true, true, true, true, true, true, false, false, false, false, false, false, false] rfl rfl (any_of HT_.out (by kernel_rfl)) ?_
   refine pu_ 11 (some 16) #[true, true, true, true, true, true, true, true, true, true, true, true, false, false, false, false, false, false] rfl rfl (any_of HT_.out (by kernel_rfl)) ?_
   refine pu_ 12 (some 17) #[true, true, true, true, true, true, true, true, true, true, true, true, true, false, false, false, false, false] rfl rfl (any_of HT_.out (by kernel_rfl)) ?_
   refine tk3_ 13 (some 18) #[true, true, true, true, true, true, true, true, true, true, true, true, true, true, false, false, false, false] rfl rfl (take_ofW HT_.out HW_.out (by kernel_rfl)) hHeld ?_
   refine one_ (i := 14) (N := some 19) #[true, true, true, true, true, true, true, true, true, true, true, true, true, true, true, false, false, false] rfl rfl (one_of HT_.out (by kernel_rfl)) (by decide) (fun K hK => ?_)
   refine goes_ Try.func73 (by kernel_rfl) rfl #[.agg #[.slice A1_0 l1_0.length c1_0]] (by rfl) rfl rfl mp_ ?_
   with_reducible refine (r1_Len.calls k _ _ l1_0 t618 _ ?side1 ?side2 A7.out).mono ?_
   (case side1 => exact cs_ ((Kd.C_below HR1_0.out HB.out)))
   (case side2 => exact HC1_0.out)
   rintro e w13 ⟨rfl, hb⟩
   refine ⟨_, rfl, ?_⟩
   replace BK614 := A_ (bb_ BK614.out hb)
   replace BK615 := A_ (bb_ BK615.out hb)
   replace HB := A_ (below_step (hb2_ HB.out GE614.out GE615.out) hb);(try clear hb);(try clear hb2);(try clear hk);(try clear hi)
   refine hK.out _ _ ⟨bc_ BK614.out 0, bc_ BK614.out 1, bc_ BK615.out 0⟩ (fun hHeld => ?_)
   clear hK K
   refine norm_ (a' := ?_) ?_ ?_
   rotate_left
   ·show Act.put _ (some 19) _ = _
    simp only [Act.put, lI_, l0_, lS_, i64_w, i32_w]
    rfl
   refine pu_ 15 (some 20) #[true, true, true, true, true, true, true, true, true, true, true, true, true, true, true, true, false, false] rfl rfl (any_of HT_.out (by kernel_rfl)) ?_
   refine pu_ 16 (some 21) #[true, true, true, true, true, true, true, true, true, true, true, true, true, true, true, true, true, false] rfl rfl (any_of HT_.out (by kernel_rfl)) ?_
   refine pu_ 17 (some 4) #[true, true, true, true, true, true, true, true, true, true, true, true, true, true, true, true, true, true] rfl rfl (any_of HT_.out (by kernel_rfl)) ?_
   refine done_ (done_of HT_.out (by kernel_rfl)) ?_
   try go_wp2
   go_ret
   exact ⟨er_, hb2_ HB.out GE614.out GE615.out⟩
  ·rw [if_neg c6] at H
   have c6b0 : (a0_0 == t617) = false := beq_eq_false_iff_ne.mpr c6
   have c6b1 : (a0_0 != t617) = true := bne_iff_ne.mpr c6
   obtain rfl := Option.some.inj H
   go_enter Try.func34, Try.ntmps34
   try go_wp2_with (first | ((with_reducible refine gate_dst (N := 2) rfl ?_); refine be_ 2 #[.int .u64 a0_0, .int .u64 a0_1] 50 ?_; intro gb614 hg w14 hbox hb; have BK614 := A_ (hbox); have GW614 := A_ (sz_ hg (hb_ HB.out)); have GE614 := A_ (sz_ hg (hb_ HB.out)); replace HB := A_ (below_step (hb_ HB.out) hb); clear hb hbox hg) | ((with_reducible refine gate_dst (N := 3) rfl ?_); refine be_ 3 #[.slice A1_0 l1_0.length c1_0] 53 ?_; intro gb615 hg w15 hbox hb; have BK615 := A_ (hbox); have GW615 := A_ (sz_ hg (hb1_ HB.out GE614.out)); have GE615 := A_ (sz_ hg (hb1_ HB.out GE614.out)); have NB614_615 := A_ (nl_ hg BK614.out); have NB615_614 := A_ (ng_ hg BK614.out); replace BK614 := A_ (bb_ BK614.out hb); replace HB := A_ (below_step (hb1_ HB.out GE614.out) hb); clear hb hbox hg))
   replace BK614 := A_ (blk_drew BK614.out)
   replace BK615 := A_ (blk_drew BK615.out)
   replace HB := A_ (below_drew1 HB.out)
   refine start_ (n := 18) (S := fun w' => w'.cell? ⟨gb614, 0, none⟩ = some (.int .u64 a0_0) ∧ w'.cell? ⟨gb614, 1, none⟩ = some (.int .u64 a0_1) ∧ w'.cell? ⟨gb615, 0, none⟩ = some (.slice A1_0 l1_0.length c1_0)) (ds := []) #[false, false, false, false, false, false, false, false, false, false, false, false, false, false, false, false, false, false] (by kernel_rfl) rfl rfl ⟨bc_ BK614.out 0, bc_ BK614.out 1, bc_ BK615.out 0⟩ (fun hHeld => ?_); refine with_tabW L01_is.tab1 L01_is.bits1 (fun HT_ HW_ => ?_)
   generalize w15.drew = w16 at BK614 BK615 HB hHeld ⊢
   refine pu_ 0 (some 5) #[true, false, false, false, false, false, false, false, false, false, false, false, false, false, false, false, false, false] rfl rfl (any_of HT_.out (by kernel_rfl)) ?_
   refine tk3_ 1 (some 6) #[true, true, false, false, false, false, false, false, false, false, false, false, false, false, false, false, false, false] rfl rfl (take_ofW HT_.out HW_.out (by kernel_rfl)) hHeld ?_
   refine tk3_ 2 (some 7) #[true, true, true, false, false, false, false, false, false, false, false, false, false, false, false, false, false, false] rfl rfl (take_ofW HT_.out HW_.out (by kernel_rfl)) hHeld ?_
   refine one_ (i := 3) (N := some 8) #[true, true, true, true, false, false, false, false, false, false, false, false, false, false, false, false, false, false] rfl rfl (one_of HT_.out (by kernel_rfl)) (by decide) (fun K hK => ?_)
   refine goes_ Try.func66 (by kernel_rfl) rfl #[.agg #[.slice A1_0 l1_0.length c1_0]] (by rfl) rfl rfl mp_ ?_
   with_reducible refine (r1_Uint.calls _ _ l1_0 t616 _ ?side1 ?side2 A3.out).mono ?_
   (case side1 => exact cs_ ((Kd.C_below HR1_0.out HB.out)))
   (case side2 => exact HC1_0.out)
   rintro e w17 ⟨rfl, hb⟩
   refine ⟨_, rfl, ?_⟩
   replace BK614 := A_ (bb_ BK614.out hb)
   replace BK615 := A_ (bb_ BK615.out hb)
   replace HB := A_ (below_step (hb2_ HB.out GE614.out GE615.out) hb);(try clear hb);(try clear hb2);(try clear hk);(try clear hi)
   refine hK.out _ _ ⟨bc_ BK614.out 0, bc_ BK614.out 1, bc_ BK615.out 0⟩ (fun hHeld => ?_)
   clear hK K
   refine norm_ (a' := ?_) ?_ ?_
   rotate_left
   ·show Act.put _ (some 8) _ = _
    simp only [Act.put, lI_, l0_, lS_, i64_w, i32_w]
    rfl
   refine pu_ 4 (some 9) #[true, true, true, true, true, false, false, false, false, false, false, false, false, false, false, false, false, false] rfl rfl (any_of HT_.out (by kernel_rfl)) ?_
   refine pu_ 5 (some 10) #[true, true, true, true, true, true, false, false, false, false, false, false, false, false, false, false, false, false] rfl rfl (any_of HT_.out (by kernel_rfl)) ?_
   refine pu_ 6 (some 11) #[true, true, true, true, true, true, true, false, false, false, false, false, false, false, false, false, false, false] rfl rfl (any_of HT_.out (by kernel_rfl)) ?_
   refine tk3_ 7 (some 12) #[true, true, true, true, true, true, true, true, false, false, false, false, false, false, false, false, false, false] rfl rfl (take_ofW HT_.out HW_.out (by kernel_rfl)) hHeld ?_
   refine tk3_ 8 (some 13) #[true, true, true, true, true, true, true, true, true, false, false, false, false, false, false, false, false, false] rfl rfl (take_ofW HT_.out HW_.out (by kernel_rfl)) hHeld ?_
   refine one_ (i := 9) (N := some 14) #[true, true, true, true, true, true, true, true, true, true, false, false, false, false, false, false, false, false] rfl rfl (one_of HT_.out (by kernel_rfl)) (by decide) (fun K hK => ?_)
   refine goes_ Try.func72 (by kernel_rfl) rfl #[.agg #[.slice A1_0 l1_0.length c1_0]] (by rfl) rfl rfl mp_ ?_
   with_reducible refine (r1_High.calls _ _ l1_0 t617 _ ?side1 ?side2 A5.out).mono ?_
   (case side1 => exact cs_ ((Kd.C_below HR1_0.out HB.out)))
   (case side2 => exact HC1_0.out)
   rintro e w18 ⟨rfl, hb⟩
   refine ⟨_, rfl, ?_⟩
   replace BK614 := A_ (bb_ BK614.out hb)
   replace BK615 := A_ (bb_ BK615.out hb)
   replace HB := A_ (below_step (hb2_ HB.out GE614.out GE615.out) hb);(try clear hb);(try clear hb2);(try clear hk);(try clear hi)
   refine hK.out _ _ ⟨bc_ BK614.out 0, bc_ BK614.out 1, bc_ BK615.out 0⟩ (fun hHeld => ?_)
   clear hK K
   refine norm_ (a' := ?_) ?_ ?_
   rotate_left
   ·show Act.put _ (some 14) _ = _
    simp only [Act.put, lI_, l0_, lS_, i64_w, i32_w]
    rfl
   refine pu_ 10 (some 15) #[true, true, true, true, true, true, true, true, true, true, true, false, false, false, false, false, false, false] rfl rfl (any_of HT_.out (by kernel_rfl)) ?_
   refine pu_ 11 (some 16) #[true, true, true, true, true, true, true, true, true, true, true, true, false, false, false, false, false, false] rfl rfl (any_of HT_.out (by kernel_rfl)) ?_
   refine pu_ 12 (some 17) #[true, true, true, true, true, true, true, true, true, true, true, true, true, false, false, false, false, false] rfl rfl (any_of HT_.out (by kernel_rfl)) ?_
   refine pure_ (i := 13) (N := some 18) (v := undef) (a' := ?_) #[true, true, true, true, true, true, true, true, true, true, true, true, true, true, false, false, false, false] rfl rfl (any_of HT_.out (by kernel_rfl)) (fun _ _ _ h => h) (Or.inr ⟨by rfl, rfl⟩) ?_ ?_
   rotate_left
   ·simp only [Act.put, lI_, l0_, lS_, i64_w, i32_w]
    rfl
   refine pure_ (i := 14) (N := some 19) (v := undef) (a' := ?_) #[true, true, true, true, true, true, true, true, true, true, true, true, true, true, true, false, false, false] rfl rfl (any_of HT_.out (by kernel_rfl)) (fun _ _ _ h => h) (Or.inr ⟨by rfl, rfl⟩) ?_ ?_
   rotate_left
   ·simp only [Act.put, lI_, l0_, lS_, i64_w, i32_w]
    rfl
   refine pure_ (i := 15) (N := some 20) (v := undef) (a' := ?_) #[true, true, true, true, true, true, true, true, true, true, true, true, true, true, true, true, false, false] rfl rfl (any_of HT_.out (by kernel_rfl)) (fun _ _ _ h => h) (Or.inr ⟨by rfl, rfl⟩) ?_ ?_
   rotate_left
   ·simp only [Act.put, lI_, l0_, lS_, i64_w, i32_w]
    rfl
   refine pu_ 16 (some 21) #[true, true, true, true, true, true, true, true, true, true, true, true, true, true, true, true, true, false] rfl rfl (any_of HT_.out (by kernel_rfl)) ?_
   refine pu_ 17 (some 4) #[true, true, true, true, true, true, true, true, true, true, true, true, true, true, true, true, true, true] rfl rfl (any_of HT_.out (by kernel_rfl)) ?_
   refine done_ (done_of HT_.out (by kernel_rfl)) ?_
   try go_wp2
   go_ret
   exact ⟨er_, hb2_ HB.out GE614.out GE615.out⟩
 ·rw [if_neg c4] at H
  have c4b0 : (a0_1 == t616) = false := beq_eq_false_iff_ne.mpr c4
  have c4b1 : (a0_1 != t616) = true := bne_iff_ne.mpr c4
  obtain rfl := Option.some.inj H
  go_enter Try.func34, Try.ntmps34
  try go_wp2_with (first | ((with_reducible refine gate_dst (N := 2) rfl ?_); refine be_ 2 #[.int .u64 a0_0, .int .u64 a0_1] 50 ?_; intro gb614 hg w19 hbox hb; have BK614 := A_ (hbox); have GW614 := A_ (sz_ hg (hb_ HB.out)); have GE614 := A_ (sz_ hg (hb_ HB.out)); replace HB := A_ (below_step (hb_ HB.out) hb); clear hb hbox hg) | ((with_reducible refine gate_dst (N := 3) rfl ?_); refine be_ 3 #[.slice A1_0 l1_0.length c1_0] 53 ?_; intro gb615 hg w20 hbox hb; have BK615 := A_ (hbox); have GW615 := A_ (sz_ hg (hb1_ HB.out GE614.out)); have GE615 := A_ (sz_ hg (hb1_ HB.out GE614.out)); have NB614_615 := A_ (nl_ hg BK614.out); have NB615_614 := A_ (ng_ hg BK614.out); replace BK614 := A_ (bb_ BK614.out hb); replace HB := A_ (below_step (hb1_ HB.out GE614.out) hb); clear hb hbox hg))
  replace BK614 := A_ (blk_drew BK614.out)
  replace BK615 := A_ (blk_drew BK615.out)
  replace HB := A_ (below_drew1 HB.out)
  refine start_ (n := 18) (S := fun w' => w'.cell? ⟨gb614, 0, none⟩ = some (.int .u64 a0_0) ∧ w'.cell? ⟨gb614, 1, none⟩ = some (.int .u64 a0_1) ∧ w'.cell? ⟨gb615, 0, none⟩ = some (.slice A1_0 l1_0.length c1_0)) (ds := []) #[false, false, false, false, false, false, false, false, false, false, false, false, false, false, false, false, false, false] (by kernel_rfl) rfl rfl ⟨bc_ BK614.out 0, bc_ BK614.out 1, bc_ BK615.out 0⟩ (fun hHeld => ?_); refine with_tabW L01_is.tab1 L01_is.bits1 (fun HT_ HW_ => ?_)
  generalize w20.drew = w21 at BK614 BK615 HB hHeld ⊢
  refine pu_ 0 (some 5) #[true, false, false, false, false, false, false, false, false, false, false, false, false, false, false, false, false, false] rfl rfl (any_of HT_.out (by kernel_rfl)) ?_
  refine tk3_ 1 (some 6) #[true, true, false, false, false, false, false, false, false, false, false, false, false, false, false, false, false, false] rfl rfl (take_ofW HT_.out HW_.out (by kernel_rfl)) hHeld ?_
  refine tk3_ 2 (some 7) #[true, true, true, false, false, false, false, false, false, false, false, false, false, false, false, false, false, false] rfl rfl (take_ofW HT_.out HW_.out (by kernel_rfl)) hHeld ?_
  refine one_ (i := 3) (N := some 8) #[true, true, true, true, false, false, false, false, false, false, false, false, false, false, false, false, false, false] rfl rfl (one_of HT_.out (by kernel_rfl)) (by decide) (fun K hK => ?_)
  refine goes_ Try.func66 (by kernel_rfl) rfl #[.agg #[.slice A1_0 l1_0.length c1_0]] (by rfl) rfl rfl mp_ ?_
  with_reducible refine (r1_Uint.calls _ _ l1_0 t616 _ ?side1 ?side2 A3.out).mono ?_
  (case side1 => exact cs_ ((Kd.C_below HR1_0.out HB.out)))
  (case side2 => exact HC1_0.out)
  rintro e w22 ⟨rfl, hb⟩
  refine ⟨_, rfl, ?_⟩
  replace BK614 := A_ (bb_ BK614.out hb)
  replace BK615 := A_ (bb_ BK615.out hb)
  replace HB := A_ (below_step (hb2_ HB.out GE614.out GE615.out) hb);(try clear hb);(try clear hb2);(try clear hk);(try clear hi)
  refine hK.out _ _ ⟨bc_ BK614.out 0, bc_ BK614.out 1, bc_ BK615.out 0⟩ (fun hHeld => ?_)
  clear hK K
  refine norm_ (a' := ?_) ?_ ?_
  rotate_left
  ·show Act.put _ (some 8) _ = _
   simp only [Act.put, lI_, l0_, lS_, i64_w, i32_w]
   rfl
  refine pu_ 4 (some 9) #[true, true, true, true, true, false, false, false, false, false, false, false, false, false, false, false, false, false] rfl rfl (any_of HT_.out (by kernel_rfl)) ?_
  refine pu_ 5 (some 10) #[true, true, true, true, true, true, false, false, false, false, false, false, false, false, false, false, false, false] rfl rfl (any_of HT_.out (by kernel_rfl)) ?_
  refine pure_ (i := 6) (N := some 11) (v := undef) (a' := ?_) #[true, true, true, true, true, true, true, false, false, false, false, false, false, false, false, false, false, false] rfl rfl (any_of HT_.out (by kernel_rfl)) (fun _ _ _ h => h) (Or.inr ⟨by rfl, rfl⟩) ?_ ?_
  rotate_left
  ·simp only [Act.put, lI_, l0_, lS_, i64_w, i32_w]
   rfl
  refine pure_ (i := 7) (N := some 12) (v := undef) (a' := ?_) #[true, true, true, true, true, true, true, true, false, false, false, false, false, false, false, false, false, false] rfl rfl (any_of HT_.out (by kernel_rfl)) (fun _ _ _ h => h) (Or.inr ⟨by rfl, rfl⟩) ?_ ?_
  rotate_left
  ·simp only [Act.put, lI_, l0_, lS_, i64_w, i32_w]
   rfl
  refine pure_ (i := 8) (N := some 13) (v := undef) (a' := ?_) #[true, true, true, true, true, true, true, true, true, false, false, false, false, false, false, false, false, false] rfl rfl (any_of HT_.out (by kernel_rfl)) (fun _ _ _ h => h) (Or.inr ⟨by rfl, rfl⟩) ?_ ?_
  rotate_left
  ·simp only [Act.put, lI_, l0_, lS_, i64_w, i32_w]
   rfl
  refine pure_ (i := 9) (N := some 14) (v := undef) (a' := ?_) #[true, true, true, true, true, true, true, true, true, true, false, false, false, false, false, false, false, false] rfl rfl (any_of HT_.out (by kernel_rfl)) (fun _ _ _ h => h) (Or.inr ⟨by rfl, rfl⟩) ?_ ?_
  rotate_left
  ·simp only [Act.put, lI_, l0_, lS_, i64_w, i32_w]
   rfl
  refine pure_ (i := 10) (N := some 15) (v := undef) (a' := ?_) #[true, true, true, true, true, true, true, true, true, true, true, false, false, false, false, false, false, false] rfl rfl (any_of HT_.out (by kernel_rfl)) (fun _ _ _ h => h) (Or.inr ⟨by rfl, rfl⟩) ?_ ?_
  rotate_left
  ·simp only [Act.put, lI_, l0_, lS_, i64_w, i32_w]
   rfl
  refine pu_ 11 (some 16) #[true, true, true, true, true, true, true, true, true, true, true, true, false, false, false, false, false, false] rfl rfl (any_of HT_.out (by kernel_rfl)) ?_
  refine pu_ 12 (some 17) #[true, true, true, true, true, true, true, true, true, true, true, true, true, false, false, false, false, false] rfl rfl (any_of HT_.out (by kernel_rfl)) ?_
  refine pure_ (i := 13) (N := some 18) (v := undef) (a' := ?_) #[true, true, true, true, true, true, true, true, true, true, true, true, true, true, false, false, false, false] rfl rfl (any_of HT_.out (by kernel_rfl)) (fun _ _ _ h => h) (Or.inr ⟨by rfl, rfl⟩) ?_ ?_
  rotate_left
  ·simp only [Act.put, lI_, l0_, lS_, i64_w, i32_w]
   rfl
  refine pure_ (i := 14) (N := some 19) (v := undef) (a' := ?_) #[true, true, true, true, true, true, true, true, true, true, true, true, true, true, true, false, false, false] rfl rfl (any_of HT_.out (by kernel_rfl)) (fun _ _ _ h => h) (Or.inr ⟨by rfl, rfl⟩) ?_ ?_
  rotate_left
  ·simp only [Act.put, lI_, l0_, lS_, i64_w, i32_w]
   rfl
  refine pure_ (i := 15) (N := some 20) (v := undef) (a' := ?_) #[true, true, true, true, true, true, true, true, true, true, true, true, true, true, true, true, false, false] rfl rfl (any_of HT_.out (by kernel_rfl)) (fun _ _ _ h => h) (Or.inr ⟨by rfl, rfl⟩) ?_ ?_
  rotate_left
  ·simp only [Act.put, lI_, l0_, lS_, i64_w, i32_w]
   rfl
  refine pu_ 16 (some 21) #[true, true, true, true, true, true, true, true, true, true, true, true, true, true, true, true, true, false] rfl rfl (any_of HT_.out (by kernel_rfl)) ?_
  refine pu_ 17 (some 4) #[true, true, true, true, true, true, true, true, true, true, true, true, true, true, true, true, true, true] rfl rfl (any_of HT_.out (by kernel_rfl)) ?_
  refine done_ (done_of HT_.out (by kernel_rfl)) ?_
  try go_wp2
  go_ret
  exact ⟨er_, hb2_ HB.out GE614.out GE615.out⟩
def r1_Cmp.l0 : Nat → Int → List Int → List Int → Option (Int)
 | 0, _, _, _ => none
 | k + 1, x5, x316000, x317000 => if x5 ≥ 0 then ((r1_at.f x316000 x5).bind fun t317 => ((r1_at.f x317000 x5).bind fun t318 => (if t317 < t318 then (some (-1)) else (if t317 > t318 then (some 1) else (r1_Cmp.l0 k (wrap64 (x5 - 1)) x316000 x317000))))) else (some 0)
def r1_Cmp.f (k : Nat) (l0_0 : List Int) (l1_0 : List Int) : Option (Int) := r1_Cmp.l0 k (wrap64 ((mx (l0_0.length : Int) (l1_0.length : Int)) - 1)) l0_0 l1_0
theorem r1_Cmp.mono_l : ∀ k, (∀ y0 y1 y2, LeO (r1_Cmp.l0 k y0 y1 y2) (r1_Cmp.l0 (k + 1) y0 y1 y2))
 | 0 => fun _ _ _ r h => by simp [r1_Cmp.l0] at h
 | k + 1 => by
  have ih0 := r1_Cmp.mono_l k
  ·intro y0 y1 y2
   unfold r1_Cmp.l0
   repeat' first
   | (with_reducible exact ih0 _ _ _)
   | (with_reducible exact LeO.refl _)
   | (with_reducible exact LeO.none _)
   | (with_reducible refine LeO.ite ?_ ?_)
   | (with_reducible refine LeO.bind ?_ (fun _ => ?_))
   | exact ih0 _ _ _
   | exact LeO.none _
   | refine LeO.ite ?_ ?_
   | refine LeO.bind ?_ (fun _ => ?_)
theorem r1_Cmp.mono : ∀ a0 a1 k, LeO (r1_Cmp.f k a0 a1) (r1_Cmp.f (k + 1) a0 a1) := by
 intro a0 a1 k
 have ih0 := r1_Cmp.mono_l k
 unfold r1_Cmp.f
 repeat' first
   | (with_reducible exact ih0 _ _ _)
   | (with_reducible exact LeO.refl _)
   | (with_reducible exact LeO.none _)
   | (with_reducible refine LeO.ite ?_ ?_)
   | (with_reducible refine LeO.bind ?_ (fun _ => ?_))
   | exact ih0 _ _ _
   | exact LeO.none _
   | refine LeO.ite ?_ ?_
   | refine LeO.bind ?_ (fun _ => ?_)
theorem r1_Cmp.calls (k : Nat) (A0_0 : Option Addr) (c0_0 : Nat) (l0_0 : List Int) (A1_0 : Option Addr) (c1_0 : Nat) (l1_0 : List Int) (r : Int) (w : World) (hr0_0 : Kd.C (Kd.int .u64) w A0_0 l0_0.length l0_0) (hc0_0 : l0_0.length ≤ c0_0) (hr1_0 : Kd.C (Kd.int .u64) w A1_0 l1_0.length l1_0) (hc1_0 : l1_0.length ≤ c1_0) (h : r1_Cmp.f k l0_0 l1_0 = some r) :
  Calls Try.prog 41 #[.agg #[.slice A0_0 l0_0.length c0_0], .agg #[.slice A1_0 l1_0.length c1_0]] w fun e w' => e = .returned (.int .i64 r) ∧ Below w.heap.size w w' := by
 have hu53 := Try.underlying53
 have HR0_0 := A_ hr0_0;have HC0_0 := A_ hc0_0;clear hr0_0 hc0_0;have HR1_0 := A_ hr1_0;have HC1_0 := A_ hc1_0;clear hr1_0 hc1_0
 have HB := A_ (Below.refl w.heap.size w)
 have H : (r1_Cmp.l0 k (wrap64 ((mx (l0_0.length : Int) (l1_0.length : Int)) - 1)) l0_0 l1_0) = some r := h
 clear h
 obtain ⟨ji3, hji3⟩ : ∃ j_ : Int, (mx (l0_0.length : Int) (l1_0.length : Int)) = j_ := ⟨_, rfl⟩
 replace H : (r1_Cmp.l0 k (wrap64 ((ji3) - 1)) l0_0 l1_0) = some r := by first | (rw [hji3] at H; exact H) | (simp only [hji3] at H ⊢; exact H)
 (try (have hji3l : 0 ≤ ji3 := by (rw [← hji3]; unfold mx; (repeat' split) <;> omega)))
 (try (have hji3m : 0 ≤ ji3 := by omega))
 have hji3_ : (if (l0_0.length : Int) < (l1_0.length : Int) then (l1_0.length : Int) else (l0_0.length : Int)) = ji3 := hji3
 have hji3n_ : (if l0_0.length < l1_0.length then (l1_0.length : Int) else (l0_0.length : Int)) = ji3 := by have h_ := hji3_; simpa only [Int.ofNat_lt] using h_
 have H' := A_ H
 clear H
 go_enter Try.func41, Try.ntmps41
 go_wp2_with (first | ((with_reducible refine gate_dst (N := 2) rfl ?_); refine be_ 2 #[.slice A0_0 l0_0.length c0_0] 53 ?_; intro gb315 hg w4 hbox hb; have BK315 := A_ (hbox); have GW315 := A_ (sz_ hg (hb_ HB.out)); have GE315 := A_ (sz_ hg (hb_ HB.out)); replace HB := A_ (below_step (hb_ HB.out) hb); clear hb hbox hg) | ((with_reducible refine gate_dst (N := 3) rfl ?_); refine be_ 3 #[.slice A1_0 l1_0.length c1_0] 53 ?_; intro gb316 hg w5 hbox hb; have BK316 := A_ (hbox); have GW316 := A_ (sz_ hg (hb1_ HB.out GE315.out)); have GE316 := A_ (sz_ hg (hb1_ HB.out GE315.out)); have NB315_316 := A_ (nl_ hg BK315.out); have NB316_315 := A_ (ng_ hg BK315.out); replace BK315 := A_ (bb_ BK315.out hb); replace HB := A_ (below_step (hb1_ HB.out GE315.out) hb); clear hb hbox hg; have hnb6 := NB315_316.out; have hnc6 := NB316_315.out; have hcz7_0 := bv_ BK315.out 0; have hfz7_0 := blk_frozen BK315.out 0; have hcz8_0 := bv_ BK316.out 0; have hfz8_0 := blk_frozen BK316.out 0))
 repeat (go_quiet (first | ((with_reducible refine gate_dst (N := 2) rfl ?_); refine be_ 2 #[.slice A0_0 l0_0.length c0_0] 53 ?_; intro gb315 hg w4 hbox hb; have BK315 := A_ (hbox); have GW315 := A_ (sz_ hg (hb_ HB.out)); have GE315 := A_ (sz_ hg (hb_ HB.out)); replace HB := A_ (below_step (hb_ HB.out) hb); clear hb hbox hg) | ((with_reducible refine gate_dst (N := 3) rfl ?_); refine be_ 3 #[.slice A1_0 l1_0.length c1_0] 53 ?_; intro gb316 hg w5 hbox hb; have BK316 := A_ (hbox); have GW316 := A_ (sz_ hg (hb1_ HB.out GE315.out)); have GE316 := A_ (sz_ hg (hb1_ HB.out GE315.out)); have NB315_316 := A_ (nl_ hg BK315.out); have NB316_315 := A_ (ng_ hg BK315.out); replace BK315 := A_ (bb_ BK315.out hb); replace HB := A_ (below_step (hb1_ HB.out GE315.out) hb); clear hb hbox hg; have hnb6 := NB315_316.out; have hnc6 := NB316_315.out; have hcz7_0 := bv_ BK315.out 0; have hfz7_0 := blk_frozen BK315.out 0; have hcz8_0 := bv_ BK316.out 0; have hfz8_0 := blk_frozen BK316.out 0)); try go_wp2_with (first | ((with_reducible refine gate_dst (N := 2) rfl ?_); refine be_ 2 #[.slice A0_0 l0_0.length c0_0] 53 ?_; intro gb315 hg w4 hbox hb; have BK315 := A_ (hbox); have GW315 := A_ (sz_ hg (hb_ HB.out)); have GE315 := A_ (sz_ hg (hb_ HB.out)); replace HB := A_ (below_step (hb_ HB.out) hb); clear hb hbox hg) | ((with_reducible refine gate_dst (N := 3) rfl ?_); refine be_ 3 #[.slice A1_0 l1_0.length c1_0] 53 ?_; intro gb316 hg w5 hbox hb; have BK316 := A_ (hbox); have GW316 := A_ (sz_ hg (hb1_ HB.out GE315.out)); have GE316 := A_ (sz_ hg (hb1_ HB.out GE315.out)); have NB315_316 := A_ (nl_ hg BK315.out); have NB316_315 := A_ (ng_ hg BK315.out); replace BK315 := A_ (bb_ BK315.out hb); replace HB := A_ (below_step (hb1_ HB.out GE315.out) hb); clear hb hbox hg; have hnb6 := NB315_316.out; have hnc6 := NB316_315.out; have hcz7_0 := bv_ BK315.out 0; have hfz7_0 := blk_frozen BK315.out 0; have hcz8_0 := bv_ BK316.out 0; have hfz8_0 := blk_frozen BK316.out 0)))
 go_loopg [5] k (fun kq v5 w' => ∃ (x5_1 : Int), v5 = .int .i64 x5_1 ∧ Aside0 (r1_Cmp.l0 kq x5_1 l0_0 l1_0 = some r) ∧ Aside0 (kq ≤ k) ∧ Aside0 (w'.heap[gb315]? = some (.cells #[(.slice A0_0 l0_0.length c0_0)] 53 (0, 0))) ∧ Aside0 (w'.heap[gb316]? = some (.cells #[(.slice A1_0 l1_0.length c1_0)] 53 (0, 0))) ∧ Aside0 (Below w.heap.size w w'))
 case atStart => exact ⟨(wrap64 ((ji3) - 1)), (by first | rfl | (simp; done) | (simp only [← hji3] <;> (first | rfl | simp)) | (simp [*]; done)), H', ⟨Nat.le_refl _⟩, ⟨bk_ BK315.out⟩, ⟨bk_ BK316.out⟩, ⟨hb2_ HB.out GE315.out GE316.out⟩⟩
 case round =>
  clear H'
  try clear c1
  try clear p2
  try clear c4
  try clear c6
  try clear p6
  try clear hcz7_0
  try clear hcz8_0
  try clear hfz7_0
  try clear hfz8_0
  obtain ⟨x5_1, rfl, HA, HK1, BK315, BK316, HB⟩ := hrel
  cases gk with
  | zero => exact absurd HA.out (by simp [r1_Cmp.l0])
  | succ k1 =>
   have H := HA.out
   clear HA
   simp only [r1_Cmp.l0] at H
   by_cases c9 : x5_1 ≥ 0
   ·rw [if_pos c9] at H
    have c9b0 : decide (0 ≤ x5_1) = true := decide_eq_true c9
    clear c9
    replace H := ob_ H
    obtain ⟨t317, A100, H⟩ := H
    replace H : ((r1_at.f l1_0 x5_1).bind fun t318 => (if t317 < t318 then (some (-1)) else (if t317 > t318 then (some 1) else (r1_Cmp.l0 k1 (wrap64 (x5_1 - 1)) l0_0 l1_0)))) = some r := H
    have A10 := A_ A100;clear A100
    replace H := ob_ H
    obtain ⟨t318, A110, H⟩ := H
    replace H : (if t317 < t318 then (some (-1)) else (if t317 > t318 then (some 1) else (r1_Cmp.l0 k1 (wrap64 (x5_1 - 1)) l0_0 l1_0))) = some r := H
    have A11 := A_ A110;clear A110
    by_cases c12 : t317 < t318
    ·rw [if_pos c12] at H
     have c12b0 : decide (t317 < t318) = true := decide_eq_true c12
     clear c12
     obtain rfl := Option.some.inj H
     have hnb13 := NB315_316.out
     have hnc13 := NB316_315.out
     have hcz14_0 := bv_ BK315.out 0
     have hfz14_0 := blk_frozen BK315.out 0
     go_wp2_with (first | (go_at_call 70; (with_reducible refine (r1_at.calls _ _ l0_0 x5_1 t317 _ ?side1 ?side2 A10.out).mono ?_); (case side1 => exact cs_ ((Kd.C_below HR0_0.out HB.out))); (case side2 => exact HC0_0.out); rintro e w' ⟨rfl, ⟨nd, rfl⟩⟩; (try first | exact ⟨rfl, _, World.drewN_drewN _ _ _⟩ | exact ⟨rfl, _, Eq.trans (World.drewN_drewN _ _ _) (congrArg (World.drewN _) (Nat.add_assoc _ _ _))⟩); have hcz15_0 := bv_ BK316.out 0; have hfz15_0 := blk_frozen BK316.out 0) | (go_at_call 70; (with_reducible refine (r1_at.calls _ _ l1_0 x5_1 t318 _ ?side1 ?side2 A11.out).mono ?_); (case side1 => exact cs_ ((Kd.C_below HR1_0.out (hb2_ HB.out GE315.out GE316.out)))); (case side2 => exact HC1_0.out); rintro e w' ⟨rfl, ⟨nd, rfl⟩⟩; (try first | exact ⟨rfl, _, World.drewN_drewN _ _ _⟩ | exact ⟨rfl, _, Eq.trans (World.drewN_drewN _ _ _) (congrArg (World.drewN _) (Nat.add_assoc _ _ _))⟩)))
     repeat (go_quiet (first | (go_at_call 70; (with_reducible refine (r1_at.calls _ _ l0_0 x5_1 t317 _ ?side1 ?side2 A10.out).mono ?_); (case side1 => exact cs_ ((Kd.C_below HR0_0.out HB.out))); (case side2 => exact HC0_0.out); rintro e w' ⟨rfl, ⟨nd, rfl⟩⟩; (try first | exact ⟨rfl, _, World.drewN_drewN _ _ _⟩ | exact ⟨rfl, _, Eq.trans (World.drewN_drewN _ _ _) (congrArg (World.drewN _) (Nat.add_assoc _ _ _))⟩); have hcz15_0 := bv_ BK316.out 0; have hfz15_0 := blk_frozen BK316.out 0) | (go_at_call 70; (with_reducible refine (r1_at.calls _ _ l1_0 x5_1 t318 _ ?side1 ?side2 A11.out).mono ?_); (case side1 => exact cs_ ((Kd.C_below HR1_0.out (hb2_ HB.out GE315.out GE316.out)))); (case side2 => exact HC1_0.out); rintro e w' ⟨rfl, ⟨nd, rfl⟩⟩; (try first | exact ⟨rfl, _, World.drewN_drewN _ _ _⟩ | exact ⟨rfl, _, Eq.trans (World.drewN_drewN _ _ _) (congrArg (World.drewN _) (Nat.add_assoc _ _ _))⟩))); try go_wp2_with (first | (go_at_call 70; (with_reducible refine (r1_at.calls _ _ l0_0 x5_1 t317 _ ?side1 ?side2 A10.out).mono ?_); (case side1 => exact cs_ ((Kd.C_below HR0_0.out HB.out))); (case side2 => exact HC0_0.out); rintro e w' ⟨rfl, ⟨nd, rfl⟩⟩; (try first | exact ⟨rfl, _, World.drewN_drewN _ _ _⟩ | exact ⟨rfl, _, Eq.trans (World.drewN_drewN _ _ _) (congrArg (World.drewN _) (Nat.add_assoc _ _ _))⟩); have hcz15_0 := bv_ BK316.out 0; have hfz15_0 := blk_frozen BK316.out 0) | (go_at_call 70; (with_reducible refine (r1_at.calls _ _ l1_0 x5_1 t318 _ ?side1 ?side2 A11.out).mono ?_); (case side1 => exact cs_ ((Kd.C_below HR1_0.out (hb2_ HB.out GE315.out GE316.out)))); (case side2 => exact HC1_0.out); rintro e w' ⟨rfl, ⟨nd, rfl⟩⟩; (try first | exact ⟨rfl, _, World.drewN_drewN _ _ _⟩ | exact ⟨rfl, _, Eq.trans (World.drewN_drewN _ _ _) (congrArg (World.drewN _) (Nat.add_assoc _ _ _))⟩))))
     go_ret
     exact ⟨by first | rfl | (simp [errW_none, errW_some] <;> rfl) | (simp only [← hji3]; first | rfl | (simp [errW_none, errW_some] <;> rfl)) | (simp [*, errW_none, errW_some] <;> rfl), hb2_ HB.out GE315.out GE316.out⟩
    ·rw [if_neg c12] at H
     have c12b0 : decide (t317 < t318) = false := decide_eq_false c12
     clear c12
     by_cases c16 : t317 > t318
     ·rw [if_pos c16] at H
      have c16b0 : decide (t318 < t317) = true := decide_eq_true c16
      clear c16
      obtain rfl := Option.some.inj H
      have hnb17 := NB315_316.out
      have hnc17 := NB316_315.out
      have hcz18_0 := bv_ BK315.out 0
      have hfz18_0 := blk_frozen BK315.out 0
      go_wp2_with (first | (go_at_call 70; (with_reducible refine (r1_at.calls _ _ l0_0 x5_1 t317 _ ?side1 ?side2 A10.out).mono ?_); (case side1 => exact cs_ ((Kd.C_below HR0_0.out HB.out))); (case side2 => exact HC0_0.out); rintro e w' ⟨rfl, ⟨nd, rfl⟩⟩; (try first | exact ⟨rfl, _, World.drewN_drewN _ _ _⟩ | exact ⟨rfl, _, Eq.trans (World.drewN_drewN _ _ _) (congrArg (World.drewN _) (Nat.add_assoc _ _ _))⟩); have hcz19_0 := bv_ BK316.out 0; have hfz19_0 := blk_frozen BK316.out 0) | (go_at_call 70; (with_reducible refine (r1_at.calls _ _ l1_0 x5_1 t318 _ ?side1 ?side2 A11.out).mono ?_); (case side1 => exact cs_ ((Kd.C_below HR1_0.out (hb2_ HB.out GE315.out GE316.out)))); (case side2 => exact HC1_0.out); rintro e w' ⟨rfl, ⟨nd, rfl⟩⟩; (try first | exact ⟨rfl, _, World.drewN_drewN _ _ _⟩ | exact ⟨rfl, _, Eq.trans (World.drewN_drewN _ _ _) (congrArg (World.drewN _) (Nat.add_assoc _ _ _))⟩)))
      repeat (go_quiet (first | (go_at_call 70; (with_reducible refine (r1_at.calls _ _ l0_0 x5_1 t317 _ ?side1 ?side2 A10.out).mono ?_); (case side1 => exact cs_ ((Kd.C_below HR0_0.out HB.out))); (case side2 => exact HC0_0.out); rintro e w' ⟨rfl, ⟨nd, rfl⟩⟩; (try first | exact ⟨rfl, _, World.drewN_drewN _ _ _⟩ | exact ⟨rfl, _, Eq.trans (World.drewN_drewN _ _ _) (congrArg (World.drewN _) (Nat.add_assoc _ _ _))⟩); have hcz19_0 := bv_ BK316.out 0; have hfz19_0 := blk_frozen BK316.out 0) | (go_at_call 70; (with_reducible refine (r1_at.calls _ _ l1_0 x5_1 t318 _ ?side1 ?side2 A11.out).mono ?_); (case side1 => exact cs_ ((Kd.C_below HR1_0.out (hb2_ HB.out GE315.out GE316.out)))); (case side2 => exact HC1_0.out); rintro e w' ⟨rfl, ⟨nd, rfl⟩⟩; (try first | exact ⟨rfl, _, World.drewN_drewN _ _ _⟩ | exact ⟨rfl, _, Eq.trans (World.drewN_drewN _ _ _) (congrArg (World.drewN _) (Nat.add_assoc _ _ _))⟩))); try go_wp2_with (first | (go_at_call 70; (with_reducible refine (r1_at.calls _ _ l0_0 x5_1 t317 _ ?side1 ?side2 A10.out).mono ?_); (case side1 => exact cs_ ((Kd.C_below HR0_0.out HB.out))); (case side2 => exact HC0_0.out); rintro e w' ⟨rfl, ⟨nd, rfl⟩⟩; (try first | exact ⟨rfl, _, World.drewN_drewN _ _ _⟩ | exact ⟨rfl, _, Eq.trans (World.drewN_drewN _ _ _) (congrArg (World.drewN _) (Nat.add_assoc _ _ _))⟩); have hcz19_0 := bv_ BK316.out 0; have hfz19_0 := blk_frozen BK316.out 0) | (go_at_call 70; (with_reducible refine (r1_at.calls _ _ l1_0 x5_1 t318 _ ?side1 ?side2 A11.out).mono ?_); (case side1 => exact cs_ ((Kd.C_below HR1_0.out (hb2_ HB.out GE315.out GE316.out)))); (case side2 => exact HC1_0.out); rintro e w' ⟨rfl, ⟨nd, rfl⟩⟩; (try first | exact ⟨rfl, _, World.drewN_drewN _ _ _⟩ | exact ⟨rfl, _, Eq.trans (World.drewN_drewN _ _ _) (congrArg (World.drewN _) (Nat.add_assoc _ _ _))⟩))))
      go_ret
      exact ⟨by first | rfl | (simp [errW_none, errW_some] <;> rfl) | (simp only [← hji3]; first | rfl | (simp [errW_none, errW_some] <;> rfl)) | (simp [*, errW_none, errW_some] <;> rfl), hb2_ HB.out GE315.out GE316.out⟩
     ·rw [if_neg c16] at H
      have c16b0 : decide (t318 < t317) = false := decide_eq_false c16
      clear c16
      have H' := A_ H
      clear H
      have hnb20 := NB315_316.out
      have hnc20 := NB316_315.out
      have hcz21_0 := bv_ BK315.out 0
      have hfz21_0 := blk_frozen BK315.out 0
      go_wp2_with (first | (go_at_call 70; (with_reducible refine (r1_at.calls _ _ l0_0 x5_1 t317 _ ?side1 ?side2 A10.out).mono ?_); (case side1 => exact cs_ ((Kd.C_below HR0_0.out HB.out))); (case side2 => exact HC0_0.out); rintro e w' ⟨rfl, ⟨nd, rfl⟩⟩; (try first | exact ⟨rfl, _, World.drewN_drewN _ _ _⟩ | exact ⟨rfl, _, Eq.trans (World.drewN_drewN _ _ _) (congrArg (World.drewN _) (Nat.add_assoc _ _ _))⟩); have hcz22_0 := bv_ BK316.out 0; have hfz22_0 := blk_frozen BK316.out 0) | (go_at_call 70; (with_reducible refine (r1_at.calls _ _ l1_0 x5_1 t318 _ ?side1 ?side2 A11.out).mono ?_); (case side1 => exact cs_ ((Kd.C_below HR1_0.out (hb2_ HB.out GE315.out GE316.out)))); (case side2 => exact HC1_0.out); rintro e w' ⟨rfl, ⟨nd, rfl⟩⟩; (try first | exact ⟨rfl, _, World.drewN_drewN _ _ _⟩ | exact ⟨rfl, _, Eq.trans (World.drewN_drewN _ _ _) (congrArg (World.drewN _) (Nat.add_assoc _ _ _))⟩)))
      repeat (go_quiet (first | (go_at_call 70; (with_reducible refine (r1_at.calls _ _ l0_0 x5_1 t317 _ ?side1 ?side2 A10.out).mono ?_); (case side1 => exact cs_ ((Kd.C_below HR0_0.out HB.out))); (case side2 => exact HC0_0.out); rintro e w' ⟨rfl, ⟨nd, rfl⟩⟩; (try first | exact ⟨rfl, _, World.drewN_drewN _ _ _⟩ | exact ⟨rfl, _, Eq.trans (World.drewN_drewN _ _ _) (congrArg (World.drewN _) (Nat.add_assoc _ _ _))⟩); have hcz22_0 := bv_ BK316.out 0; have hfz22_0 := blk_frozen BK316.out 0) | (go_at_call 70; (with_reducible refine (r1_at.calls _ _ l1_0 x5_1 t318 _ ?side1 ?side2 A11.out).mono ?_); (case side1 => exact cs_ ((Kd.C_below HR1_0.out (hb2_ HB.out GE315.out GE316.out)))); (case side2 => exact HC1_0.out); rintro e w' ⟨rfl, ⟨nd, rfl⟩⟩; (try first | exact ⟨rfl, _, World.drewN_drewN _ _ _⟩ | exact ⟨rfl, _, Eq.trans (World.drewN_drewN _ _ _) (congrArg (World.drewN _) (Nat.add_assoc _ _ _))⟩))); try go_wp2_with (first | (go_at_call 70; (with_reducible refine (r1_at.calls _ _ l0_0 x5_1 t317 _ ?side1 ?side2 A10.out).mono ?_); (case side1 => exact cs_ ((Kd.C_below HR0_0.out HB.out))); (case side2 => exact HC0_0.out); rintro e w' ⟨rfl, ⟨nd, rfl⟩⟩; (try first | exact ⟨rfl, _, World.drewN_drewN _ _ _⟩ | exact ⟨rfl, _, Eq.trans (World.drewN_drewN _ _ _) (congrArg (World.drewN _) (Nat.add_assoc _ _ _))⟩); have hcz22_0 := bv_ BK316.out 0; have hfz22_0 := blk_frozen BK316.out 0) | (go_at_call 70; (with_reducible refine (r1_at.calls _ _ l1_0 x5_1 t318 _ ?side1 ?side2 A11.out).mono ?_); (case side1 => exact cs_ ((Kd.C_below HR1_0.out (hb2_ HB.out GE315.out GE316.out)))); (case side2 => exact HC1_0.out); rintro e w' ⟨rfl, ⟨nd, rfl⟩⟩; (try first | exact ⟨rfl, _, World.drewN_drewN _ _ _⟩ | exact ⟨rfl, _, Eq.trans (World.drewN_drewN _ _ _) (congrArg (World.drewN _) (Nat.add_assoc _ _ _))⟩))))
      go_roundg k1
      case measure => have := HK1.out; omega
      case rel => exact ⟨(wrap64 (x5_1 - 1)), sm_, H', ⟨by have := HK1.out; omega⟩, ⟨bk_ BK315.out⟩, ⟨bk_ BK316.out⟩, ⟨hb2_ HB.out GE315.out GE316.out⟩⟩
   ·rw [if_neg c9] at H
    have c9b0 : decide (0 ≤ x5_1) = false := decide_eq_false c9
    clear c9
    obtain rfl := Option.some.inj H
    go_wp2
    repeat (go_quiet (fail); try go_wp2)
    go_ret
    exact ⟨by first | rfl | (simp [errW_none, errW_some] <;> rfl) | (simp only [← hji3]; first | rfl | (simp [errW_none, errW_some] <;> rfl)) | (simp [*, errW_none, errW_some] <;> rfl), hb2_ HB.out GE315.out GE316.out⟩
end Go.Proofs.Ytjjehbedpgdhgaa.PA
set_option linter.unusedVariables false
set_option linter.unusedSimpArgs false
namespace Go.Proofs.Ytjjehbedpgdhgaa.Nr
open Go.RowKit Go.Proofs.YtjjehbedpgdhgaaW.PrintWords Go.Proofs.YtjjehbedpgdhgaaW.PrintLast Go.Proofs.YtjjehbedpgdhgaaW.PrintMore
def Nr (w : World) (v : Value) (l : List Int) : Prop := ∃ A c, v = .slice A l.length c ∧ l.length ≤ c ∧ Kd.C (Kd.int .u64) w A l.length l
def IsRow (v : Option Value) : Prop := ∃ A n c, v = some (.slice A n c)
theorem Nr.below {w w1 : World} {v : Value} {l : List Int} (h : Nr w v l) (hb : Below w.heap.size w w1) : Nr w1 v l := by
  obtain ⟨A, c, e, hc, h⟩ := h
  exact ⟨A, c, e, hc, Kd.C_below h hb⟩
theorem Nr.alloc {w : World} {v : Value} {l : List Int} (h : Nr w v l) (o : Obj) : Nr (w.alloc o) v l := h.below (below_alloc (Below.refl _ _) o)
theorem Nr.drew {w : World} {v : Value} {l : List Int} (h : Nr w v l) : Nr w.drew v l := h.below (below_drew1 (Below.refl _ _))
theorem Nr.drewN {w : World} {v : Value} {l : List Int} (h : Nr w v l) (n : Nat) : Nr (w.drewN n) v l := h.below (pw_below_drewN (Below.refl _ _) n)
theorem Nr.set {w : World} {v : Value} {l : List Int} (h : Nr w v l) {p : Addr} (x : Value) (hp : IsRow (w.cell? p)) : Nr (w.setCell p x) v l := by
  obtain ⟨A, c, e, hc, h1, h2, h3⟩ := h
  refine ⟨A, c, e, hc, h1, h2, fun hn => ?_⟩
  obtain ⟨ad, e1, h4⟩ := h3 hn
  refine ⟨ad, e1, fun j q hj => ?_⟩
  obtain ⟨cs, k1, k2, k3⟩ := h4 j q hj
  refine ⟨cs, k1, k2, fun i u hu => ?_⟩
  have k4 := k3 i u hu
  have k5 : u = .int .u64 q := by
    have k6 : cs = [Value.int .u64 q] := k2
    rw [k6] at hu
    rcases i with _ | i
    · simpa using hu.symm
    · simp at hu
  rw [World.cell?_setCell_other]
  · exact k4
  · intro e2
    obtain ⟨B, n, d, hp⟩ := hp
    rw [e2, k4, k5] at hp
    cases hp
theorem Nr.nil (w : World) : Nr w (.slice none 0 0) [] := ⟨none, 0, rfl, Nat.le_refl _, Kd.C_nil _ w⟩
theorem IsRow.slice (A : Option Addr) (n c : Nat) : IsRow (some (.slice A n c)) := ⟨A, n, c, rfl⟩
theorem bcell {W w1 : World} (hb : Below W.heap.size W w1) : (∀ b o, b < W.heap.size → w1.cell? ⟨b, o, none⟩ = W.cell? ⟨b, o, none⟩) ∧ (∀ b o, b < W.heap.size → w1.frozen? ⟨b, o, none⟩ = W.frozen? ⟨b, o, none⟩) :=
  ⟨fun b o h => hb.cell (p := ⟨b, o, none⟩) h, fun b o h => hb.frozen (p := ⟨b, o, none⟩) h⟩
theorem Nr.of_V {w : World} {e base : Nat} {ok : Nat → Prop} {v : Value} {l : List Int} (h : Kd.V (Kd.int .u64) e w base ok v l) : Nr w v l := by
  obtain ⟨A, c, hv, hl, hf⟩ := h
  exact ⟨A, c, hv, hl, Kd.F_now hf⟩
def At (ok : Nat → Prop) (v : Value) : Prop := ∀ ad n c, v = .slice (some ad) n c → 0 < n → ok ad.block
theorem At.mono {ok ok' : Nat → Prop} {v : Value} (h : At ok v) (i : ∀ k, ok k → ok' k) : At ok' v := fun ad n c e hn => i _ (h ad n c e hn)
theorem At.of_V {w : World} {e base : Nat} {ok : Nat → Prop} {v : Value} {l : List Int} (h : Kd.V (Kd.int .u64) e w base ok v l) : At ok v := by
  obtain ⟨A, c, hv, hl, hf⟩ := h
  intro ad n c' e1 hn
  rw [hv] at e1
  injection e1 with e1 e2 e3
  subst e2
  exact Kd.F_in hf e1 hn (by decide)
theorem Nr.toV {w : World} {e base : Nat} {ok : Nat → Prop} {v : Value} {l : List Int} (h : Nr w v l) (ha : At ok v) : Kd.V (Kd.int .u64) e w base ok v l := by
  obtain ⟨A, c, hv, hl, hc⟩ := h
  refine ⟨A, c, hv, hl, ?_⟩
  intro W' hW'
  obtain ⟨h1, h2, h3⟩ := hc
  refine ⟨h1, h2, fun hn => ?_⟩
  obtain ⟨ad, e1, h4⟩ := h3 hn
  refine ⟨ad, e1, fun j p hj => ?_⟩
  obtain ⟨cs, k1, k2, k3⟩ := h4 j p hj
  refine ⟨cs, k1, k2, fun i u hu => ?_⟩
  have k4 := k3 i u hu
  have hok : ok ad.block := ha ad l.length c (by rw [hv, e1]) hn
  have hb := World.block_lt_of_cell? w _ k4
  have hblk : ∀ n, (ad.add n).block = ad.block := fun n => by rw [add_block]
  rw [hblk] at hb
  have e := hW' ad.block hok hb
  have e2 : W'.heap[(ad.add (j * (Kd.int .u64).sz + i)).block]? = w.heap[(ad.add (j * (Kd.int .u64).sz + i)).block]? := by rw [hblk]; exact e
  simpa [World.cell?, e2] using k4
theorem Rs {w : World} {e base : Nat} {ok : Nat → Prop} {v : Value} {l : List Int} (h : Kd.R (Kd.int .u64) e w base ok v l) {p : Addr} (hne : v.ownBlock ≠ some p.block) (x : Value) : Kd.R (Kd.int .u64) e (w.setCell p x) base ok v l :=
  Kd.R_mono (Kd.R_far (Kd.R_far1 h rfl (g := p.block) (fun e => hne e.symm)) (fun _ hk => hk.2) x) (fun _ hk => hk.1)
structure Ow (e base : Nat) (w : World) (v : Value) (l : List Int) : Prop where
  out : Kd.R (Kd.int .u64) e w base (fun k => base ≤ k) v l
theorem Ow.nil (e base : Nat) (w : World) : Ow e base w (.slice none 0 0) [] := ⟨Kd.R_nil _ _ _ _ _⟩
theorem Ow.below {e base : Nat} {w w1 : World} {v : Value} {l : List Int} (h : Ow e base w v l) (hb : Below w.heap.size w w1) : Ow e base w1 v l := ⟨Kd.R_below h.out hb⟩
theorem Ow.alloc {e base : Nat} {w : World} {v : Value} {l : List Int} (h : Ow e base w v l) (o : Obj) : Ow e base (w.alloc o) v l := ⟨Kd.R_alloc h.out o⟩
theorem Ow.drew {e base : Nat} {w : World} {v : Value} {l : List Int} (h : Ow e base w v l) : Ow e base w.drew v l := ⟨Kd.R_drew h.out⟩
theorem Ow.drewN {e base : Nat} {w : World} {v : Value} {l : List Int} (h : Ow e base w v l) (n : Nat) : Ow e base (w.drewN n) v l := ⟨Kd.R_drewN h.out n⟩
theorem Ow.set {e base : Nat} {w : World} {v : Value} {l : List Int} (h : Ow e base w v l) {p : Addr} (x : Value) (hne : v.ownBlock ≠ some p.block) : Ow e base (w.setCell p x) v l := ⟨Rs h.out hne x⟩
end Go.Proofs.Ytjjehbedpgdhgaa.Nr
namespace Go.Proofs.Ytjjehbedpgdhgaa.PA
open Go.RowKit Go.Proofs.YtjjehbedpgdhgaaW.PrintWords Go.Proofs.YtjjehbedpgdhgaaW.PrintLast Go.Proofs.YtjjehbedpgdhgaaW.PrintMore
attribute [local go_sem] max2_int min2_int max_two min_two max_three min_three max_four min_four   -- for this text's walks alone
set_option linter.unusedVariables false
set_option linter.unusedSimpArgs false
set_option maxHeartbeats 8000000
set_option maxRecDepth 100000
-- IMPORT Derived.Deep.RegionHeld3
-- IMPORT Derived.Test.YtjjehbedpgdhgaaNr
def r1_Mod.f (k : Nat) (l0_0 : List Int) : Option (List Int) := if (l0_0.length : Int) > 4 then r1_trim.f k (l0_0.take 4) else some l0_0
theorem r1_Mod.mono : ∀ a0 k, LeO (r1_Mod.f k a0) (r1_Mod.f (k + 1) a0) := by
 intro a0 k
 unfold r1_Mod.f
 exact LeO.ite (r1_trim.mono _ _) (LeO.refl _)
theorem r1_Mod.trim (k : Nat) (A : Option Addr) (c : Nat) (l r : List Int) (w : World) (hn : Nr.Nr w (.slice A l.length c) l) (hlc : l.length ≤ c) (h : r1_trim.f k l = some r) :
  Calls Try.prog 71 #[.slice A l.length c] w fun e w' => e = .returned (.agg #[.slice A r.length c]) ∧ (∃ n : Nat, n ≤ l.length ∧ r = l.take n) ∧ Below w.heap.size w w' := by
 have H' := A_ (show r1_trim.l0 k l (l.length : Int) = some r from h)
 have N' := A_ hn
 clear h hn
 go_enter Try.func71, Try.ntmps71
 go_wp2
 go_loopg [3] k (fun kq v3 w' => ∃ (x : Int), v3 = .int .i64 x ∧ Aside0 (r1_trim.l0 kq l x = some r) ∧ w'.cell? ⟨w.heap.size, 0, none⟩ = some (.slice none 0 0) ∧ w'.frozen? ⟨w.heap.size, 0, none⟩ = false ∧ Aside0 (Nr.Nr w' (.slice A l.length c) l) ∧ Aside0 (Below w.heap.size w w'))
 case atStart => exact ⟨_, rfl, H', by simp [go_sem], by simp [go_sem], ⟨Nr.Nr.alloc N'.out _⟩, ⟨below_alloc (Below.refl _ _) _⟩⟩
 case round =>
  clear H' N'
  obtain ⟨x, rfl, HA, b0, f0, N', HB⟩ := hrel
  obtain ⟨A', c', ev, hc', hC⟩ := N'.out
  injection ev with ev1 ev2 ev3
  subst ev1
  subst ev3
  have HC := A_ hC;clear hC ev2
  have fin : ∀ y : Int, 0 ≤ y → y ≤ (l.length : Int) → (l.take y.toNat).length = y.toNat := fun y h1 h2 => by rw [List.length_take]; omega
  have FI := A_ fin;clear fin
  cases gk with
  | zero => exact absurd HA.out (by simp [r1_trim.l0])
  | succ k1 =>
   have H := HA.out
   clear HA
   simp only [r1_trim.l0] at H
   have done : ∀ (J : Prop), (0 ≤ x → x ≤ (l.length : Int) → r = l.take x.toNat → J) → (if 0 ≤ x then (if x ≤ (l.length : Int) then some (l.take x.toNat) else none) else none) = some r → J := by
    intro J hj he
    by_cases h1 : 0 ≤ x
    ·rw [if_pos h1] at he
     by_cases h2 : x ≤ (l.length : Int)
     ·rw [if_pos h2] at he; exact hj h1 h2 (Option.some.inj he).symm
     ·rw [if_neg h2] at he; cases he
    ·rw [if_neg h1] at he; cases he
   have DN := A_ done;clear done
   by_cases c4 : x > 0
   ·rw [if_pos c4] at H
    have c4b : decide (0 < x) = true := decide_eq_true c4
    obtain ⟨j, hj⟩ : ∃ j : Int, wrap64 (x - 1) = j := ⟨_, rfl⟩
    rw [hj] at H
    have hjw : IntKind.i64.wrap (x - 1) = j := (i64_w _).trans hj
    by_cases c6 : 0 ≤ j
    ·rw [if_pos c6] at H
     by_cases c7 : j < (l.length : Int)
     ·rw [if_pos c7] at H
      obtain ⟨ad, e, hx⟩ := Kd.at_int HC.out j c6 c7
      subst e
      by_cases c8 : rd l j = 0
      ·rw [if_pos c8] at H
       have c8b : ((rd l j) == 0) = true := beq_iff_eq.mpr c8
       have H' := A_ H
       clear H c8 c4 hj
       replace c6 := eq_true c6
       replace c7 := eq_true c7
       go_wp2
       go_roundg k1
       case measure => omega
       case rel => exact ⟨j, rfl, H', b0, f0, N', HB⟩
      ·rw [if_neg c8] at H
       have c8b : ((rd l j) == 0) = false := beq_eq_false_iff_ne.mpr c8
       refine DN.out _ (fun h1 h2 hr => ?_) H
       have hlen := FI.out x h1 h2
       rw [← hr] at hlen
       obtain ⟨i0, hi0, _, hsz, _⟩ := info_parts info22
       have hcut := cut_to (P := Try.prog) 51 22 .i64 Try.underlying51 hi0 (some ad) l.length c x h1 h2 hlc
       rw [← hlen] at hcut
       have R := A_ (show ∃ n : Nat, n ≤ l.length ∧ r = l.take n from ⟨x.toNat, by omega, hr⟩)
       clear hr H hlen DN FI hi0 hsz c4 c8 hj
       replace c6 := eq_true c6
       replace c7 := eq_true c7
       replace h1 := eq_true h1
       replace h2 := eq_true h2
       have e0 := World.cell?_setCell_same _ _ (.slice (some ad) r.length c) b0
       go_wp2
       exact bodyPost_ret (v := .agg #[.slice (some ad) r.length c]) (by simp [results, Try.results71, go_sem, e0]) rfl ⟨rfl, R.out, below_set HB.out (Nat.le_refl _)⟩
     ·rw [if_neg c7] at H; cases H
    ·rw [if_neg c6] at H; cases H
   ·rw [if_neg c4] at H
    have c4b : decide (0 < x) = false := decide_eq_false c4
    refine DN.out _ (fun h1 h2 hr => ?_) H
    have hlen := FI.out x h1 h2
    rw [← hr] at hlen
    obtain ⟨i0, hi0, _, hsz, _⟩ := info_parts info22
    have hcut := cut_to (P := Try.prog) 51 22 .i64 Try.underlying51 hi0 A l.length c x h1 h2 hlc
    rw [← hlen] at hcut
    have R := A_ (show ∃ n : Nat, n ≤ l.length ∧ r = l.take n from ⟨x.toNat, by omega, hr⟩)
    clear hr H hlen DN FI hi0 hsz c4
    replace h1 := eq_true h1
    replace h2 := eq_true h2
    have e0 := World.cell?_setCell_same _ _ (.slice A r.length c) b0
    go_wp2
    exact bodyPost_ret (v := .agg #[.slice A r.length c]) (by simp [results, Try.results71, go_sem, e0]) rfl ⟨rfl, R.out, below_set HB.out (Nat.le_refl _)⟩
theorem r1_Mod.trim4 (k : Nat) (A : Option Addr) (c : Nat) (l r : List Int) (w : World) (hC : Kd.C (Kd.int .u64) w A l.length l) (hlc : l.length ≤ c) (h4 : 4 ≤ l.length) (h : r1_trim.f k (l.take 4) = some r) :
  Calls Try.prog 71 #[.slice A 4 c] w fun e w' => e = .returned (.agg #[.slice A r.length c]) ∧ (∃ n : Nat, n ≤ l.length ∧ r = l.take n) ∧ Below w.heap.size w w' := by
 have hl : (l.take 4).length = 4 := by rw [List.length_take]; omega
 have q := r1_Mod.trim k A c (l.take 4) r w ⟨A, c, rfl, by omega, Kd.C_take hC h4⟩ (by omega) h
 rw [hl] at q
 refine q.mono ?_
 rintro e w' ⟨rfl, ⟨n, hn, hr⟩, hb⟩
 exact ⟨rfl, ⟨min n 4, by omega, by rw [hr, List.take_take]⟩, hb⟩
theorem r1_Mod.back {e base n : Nat} {ok : Nat → Prop} {A : Option Addr} {c : Nat} {l r : List Int} {w : World} (hN : Nr.Nr w (.slice A l.length c) l) (ha : Nr.At ok (.slice A l.length c)) (hn : n ≤ l.length) (hr : r = l.take n) : Kd.V (Kd.int .u64) e w base (fun k_ => (ok k_ ∨ base ≤ k_)) (.slice A r.length c) r := by
 subst hr
 obtain ⟨A', c', ev, hc', hC⟩ := hN
 injection ev with ev1 ev2 ev3
 subst ev1
 subst ev3
 refine Nr.Nr.toV ⟨A, c, rfl, by rw [List.length_take]; omega, Kd.C_take hC hn⟩ ?_
 intro ad m c2 e1 hm
 injection e1 with e2 e3 e4
 subst e2
 refine .inl (ha ad l.length c rfl ?_)
 rw [List.length_take] at e3; omega
theorem r1_Mod.calls (k : Nat) (P0_0_ : Nat → Prop) (A0_0 : Option Addr) (c0_0 : Nat) (l0_0 : List Int) (r : List Int) (w : World) (hs0_0 : Kd.V (Kd.int .u64) 22 w w.heap.size (fun k_ => P0_0_ k_) (.slice A0_0 l0_0.length c0_0) l0_0) (h : r1_Mod.f k l0_0 = some r) :
  Calls Try.prog 36 #[.agg #[.slice A0_0 l0_0.length c0_0]] w fun e w' => ∃ v0_ : Value, e = .returned (.agg #[v0_]) ∧ Kd.V (Kd.int .u64) 22 w' w.heap.size (fun k_ => (P0_0_ k_ ∨ w.heap.size ≤ k_)) v0_ r ∧ Below w.heap.size w w' := by
 have NA := A_ (Nr.Nr.of_V hs0_0)
 have AA := A_ (Nr.At.of_V hs0_0)
 obtain ⟨A', c', ev, hlc, hC⟩ := Nr.Nr.of_V hs0_0
 injection ev with ev1 ev2 ev3
 subst ev1
 subst ev3
 have HC := A_ hC;have HL := A_ hlc
 unfold r1_Mod.f at h
 clear hs0_0 hC ev2
 by_cases c4 : (l0_0.length : Int) > 4
 ·rw [if_pos c4] at h
  have H := A_ h
  have c4b : decide (4 < (l0_0.length : Int)) = true := decide_eq_true c4
  have h4 : Aside0 (4 ≤ l0_0.length) := ⟨by omega⟩
  obtain ⟨i0, hi0, _, hsz, _⟩ := info_parts info22
  have hcut := cut_to (P := Try.prog) 51 22 .i64 Try.underlying51 hi0 A0_0 l0_0.length c0_0 4 (by decide) (by omega) hlc
  rw [show (4 : Int).toNat = 4 by decide] at hcut
  clear h hi0 hsz hlc c4
  go_enter Try.func36, Try.ntmps36
  go_wp2_with (first | (go_at_call 71; refine (r1_Mod.trim4 k A0_0 c0_0 l0_0 r _ (Kd.C_alloc (Kd.C_alloc HC.out _) _) HL.out h4.out H.out).mono ?_; rintro e w1 ⟨rfl, hr, hb⟩; have R := A_ hr; have N1 := A_ (Nr.Nr.below (Nr.Nr.alloc (Nr.Nr.alloc NA.out _) _) hb); have e0 := ((Nr.bcell hb).1 (w.heap.size + 1) 0 (by simp)).trans (show _ = some (Value.slice none 0 0) by simp [go_sem]); have f0 := ((Nr.bcell hb).2 (w.heap.size + 1) 0 (by simp)).trans (show _ = false by simp [go_sem]); have B1 := A_ (below_step (below_alloc (below_alloc (Below.refl _ w) _) _) hb); clear hb hr))
  obtain ⟨n, hn, hr⟩ := R.out
  have is : Nr.IsRow (w1.cell? ⟨w.heap.size + 1, 0, none⟩) := by rw [e0]; exact Nr.IsRow.slice _ _ _
  have N2 := Nr.Nr.set N1.out (.slice A0_0 r.length c0_0) is
  have e1 := World.cell?_setCell_same _ _ (.slice A0_0 r.length c0_0) e0
  exact bodyPost_ret (v := .agg #[.slice A0_0 r.length c0_0]) (by simp [results, Try.results36, go_sem, e1]) rfl ⟨_, rfl, r1_Mod.back N2 AA.out hn hr, below_set B1.out (by omega)⟩
 ·rw [if_neg c4] at h
  obtain rfl := Option.some.inj h
  have c4b : decide (4 < (l0_0.length : Int)) = false := decide_eq_false c4
  clear h c4 hlc
  go_enter Try.func36, Try.ntmps36
  go_wp2
  exact bodyPost_ret (v := .agg #[.slice A0_0 l0_0.length c0_0]) (by simp [results, Try.results36, go_sem]) rfl ⟨_, rfl, r1_Mod.back (Nr.Nr.alloc (Nr.Nr.alloc NA.out _) _) AA.out (Nat.le_refl _) (List.take_length ..).symm, below_alloc (below_alloc (Below.refl _ w) _) _⟩
end Go.Proofs.Ytjjehbedpgdhgaa.PA
