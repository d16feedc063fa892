/- What the Go functions that the statement CastMakes reaches compute, and the mathematics on it, in the order in which one leans on the other; for every input. -/
import Derived.Test.YthdeeoallfbjmaaDoorVCastMakes1
import Derived.Test.YthdeeoallfbjmaaDoorMCastMakes0
import Derived.Test.YthdeeoallfbjmaaDoorMCastMakes8
import Derived.Test.YthdeeoallfbjmaaDoorMCastMakes5
import Derived.Test.YthdeeoallfbjmaaDoorMCastMakes4
import Derived.Test.YthdeeoallfbjmaaDoorMCastMakes7
import Derived.Test.YthdeeoallfbjmaaDoorMCastMakes3
import Derived.Test.YthdeeoallfbjmaaDoorMCastMakes9
namespace Go.Proofs.YthdeeoallfbjmaaDoor.PA
open Go.RowKit Go.Proofs.YthdeeoallfbjmaaDoorW.PrintWords Go.Proofs.YthdeeoallfbjmaaDoorW.PrintLast Go.Proofs.YthdeeoallfbjmaaDoorW.PrintMore
attribute [local go_sem] max2_int min2_int max_two min_two max_three min_three max_four min_four   -- for this text's walks alone
set_option linter.unusedVariables false
set_option linter.unusedSimpArgs false
set_option maxHeartbeats 8000000
set_option maxRecDepth 100000
mutual
def r3_Near.j0 : Nat → Int → Bool → Int → Int → Int → Bool → List Int → List Int → Option (Int)
 | 0, _, _, _, _, _, _, _, _ => none
 | k + 1, x0, x1, x4, x11, x13, x44, x501000, x502000 => if x44 = true then (r3_Near.j1 k x0 x1 x4 x11 (wrap64 (x13 - 1)) x501000 x502000) else (r3_Near.j1 k x0 x1 x4 x11 x13 x501000 x502000)
def r3_Near.j1 : Nat → Int → Bool → Int → Int → Int → List Int → List Int → Option (Int)
 | 0, _, _, _, _, _, _, _ => none
 | k + 1, x0, x1, x4, x11, x13, x501000, x502000 => (r3_grain.f k x501000 x502000 (wrap64 (x4 - x13))).bind fun t508 => ((r1_Len.f k t508).bind fun t512 => (if t512 > (wrap64 (x11 + 1)) then ((r1_Half.f k t508 1).bind fun bt513 => (r3_Near.j2 k x0 x1 x11 (wrap64 (x13 + 1)) bt513.1)) else (r3_Near.j2 k x0 x1 x11 x13 t508)))
def r3_Near.j2 : Nat → Int → Bool → Int → Int → List Int → Option (Int)
 | 0, _, _, _, _, _ => none
 | k + 1, x0, x1, x11, x13, x512000 => (r3_Low.f x0).bind fun t517 => ((r2_Top.f k x0).bind fun t518 => (if x13 > (wrap64 ((wrap64 (t517 + t518)) - 2)) then ((r2_Inf.f k x0 x1).bind fun t519 => (some t519)) else ((r1_Uint.f x512000).bind fun t520 => ((r2_Two.f k x11).bind fun t521 => (if t520 < t521 then ((r2_Make.f k x0 x1 0 t520).bind fun t522 => (some t522)) else ((r3_Low.f x0).bind fun t523 => ((r2_Two.f k x11).bind fun t524 => ((r2_Make.f k x0 x1 (wrap64 ((wrap64 (x13 - t523)) + 1)) (IntKind.u64.wrap (t520 - t524))).bind fun t525 => (some t525)))))))))
end
def r3_Near.f (k : Nat) (a0 : Int) (a1 : Bool) (l2_0 : List Int) (l3_0 : List Int) (a4 : Int) : Option (Int) := (r2_F.f a0).bind fun t502 => ((r1_Len.f k l2_0).bind fun t503 => ((r1_Len.f k l3_0).bind fun t504 => ((r3_Low.f a0).bind fun t505 => ((r3_Low.f a0).bind fun t506 => (if (mx (wrap64 ((wrap64 ((wrap64 (t503 - t504)) + a4)) - t502)) t505) > t506 then ((r3_under.f k l2_0 l3_0 (wrap64 ((wrap64 (a4 - (mx (wrap64 ((wrap64 ((wrap64 (t503 - t504)) + a4)) - t502)) t505))) - t502))).bind fun t507 => (r3_Near.j0 k a0 a1 a4 t502 (mx (wrap64 ((wrap64 ((wrap64 (t503 - t504)) + a4)) - t502)) t505) t507 l2_0 l3_0)) else (r3_Near.j0 k a0 a1 a4 t502 (mx (wrap64 ((wrap64 ((wrap64 (t503 - t504)) + a4)) - t502)) t505) false l2_0 l3_0))))))
theorem r3_Near.mono_l : ∀ k, (∀ y0 y1 y2 y3 y4 y5 y6 y7, LeO (r3_Near.j0 k y0 y1 y2 y3 y4 y5 y6 y7) (r3_Near.j0 (k + 1) y0 y1 y2 y3 y4 y5 y6 y7)) ∧ (∀ y0 y1 y2 y3 y4 y5 y6, LeO (r3_Near.j1 k y0 y1 y2 y3 y4 y5 y6) (r3_Near.j1 (k + 1) y0 y1 y2 y3 y4 y5 y6)) ∧ (∀ y0 y1 y2 y3 y4, LeO (r3_Near.j2 k y0 y1 y2 y3 y4) (r3_Near.j2 (k + 1) y0 y1 y2 y3 y4))
 | 0 => ⟨fun _ _ _ _ _ _ _ _ r h => by simp [r3_Near.j0] at h, fun _ _ _ _ _ _ _ r h => by simp [r3_Near.j1] at h, fun _ _ _ _ _ r h => by simp [r3_Near.j2] at h⟩
 | k + 1 => by
  obtain ⟨ih0, ih1, ih2⟩ := r3_Near.mono_l k
  refine ⟨?_, ?_, ?_⟩
  ·intro y0 y1 y2 y3 y4 y5 y6 y7
   unfold r3_Near.j0
   repeat' first
   | (with_reducible exact ih0 _ _ _ _ _ _ _ _)
   | (with_reducible exact ih1 _ _ _ _ _ _ _)
   | (with_reducible exact ih2 _ _ _ _ _)
   | (with_reducible exact r1_Half.mono _ _ _)
   | (with_reducible exact r1_Len.mono _ _)
   | (with_reducible exact r2_Inf.mono _ _ _)
   | (with_reducible exact r2_Make.mono _ _ _ _ _)
   | (with_reducible exact r2_Top.mono _ _)
   | (with_reducible exact r2_Two.mono _ _)
   | (with_reducible exact r3_grain.mono _ _ _ _)
   | (with_reducible exact r3_under.mono _ _ _ _)
   | (with_reducible exact LeO.refl _)
   | (with_reducible exact LeO.none _)
   | (with_reducible refine LeO.ite ?_ ?_)
   | (with_reducible refine LeO.bind ?_ (fun _ => ?_))
   | exact ih0 _ _ _ _ _ _ _ _
   | exact ih1 _ _ _ _ _ _ _
   | exact ih2 _ _ _ _ _
   | exact r1_Half.mono _ _ _
   | exact r1_Len.mono _ _
   | exact r2_Inf.mono _ _ _
   | exact r2_Make.mono _ _ _ _ _
   | exact r2_Top.mono _ _
   | exact r2_Two.mono _ _
   | exact r3_grain.mono _ _ _ _
   | exact r3_under.mono _ _ _ _
   | exact LeO.none _
   | refine LeO.ite ?_ ?_
   | refine LeO.bind ?_ (fun _ => ?_)
  ·intro y0 y1 y2 y3 y4 y5 y6
   unfold r3_Near.j1
   repeat' first
   | (with_reducible exact ih0 _ _ _ _ _ _ _ _)
   | (with_reducible exact ih1 _ _ _ _ _ _ _)
   | (with_reducible exact ih2 _ _ _ _ _)
   | (with_reducible exact r1_Half.mono _ _ _)
   | (with_reducible exact r1_Len.mono _ _)
   | (with_reducible exact r2_Inf.mono _ _ _)
   | (with_reducible exact r2_Make.mono _ _ _ _ _)
   | (with_reducible exact r2_Top.mono _ _)
   | (with_reducible exact r2_Two.mono _ _)
   | (with_reducible exact r3_grain.mono _ _ _ _)
   | (with_reducible exact r3_under.mono _ _ _ _)
   | (with_reducible exact LeO.refl _)
   | (with_reducible exact LeO.none _)
   | (with_reducible refine LeO.ite ?_ ?_)
   | (with_reducible refine LeO.bind ?_ (fun _ => ?_))
   | exact ih0 _ _ _ _ _ _ _ _
   | exact ih1 _ _ _ _ _ _ _
   | exact ih2 _ _ _ _ _
   | exact r1_Half.mono _ _ _
   | exact r1_Len.mono _ _
   | exact r2_Inf.mono _ _ _
   | exact r2_Make.mono _ _ _ _ _
   | exact r2_Top.mono _ _
   | exact r2_Two.mono _ _
   | exact r3_grain.mono _ _ _ _
   | exact r3_under.mono _ _ _ _
   | exact LeO.none _
   | refine LeO.ite ?_ ?_
   | refine LeO.bind ?_ (fun _ => ?_)
  ·intro y0 y1 y2 y3 y4
   unfold r3_Near.j2
   repeat' first
   | (with_reducible exact ih0 _ _ _ _ _ _ _ _)
   | (with_reducible exact ih1 _ _ _ _ _ _ _)
   | (with_reducible exact ih2 _ _ _ _ _)
   | (with_reducible exact r1_Half.mono _ _ _)
   | (with_reducible exact r1_Len.mono _ _)
   | (with_reducible exact r2_Inf.mono _ _ _)
   | (with_reducible exact r2_Make.mono _ _ _ _ _)
   | (with_reducible exact r2_Top.mono _ _)
   | (with_reducible exact r2_Two.mono _ _)
   | (with_reducible exact r3_grain.mono _ _ _ _)
   | (with_reducible exact r3_under.mono _ _ _ _)
   | (with_reducible exact LeO.refl _)
   | (with_reducible exact LeO.none _)
   | (with_reducible refine LeO.ite ?_ ?_)
   | (with_reducible refine LeO.bind ?_ (fun _ => ?_))
   | exact ih0 _ _ _ _ _ _ _ _
   | exact ih1 _ _ _ _ _ _ _
   | exact ih2 _ _ _ _ _
   | exact r1_Half.mono _ _ _
   | exact r1_Len.mono _ _
   | exact r2_Inf.mono _ _ _
   | exact r2_Make.mono _ _ _ _ _
   | exact r2_Top.mono _ _
   | exact r2_Two.mono _ _
   | exact r3_grain.mono _ _ _ _
   | exact r3_under.mono _ _ _ _
   | exact LeO.none _
   | refine LeO.ite ?_ ?_
   | refine LeO.bind ?_ (fun _ => ?_)
theorem r3_Near.mono : ∀ a0 a1 a2 a3 a4 k, LeO (r3_Near.f k a0 a1 a2 a3 a4) (r3_Near.f (k + 1) a0 a1 a2 a3 a4) := by
 intro a0 a1 a2 a3 a4 k
 obtain ⟨ih0, ih1, ih2⟩ := r3_Near.mono_l k
 unfold r3_Near.f
 repeat' first
   | (with_reducible exact ih0 _ _ _ _ _ _ _ _)
   | (with_reducible exact ih1 _ _ _ _ _ _ _)
   | (with_reducible exact ih2 _ _ _ _ _)
   | (with_reducible exact r1_Half.mono _ _ _)
   | (with_reducible exact r1_Len.mono _ _)
   | (with_reducible exact r2_Inf.mono _ _ _)
   | (with_reducible exact r2_Make.mono _ _ _ _ _)
   | (with_reducible exact r2_Top.mono _ _)
   | (with_reducible exact r2_Two.mono _ _)
   | (with_reducible exact r3_grain.mono _ _ _ _)
   | (with_reducible exact r3_under.mono _ _ _ _)
   | (with_reducible exact LeO.refl _)
   | (with_reducible exact LeO.none _)
   | (with_reducible refine LeO.ite ?_ ?_)
   | (with_reducible refine LeO.bind ?_ (fun _ => ?_))
   | exact ih0 _ _ _ _ _ _ _ _
   | exact ih1 _ _ _ _ _ _ _
   | exact ih2 _ _ _ _ _
   | exact r1_Half.mono _ _ _
   | exact r1_Len.mono _ _
   | exact r2_Inf.mono _ _ _
   | exact r2_Make.mono _ _ _ _ _
   | exact r2_Top.mono _ _
   | exact r2_Two.mono _ _
   | exact r3_grain.mono _ _ _ _
   | exact r3_under.mono _ _ _ _
   | exact LeO.none _
   | refine LeO.ite ?_ ?_
   | refine LeO.bind ?_ (fun _ => ?_)
def r3_Near.T2 : Bool × List (List Nat × List Nat) := (true, [([], []), ([0], [0]), ([], []), ([2, 1], [2]), ([1, 3], [1, 3]), ([], []), ([4, 5], [4, 5]), ([6, 3, 0, 1, 2, 3, 4, 5, 6], [6])])
def r3_Near.B2 : List Nat := [0, 1, 0, 7, 15, 0, 63, 127]
theorem r3_Near.tab2 : rtab .any (opsOf Tryd.f74 2) = r3_Near.T2 := by kernel_rfl
theorem r3_Near.bits2 : waitsOk r3_Near.T2.2 r3_Near.B2 = true := by kernel_rfl
theorem r3_Near.calls (k : Nat) (a0 : Int) (a1 : Bool) (A2_0 : Option Addr) (c2_0 : Nat) (l2_0 : List Int) (A3_0 : Option Addr) (c3_0 : Nat) (l3_0 : List Int) (a4 : Int) (r : Int) (w : World) (hr2_0 : Kd.C (Kd.int .u64) w A2_0 l2_0.length l2_0) (hc2_0 : l2_0.length ≤ c2_0) (hr3_0 : Kd.C (Kd.int .u64) w A3_0 l3_0.length l3_0) (hc3_0 : l3_0.length ≤ c3_0) (h : r3_Near.f k a0 a1 l2_0 l3_0 a4 = some r) :
  Calls Tryd.prog 74 #[.int .i64 a0, .bool a1, .agg #[.slice A2_0 l2_0.length c2_0], .agg #[.slice A3_0 l3_0.length c3_0], .int .i64 a4] w fun e w' => e = .returned (.int .u64 r) ∧ Below w.heap.size w w' := by
 have hu67 := Tryd.underlying67
 have HR2_0 := A_ hr2_0;have HC2_0 := A_ hc2_0;clear hr2_0 hc2_0;have HR3_0 := A_ hr3_0;have HC3_0 := A_ hc3_0;clear hr3_0 hc3_0
 have HB := A_ (Below.refl w.heap.size w)
 have H : ((r2_F.f a0).bind fun t502 => ((r1_Len.f k l2_0).bind fun t503 => ((r1_Len.f k l3_0).bind fun t504 => ((r3_Low.f a0).bind fun t505 => ((r3_Low.f a0).bind fun t506 => (if (mx (wrap64 ((wrap64 ((wrap64 (t503 - t504)) + a4)) - t502)) t505) > t506 then ((r3_under.f k l2_0 l3_0 (wrap64 ((wrap64 (a4 - (mx (wrap64 ((wrap64 ((wrap64 (t503 - t504)) + a4)) - t502)) t505))) - t502))).bind fun t507 => (r3_Near.j0 k a0 a1 a4 t502 (mx (wrap64 ((wrap64 ((wrap64 (t503 - t504)) + a4)) - t502)) t505) t507 l2_0 l3_0)) else (r3_Near.j0 k a0 a1 a4 t502 (mx (wrap64 ((wrap64 ((wrap64 (t503 - t504)) + a4)) - t502)) t505) false l2_0 l3_0))))))) = some r := h
 clear h
 replace H := ob_ H
 obtain ⟨t502, A60, H⟩ := H
 replace H : ((r1_Len.f k l2_0).bind fun t503 => ((r1_Len.f k l3_0).bind fun t504 => ((r3_Low.f a0).bind fun t505 => ((r3_Low.f a0).bind fun t506 => (if (mx (wrap64 ((wrap64 ((wrap64 (t503 - t504)) + a4)) - t502)) t505) > t506 then ((r3_under.f k l2_0 l3_0 (wrap64 ((wrap64 (a4 - (mx (wrap64 ((wrap64 ((wrap64 (t503 - t504)) + a4)) - t502)) t505))) - t502))).bind fun t507 => (r3_Near.j0 k a0 a1 a4 t502 (mx (wrap64 ((wrap64 ((wrap64 (t503 - t504)) + a4)) - t502)) t505) t507 l2_0 l3_0)) else (r3_Near.j0 k a0 a1 a4 t502 (mx (wrap64 ((wrap64 ((wrap64 (t503 - t504)) + a4)) - t502)) t505) false l2_0 l3_0)))))) = some r := H
 have A6 := A_ A60;clear A60
 replace H := ob_ H
 obtain ⟨t503, A70, H⟩ := H
 replace H : ((r1_Len.f k l3_0).bind fun t504 => ((r3_Low.f a0).bind fun t505 => ((r3_Low.f a0).bind fun t506 => (if (mx (wrap64 ((wrap64 ((wrap64 (t503 - t504)) + a4)) - t502)) t505) > t506 then ((r3_under.f k l2_0 l3_0 (wrap64 ((wrap64 (a4 - (mx (wrap64 ((wrap64 ((wrap64 (t503 - t504)) + a4)) - t502)) t505))) - t502))).bind fun t507 => (r3_Near.j0 k a0 a1 a4 t502 (mx (wrap64 ((wrap64 ((wrap64 (t503 - t504)) + a4)) - t502)) t505) t507 l2_0 l3_0)) else (r3_Near.j0 k a0 a1 a4 t502 (mx (wrap64 ((wrap64 ((wrap64 (t503 - t504)) + a4)) - t502)) t505) false l2_0 l3_0))))) = some r := H
 have A7 := A_ A70;clear A70
 replace H := ob_ H
 obtain ⟨t504, A80, H⟩ := H
 replace H : ((r3_Low.f a0).bind fun t505 => ((r3_Low.f a0).bind fun t506 => (if (mx (wrap64 ((wrap64 ((wrap64 (t503 - t504)) + a4)) - t502)) t505) > t506 then ((r3_under.f k l2_0 l3_0 (wrap64 ((wrap64 (a4 - (mx (wrap64 ((wrap64 ((wrap64 (t503 - t504)) + a4)) - t502)) t505))) - t502))).bind fun t507 => (r3_Near.j0 k a0 a1 a4 t502 (mx (wrap64 ((wrap64 ((wrap64 (t503 - t504)) + a4)) - t502)) t505) t507 l2_0 l3_0)) else (r3_Near.j0 k a0 a1 a4 t502 (mx (wrap64 ((wrap64 ((wrap64 (t503 - t504)) + a4)) - t502)) t505) false l2_0 l3_0)))) = some r := H
 have A8 := A_ A80;clear A80
 replace H := ob_ H
 obtain ⟨t505, A90, H⟩ := H
 replace H : ((r3_Low.f a0).bind fun t506 => (if (mx (wrap64 ((wrap64 ((wrap64 (t503 - t504)) + a4)) - t502)) t505) > t506 then ((r3_under.f k l2_0 l3_0 (wrap64 ((wrap64 (a4 - (mx (wrap64 ((wrap64 ((wrap64 (t503 - t504)) + a4)) - t502)) t505))) - t502))).bind fun t507 => (r3_Near.j0 k a0 a1 a4 t502 (mx (wrap64 ((wrap64 ((wrap64 (t503 - t504)) + a4)) - t502)) t505) t507 l2_0 l3_0)) else (r3_Near.j0 k a0 a1 a4 t502 (mx (wrap64 ((wrap64 ((wrap64 (t503 - t504)) + a4)) - t502)) t505) false l2_0 l3_0))) = some r := H
 have A9 := A_ A90;clear A90
 obtain ⟨ji10, hji10⟩ : ∃ j_ : Int, (mx (wrap64 ((wrap64 ((wrap64 (t503 - t504)) + a4)) - t502)) t505) = j_ := ⟨_, rfl⟩
 replace H : ((r3_Low.f a0).bind fun t506 => (if (ji10) > t506 then ((r3_under.f k l2_0 l3_0 (wrap64 ((wrap64 (a4 - (ji10))) - t502))).bind fun t507 => (r3_Near.j0 k a0 a1 a4 t502 ji10 t507 l2_0 l3_0)) else (r3_Near.j0 k a0 a1 a4 t502 ji10 false l2_0 l3_0))) = some r := by first | (rw [hji10] at H; exact H) | (simp only [hji10] at H ⊢; exact H)
 (try rw [hji10] at A6)
 (try rw [hji10] at A7)
 (try rw [hji10] at A8)
 (try rw [hji10] at A9)
 have hji10_ : (if (wrap64 ((wrap64 ((wrap64 (t503 - t504)) + a4)) - t502)) < t505 then t505 else (wrap64 ((wrap64 ((wrap64 (t503 - t504)) + a4)) - t502))) = ji10 := hji10
 have HC11 := A_ H;clear H
 go_enter Tryd.func74, Tryd.ntmps74
 try go_wp2_with (first | ((with_reducible refine gate_dst (N := 7) rfl ?_); refine be_ 7 #[.slice A2_0 l2_0.length c2_0] 67 ?_; intro gb500 hg w12 hbox hb; have BK500 := A_ (hbox); have GW500 := A_ (sz_ hg (hb_ HB.out)); have GE500 := A_ (sz_ hg (hb_ HB.out)); replace HB := A_ (below_step (hb_ HB.out) hb); clear hb hbox hg) | ((with_reducible refine gate_dst (N := 8) rfl ?_); refine be_ 8 #[.slice A3_0 l3_0.length c3_0] 67 ?_; intro gb501 hg w13 hbox hb; have BK501 := A_ (hbox); have GW501 := A_ (sz_ hg (hb1_ HB.out GE500.out)); have GE501 := A_ (sz_ hg (hb1_ HB.out GE500.out)); have NB500_501 := A_ (nl_ hg BK500.out); have NB501_500 := A_ (ng_ hg BK500.out); replace BK500 := A_ (bb_ BK500.out hb); replace HB := A_ (below_step (hb1_ HB.out GE500.out) hb); clear hb hbox hg) | ((with_reducible refine gate_callee (f := 81) rfl ?_); refine goesL_ (some 17) rfl rfl Tryd.func81 (by kernel_rfl) rfl #[.int .i64 a0] rfl mp_ ?_; (with_reducible refine (r2_F.calls a0 t502 _ A6.out).mono ?_); rintro e w' ⟨rfl, ⟨nd, rfl⟩⟩; refine ⟨_, rfl, ?_⟩))
 (try (rw [drewN_self w13]; generalize hq_ : World.drewN w13 _ = w13; have n0_ : Aside0 (w13.heap[gb500]? = some (.cells #[.slice A2_0 l2_0.length c2_0] 67 (0, 0))) := ⟨by rw [← hq_]; exact (bk_ BK500.out)⟩; have n1_ : Aside0 (w13.heap[gb501]? = some (.cells #[.slice A3_0 l3_0.length c3_0] 67 (0, 0))) := ⟨by rw [← hq_]; exact (bk_ BK501.out)⟩; have n2_ : Aside0 (Below w.heap.size w w13) := ⟨by rw [← hq_]; exact (hb2_ HB.out GE500.out GE501.out)⟩; clear BK500 BK501 HB hq_; have BK500 := n0_; have BK501 := n1_; have HB := n2_; clear n0_ n1_ n2_))
 replace BK500 := A_ (blk_drew BK500.out)
 replace BK501 := A_ (blk_drew BK501.out)
 replace HB := A_ (below_drew1 HB.out)
 refine start_ (n := 8) (S := fun w' => w'.cell? ⟨gb500, 0, none⟩ = some (.slice A2_0 l2_0.length c2_0) ∧ w'.cell? ⟨gb501, 0, none⟩ = some (.slice A3_0 l3_0.length c3_0)) (ds := []) #[false, false, false, false, false, false, false, false] (by kernel_rfl) rfl rfl ⟨bc_ BK500.out 0, bc_ BK501.out 0⟩ (fun hHeld => ?_); refine with_tabW r3_Near.tab2 r3_Near.bits2 (fun HT_ HW_ => ?_)
 generalize w13.drew = w14 at BK500 BK501 HB hHeld ⊢
 refine pu_ 5 (some 23) #[false, false, false, false, false, true, false, false] rfl rfl (any_of HT_.out (by kernel_rfl)) ?_
 refine tk2_ 0 (some 18) #[true, false, false, false, false, true, false, false] rfl rfl (take_ofW HT_.out HW_.out (by kernel_rfl)) hHeld ?_
 refine tk2_ 2 (some 20) #[true, false, true, false, false, true, false, false] rfl rfl (take_ofW HT_.out HW_.out (by kernel_rfl)) hHeld ?_
 refine one_ (i := 1) (N := some 19) #[true, true, true, false, false, true, false, false] rfl rfl (one_of HT_.out (by kernel_rfl)) (by decide) (fun K hK => ?_)
 refine goes_ Tryd.func94 (by kernel_rfl) rfl #[.agg #[.slice A2_0 l2_0.length c2_0]] (by rfl) rfl rfl mp_ ?_
 with_reducible refine (r1_Len.calls k _ _ l2_0 t503 _ ?side1 ?side2 A7.out).mono ?_
 (case side1 => exact cs_ ((Kd.C_below HR2_0.out HB.out)))
 (case side2 => exact HC2_0.out)
 rintro e w15 ⟨rfl, hb⟩
 refine ⟨_, rfl, ?_⟩
 replace BK500 := A_ (bb_ BK500.out hb)
 replace BK501 := A_ (bb_ BK501.out hb)
 replace HB := A_ (below_step (hb2_ HB.out GE500.out GE501.out) hb);(try clear hb);(try clear hb2);(try clear hk);(try clear hi)
 refine hK.out _ _ ⟨bc_ BK500.out 0, bc_ BK501.out 0⟩ (fun hHeld => ?_)
 clear hK K
 refine norm_ (a' := ?_) ?_ ?_
 rotate_left
 ·show Act.put _ (some 19) _ = _
  simp only [Act.put, lI_, l0_, lS_, i64_w, i32_w]
  rfl
 refine one_ (i := 3) (N := some 21) #[true, true, true, true, false, true, false, false] rfl rfl (one_of HT_.out (by kernel_rfl)) (by decide) (fun K hK => ?_)
 refine goes_ Tryd.func94 (by kernel_rfl) rfl #[.agg #[.slice A3_0 l3_0.length c3_0]] (by rfl) rfl rfl mp_ ?_
 with_reducible refine (r1_Len.calls k _ _ l3_0 t504 _ ?side1 ?side2 A8.out).mono ?_
 (case side1 => exact cs_ ((Kd.C_below HR3_0.out HB.out)))
 (case side2 => exact HC3_0.out)
 rintro e w16 ⟨rfl, hb⟩
 refine ⟨_, rfl, ?_⟩
 replace BK500 := A_ (bb_ BK500.out hb)
 replace BK501 := A_ (bb_ BK501.out hb)
 replace HB := A_ (below_step (hb2_ HB.out GE500.out GE501.out) hb);(try clear hb);(try clear hb2);(try clear hk);(try clear hi)
 refine hK.out _ _ ⟨bc_ BK500.out 0, bc_ BK501.out 0⟩ (fun hHeld => ?_)
 clear hK K
 refine norm_ (a' := ?_) ?_ ?_
 rotate_left
 ·show Act.put _ (some 21) _ = _
  simp only [Act.put, lI_, l0_, lS_, i64_w, i32_w]
  rfl
 refine pu_ 4 (some 22) #[true, true, true, true, true, true, false, false] rfl rfl (any_of HT_.out (by kernel_rfl)) ?_
 refine pu_ 6 (some 24) #[true, true, true, true, true, true, true, false] rfl rfl (any_of HT_.out (by kernel_rfl)) ?_
 refine pu_ 7 (some 12) #[true, true, true, true, true, true, true, true] rfl rfl (any_of HT_.out (by kernel_rfl)) ?_
 refine done_ (done_of HT_.out (by kernel_rfl)) ?_
 go_upto_region 4 with (first | ((with_reducible refine gate_callee (f := 95) rfl ?_); refine goesL_ (some 29) rfl rfl Tryd.func95 (by kernel_rfl) rfl #[.int .i64 a0] rfl mp_ ?_; (with_reducible refine (r3_Low.calls a0 t505 _ A9.out).mono ?_); rintro e w' ⟨rfl, ⟨nd, rfl⟩⟩; refine ⟨_, rfl, ?_⟩))
 (try simp only [Act.put, lI_, l0_, lS_])
 go_cut [44] (fun v44 wc => ∃ (kq : Nat) (x44_10 : Bool), v44 = .bool x44_10 ∧ Aside0 (r3_Near.j0 kq a0 a1 a4 t502 ji10 x44_10 l2_0 l3_0 = some r) ∧ Aside0 (kq ≤ k) ∧ Aside0 (wc.heap[gb500]? = some (.cells #[(.slice A2_0 l2_0.length c2_0)] 67 (0, 0))) ∧ Aside0 (wc.heap[gb501]? = some (.cells #[(.slice A3_0 l3_0.length c3_0)] 67 (0, 0))) ∧ Aside0 (Below w.heap.size w wc))
 case first =>
  have H := HC11.out
  clear HC11
  replace H := ob_ H
  obtain ⟨t506, A170, H⟩ := H
  replace H : (if (ji10) > t506 then ((r3_under.f k l2_0 l3_0 (wrap64 ((wrap64 (a4 - (ji10))) - t502))).bind fun t507 => (r3_Near.j0 k a0 a1 a4 t502 ji10 t507 l2_0 l3_0)) else (r3_Near.j0 k a0 a1 a4 t502 ji10 false l2_0 l3_0)) = some r := H
  have A17 := A_ A170;clear A170
  by_cases c18 : (ji10) > t506
  ·rw [if_pos c18] at H
   have c18b0 : decide (t506 < (ji10)) = true := decide_eq_true c18
   clear c18
   (first | rw [c18b0] | (simp only [i64_w, i32_w]; rw [c18b0]) | skip)
   replace H := ob_ H
   obtain ⟨t507, A190, H⟩ := H
   replace H : (r3_Near.j0 k a0 a1 a4 t502 ji10 t507 l2_0 l3_0) = some r := H
   have A19 := A_ A190;clear A190
   have H' := A_ H
   clear H
   go_wp2_with (first | ((with_reducible refine gate_callee (f := 95) rfl ?_); refine goesL_ (some 33) rfl rfl Tryd.func95 (by kernel_rfl) rfl #[.int .i64 a0] rfl mp_ ?_; (with_reducible refine (r3_Low.calls a0 t506 _ A17.out).mono ?_); rintro e w' ⟨rfl, ⟨nd, rfl⟩⟩; refine ⟨_, rfl, ?_⟩; have hnb20 := NB500_501.out; have hnc20 := NB501_500.out; have hcz21_0 := bv_ BK500.out 0; have hfz21_0 := blk_frozen BK500.out 0; have hcz22_0 := bv_ BK501.out 0; have hfz22_0 := blk_frozen BK501.out 0) | (go_at_call 96; (with_reducible refine (r3_under.calls k _ _ l2_0 _ _ l3_0 (wrap64 ((wrap64 (a4 - (ji10))) - t502)) t507 _ ?side1 ?side2 ?side3 ?side4 A19.out).mono ?_); (case side1 => exact cs_ ((Kd.C_below HR2_0.out (hb2_ HB.out GE500.out GE501.out)))); (case side2 => exact HC2_0.out); (case side3 => exact cs_ ((Kd.C_below HR3_0.out (hb2_ HB.out GE500.out GE501.out)))); (case side4 => exact HC3_0.out); rintro e w23 ⟨rfl, hb⟩; replace BK500 := A_ (bb_ BK500.out hb); replace BK501 := A_ (bb_ BK501.out hb); replace HB := A_ (below_step (hb2_ HB.out GE500.out GE501.out) hb); (try clear hb); (try clear hb2); (try clear hk); (try clear hi)))
   go_meet
   case rel => exact ⟨_, (t507), sm_, H', ⟨by first | omega | exact Nat.le_refl _⟩, ⟨bk_ BK500.out⟩, ⟨bk_ BK501.out⟩, ⟨hb2_ HB.out GE500.out GE501.out⟩⟩
  ·rw [if_neg c18] at H
   have c18b0 : decide (t506 < (ji10)) = false := decide_eq_false c18
   clear c18
   (first | rw [c18b0] | (simp only [i64_w, i32_w]; rw [c18b0]) | skip)
   have H' := A_ H
   clear H
   go_wp2_with (first | ((with_reducible refine gate_callee (f := 95) rfl ?_); refine goesL_ (some 33) rfl rfl Tryd.func95 (by kernel_rfl) rfl #[.int .i64 a0] rfl mp_ ?_; (with_reducible refine (r3_Low.calls a0 t506 _ A17.out).mono ?_); rintro e w' ⟨rfl, ⟨nd, rfl⟩⟩; refine ⟨_, rfl, ?_⟩))
   go_meet
   case rel => exact ⟨_, (false), sm_, H', ⟨by first | omega | exact Nat.le_refl _⟩, ⟨bk_ BK500.out⟩, ⟨bk_ BK501.out⟩, ⟨hb2_ HB.out GE500.out GE501.out⟩⟩
 case rest =>
  clear HC11
  try clear c1
  try clear c2
  try clear p2
  try clear c3
  try clear p6
  try clear c7
  try clear c8
  try clear c9
  try clear c18
  try clear c18b0
  try clear c20
  try clear hcz21_0
  try clear hcz22_0
  try clear hfz21_0
  try clear hfz22_0
  obtain ⟨kq, x44_10, rfl, HA, HJ10, BK500, BK501, HB⟩ := hcut
  cases kq with
  | zero => exact absurd HA.out (by simp [r3_Near.j0])
  | succ kj10 =>
   have H := HA.out
   clear HA
   simp only [r3_Near.j0] at H
   have HC24 := A_ H;clear H
   go_upto_if 44 with (fail)
   go_cut [13] (fun v13 wc => ∃ (kq : Nat) (x13_23 : Int), v13 = .int .i64 x13_23 ∧ Aside0 (r3_Near.j1 kq a0 a1 a4 t502 x13_23 l2_0 l3_0 = some r) ∧ Aside0 (kq ≤ kj10) ∧ Aside0 (wc.heap[gb500]? = some (.cells #[(.slice A2_0 l2_0.length c2_0)] 67 (0, 0))) ∧ Aside0 (wc.heap[gb501]? = some (.cells #[(.slice A3_0 l3_0.length c3_0)] 67 (0, 0))) ∧ Aside0 (Below w.heap.size w wc))
   case first =>
    have H := HC24.out
    clear HC24
    by_cases c25 : x44_10 = true
    ·subst c25
     have H1 : (r3_Near.j1 kj10 a0 a1 a4 t502 (wrap64 (ji10 - 1)) l2_0 l3_0) = some r := by rw [if_pos rfl] at H; exact H
     clear H;have H := H1;clear H1
     have H' := A_ H
     clear H
     go_wp2
     go_meet
     case rel => exact ⟨_, (wrap64 (ji10 - 1)), (by first | rfl | (simp; done) | (simp only [← hji10] <;> (first | rfl | simp)) | (simp [*]; done)), H', ⟨by have := HJ10.out; first | omega | exact Nat.le_refl _⟩, ⟨bk_ BK500.out⟩, ⟨bk_ BK501.out⟩, ⟨hb2_ HB.out GE500.out GE501.out⟩⟩
    ·replace c25 := Bool.eq_false_iff.mpr c25
     subst c25
     have H1 : (r3_Near.j1 kj10 a0 a1 a4 t502 ji10 l2_0 l3_0) = some r := by rw [if_neg (show ¬ (false = true) by decide)] at H; exact H
     clear H;have H := H1;clear H1
     have H' := A_ H
     clear H
     go_wp2
     go_meet
     case rel => exact ⟨_, (ji10), (by first | rfl | (simp; done) | (simp only [← hji10] <;> (first | rfl | simp)) | (simp [*]; done)), H', ⟨by have := HJ10.out; first | omega | exact Nat.le_refl _⟩, ⟨bk_ BK500.out⟩, ⟨bk_ BK501.out⟩, ⟨hb2_ HB.out GE500.out GE501.out⟩⟩
   case rest =>
    clear HC24
    try clear c1
    try clear c2
    try clear p2
    try clear c3
    try clear p6
    try clear c7
    try clear c8
    try clear c9
    try clear c18
    try clear c18b0
    try clear c20
    try clear c25
    try clear hcz21_0
    try clear hcz22_0
    try clear hfz21_0
    try clear hfz22_0
    try clear p2
    try clear p6
    obtain ⟨kq, x13_23, rfl, HA, HJ23, BK500, BK501, HB⟩ := hcut
    cases kq with
    | zero => exact absurd HA.out (by simp [r3_Near.j1])
    | succ kj23 =>
     have H := HA.out
     clear HA
     simp only [r3_Near.j1] at H
     replace H := ob_ H
     obtain ⟨t508, A260, H⟩ := H
     replace H : ((r1_Len.f kj23 t508).bind fun t512 => (if t512 > (wrap64 (t502 + 1)) then ((r1_Half.f kj23 t508 1).bind fun bt513 => (r3_Near.j2 kj23 a0 a1 t502 (wrap64 (x13_23 + 1)) bt513.1)) else (r3_Near.j2 kj23 a0 a1 t502 x13_23 t508))) = some r := H
     have A26 := A_ A260;clear A260
     replace H := ob_ H
     obtain ⟨t512, A270, H⟩ := H
     replace H : (if t512 > (wrap64 (t502 + 1)) then ((r1_Half.f kj23 t508 1).bind fun bt513 => (r3_Near.j2 kj23 a0 a1 t502 (wrap64 (x13_23 + 1)) bt513.1)) else (r3_Near.j2 kj23 a0 a1 t502 x13_23 t508)) = some r := H
     have A27 := A_ A270;clear A270;have HC28 := A_ H;clear H
     have hnb29 := NB500_501.out
     have hnc29 := NB501_500.out
     have hcz30_0 := bv_ BK500.out 0
     have hfz30_0 := blk_frozen BK500.out 0
     have hcz31_0 := bv_ BK501.out 0
     have hfz31_0 := blk_frozen BK501.out 0
     go_upto_if 57 with (first | ((with_reducible refine gate_callee (f := 97) rfl ?_); refine goesL_ (some 52) rfl rfl Tryd.func97 (by kernel_rfl) rfl #[.agg #[.slice A2_0 l2_0.length c2_0], .agg #[.slice A3_0 l3_0.length c3_0], .int .i64 (wrap64 (a4 - x13_23))] rfl mp_ ?_; (with_reducible refine (r3_grain.calls kj23 _ _ l2_0 _ _ l3_0 (wrap64 (a4 - x13_23)) t508 _ ?side1 ?side2 ?side3 ?side4 A26.out).mono ?_); (case side1 => exact cs_ ((Kd.C_below HR2_0.out HB.out))); (case side2 => exact HC2_0.out); (case side3 => exact cs_ ((Kd.C_below HR3_0.out HB.out))); (case side4 => exact HC3_0.out); rintro e w32 ⟨v509, rfl, ho0, hb⟩; refine ⟨_, rfl, ?_⟩; have HO510 := A_ (Kd.R_lower ho0 (below_size (hb2_ HB.out GE500.out GE501.out))); replace BK500 := A_ (bb_ BK500.out hb); replace BK501 := A_ (bb_ BK501.out hb); replace HB := A_ (below_step (hb2_ HB.out GE500.out GE501.out) hb); (try clear hb); (try clear hb2); (try clear hk); (try clear hi); (try clear ho0)) | ((with_reducible refine gate_dst (N := 14) rfl ?_); refine be_ 14 #[.slice none 0 0] 67 ?_; intro gb511 hg w33 hbox hb; have BK511 := A_ (hbox); have GW511 := A_ (sz_ hg (hb2_ HB.out GE500.out GE501.out)); have GE511 := A_ (sz_ hg (hb2_ HB.out GE500.out GE501.out)); have NB500_511 := A_ (nl_ hg BK500.out); have NB511_500 := A_ (ng_ hg BK500.out); have NB501_511 := A_ (nl_ hg BK501.out); have NB511_501 := A_ (ng_ hg BK501.out); replace HO510 := A_ (Kd.R_below (kr_ HO510.out) hb); replace BK500 := A_ (bb_ BK500.out hb); replace BK501 := A_ (bb_ BK501.out hb); replace HB := A_ (below_step (hb2_ HB.out GE500.out GE501.out) hb); clear hb hbox hg; obtain ⟨Ao34, co34, eo34⟩ := Kd.R_slice HO510.out; subst eo34; have hnb35 := NB511_500.out; have hnc35 := NB500_511.out; have hnb36 := NB511_501.out; have hnc36 := NB501_511.out; have hcz37_0 := bv_ BK511.out 0; have hfz37_0 := blk_frozen BK511.out 0) | ((with_reducible refine gate_callee (f := 94) rfl ?_); refine goesL_ (some 54) rfl rfl Tryd.func94 (by kernel_rfl) rfl #[.agg #[.slice Ao34 t508.length co34]] rfl mp_ ?_; (with_reducible refine (r1_Len.calls kj23 _ _ t508 t512 _ ?side1 ?side2 A27.out).mono ?_); (case side1 => refine (Kd.R_reads' (e := 22) (base := w.heap.size) (ok := fun k_ => True) (n := t508.length) (c := co34) ?_).2.2; exact (by (with_reducible repeat (first | apply Kd.R_alloc | apply Kd.R_drewN | apply Kd.R_drew)); exact (Kd.R_mono (Kd.R_far (p := ⟨gb511, 0, none⟩) (Kd.R_types HO510.out BK511.out (by decide)) (fun _ hk => hk.2) (.slice Ao34 t508.length co34)) (fun _ h_ => h_.1)))); (case side2 => exact (Kd.R_reads' HO510.out).2.1); rintro e w38 ⟨rfl, hb⟩; refine ⟨_, rfl, ?_⟩; replace HO510 := A_ (Kd.R_below (by (with_reducible repeat (first | apply Kd.R_alloc | apply Kd.R_drewN | apply Kd.R_drew)); exact (Kd.R_mono (Kd.R_far (p := ⟨gb511, 0, none⟩) (Kd.R_types HO510.out BK511.out (by decide)) (fun _ hk => hk.2) (.slice Ao34 t508.length co34)) (fun _ h_ => h_.1))) hb); replace BK500 := A_ (blk_below (g := gb500) (o := .cells #[.slice A2_0 l2_0.length c2_0] 67 (0, 0)) (bf1_ BK500.out NB500_511.out) hb); replace BK501 := A_ (blk_below (g := gb501) (o := .cells #[.slice A3_0 l3_0.length c3_0] 67 (0, 0)) (bf1_ BK501.out NB501_511.out) hb); replace BK511 := A_ (blk_below (g := gb511) (o := .cells #[.slice Ao34 t508.length co34] 67 (0, 0)) (by (with_reducible repeat (first | refine blk_drewN ?_ _ | refine blk_drew ?_ | refine blk_alloc ?_ _)); refine blk_put (cs := #[.slice none 0 0]) ?_ 0 _ rfl; (with_reducible repeat (first | refine blk_drewN ?_ _ | refine blk_drew ?_ | refine blk_alloc ?_ _)); exact BK511.out) hb); replace HB := A_ (below_step (hb3_ HB.out GE500.out GE501.out GE511.out) hb); (try clear hb); (try clear hb2); (try clear hk); (try clear hi)))
     (try simp only [Act.put, lI_, l0_, lS_])
     go_cut [13] (fun v13 wc => ∃ (kq : Nat) (x13_27 : Int) (x512000_27 : List Int) (u512000 : Value), v13 = .int .i64 x13_27 ∧ Aside0 (r3_Near.j2 kq a0 a1 t502 x13_27 x512000_27 = some r) ∧ Aside0 (kq ≤ kj23) ∧ Aside0 (Kd.R (Kd.int .u64) 22 wc w.heap.size (fun _ => True) u512000 x512000_27) ∧ Aside0 (wc.heap[gb500]? = some (.cells #[(.slice A2_0 l2_0.length c2_0)] 67 (0, 0))) ∧ Aside0 (wc.heap[gb501]? = some (.cells #[(.slice A3_0 l3_0.length c3_0)] 67 (0, 0))) ∧ Aside0 (wc.heap[gb511]? = some (.cells #[u512000] 67 (0, 0))) ∧ Aside0 (Below w.heap.size w wc))
     case first =>
      have H := HC28.out
      clear HC28
      by_cases c39 : t512 > (wrap64 (t502 + 1))
      ·rw [if_pos c39] at H
       have c39b0 : decide ((wrap64 (t502 + 1)) < t512) = true := decide_eq_true c39
       clear c39
       (first | rw [c39b0] | (simp only [i64_w, i32_w]; rw [c39b0]) | skip)
       replace H := ob_ H
       obtain ⟨⟨t513, t516⟩, A400, H⟩ := H
       replace H : (r3_Near.j2 kj23 a0 a1 t502 (wrap64 (x13_23 + 1)) t513) = some r := H
       have A40 := A_ A400;clear A400
       have H' := A_ H
       clear H
       have hnb41 := NB511_500.out
       have hnc41 := NB500_511.out
       have hnb42 := NB511_501.out
       have hnc42 := NB501_511.out
       have hcz43_0 := bv_ BK511.out 0
       have hfz43_0 := blk_frozen BK511.out 0
       go_wp2_with (first | ((with_reducible refine gate_callee (f := 98) rfl ?_); refine goesL_ (some 62) rfl rfl Tryd.func98 (by kernel_rfl) rfl #[.agg #[.slice Ao34 t508.length co34], .int .i64 1] rfl mp_ ?_; (with_reducible refine (r1_Half.calls kj23 _ _ t508 1 t513 t516 _ ?side1 ?side2 A40.out).mono ?_); (case side1 => exact cs_ ((Kd.R_reads' HO510.out).2.2)); (case side2 => exact (Kd.R_reads' HO510.out).2.1); rintro e w44 ⟨v514, rfl, ho0, hb⟩; refine ⟨_, rfl, ?_⟩; have HO515 := A_ (Kd.R_lower (Kd.R_new' ho0 (Kd.R_lt (kr_ HO510.out))) (below_size (hb3_ HB.out GE500.out GE501.out GE511.out))); replace HO510 := A_ (Kd.R_elder' (kr_ HO510.out) (Kd.R_base ho0) hb); replace BK500 := A_ (bb_ BK500.out hb); replace BK501 := A_ (bb_ BK501.out hb); replace BK511 := A_ (bb_ BK511.out hb); replace HB := A_ (below_step (hb3_ HB.out GE500.out GE501.out GE511.out) hb); (try clear hb); (try clear hb2); (try clear hk); (try clear hi); (try clear ho0); obtain ⟨Ao45, co45, eo45⟩ := Kd.R_slice HO515.out; subst eo45; have hcz46_0 := bv_ BK511.out 0; have hfz46_0 := blk_frozen BK511.out 0))
       go_meet
       case rel => exact ⟨_, (wrap64 (x13_23 + 1)), (t513), (.slice Ao45 t513.length co45), sm_, H', ⟨by have := HJ10.out; have := HJ23.out; first | omega | exact Nat.le_refl _⟩, ⟨by (with_reducible repeat (first | apply Kd.R_alloc | apply Kd.R_drewN | apply Kd.R_drew)); exact Kd.R_mono (Kd.R_far (p := ⟨gb511, 0, none⟩) (Kd.R_types HO515.out BK511.out (by decide)) (fun _ hk => hk.2) (.slice Ao45 t513.length co45)) (fun _ hk => trivial)⟩, ⟨bf1_ BK500.out NB500_511.out⟩, ⟨bf1_ BK501.out NB501_511.out⟩, ⟨by (with_reducible repeat (first | refine blk_drewN ?_ _ | refine blk_drew ?_ | refine blk_alloc ?_ _)); refine blk_put (cs := #[.slice Ao34 t508.length co34]) ?_ 0 _ rfl; (with_reducible repeat (first | refine blk_drewN ?_ _ | refine blk_drew ?_ | refine blk_alloc ?_ _)); exact BK511.out⟩, ⟨hb3_ HB.out GE500.out GE501.out GE511.out⟩⟩
      ·rw [if_neg c39] at H
       have c39b0 : decide ((wrap64 (t502 + 1)) < t512) = false := decide_eq_false c39
       clear c39
       (first | rw [c39b0] | (simp only [i64_w, i32_w]; rw [c39b0]) | skip)
       have H' := A_ H
       clear H
       go_wp2
       go_meet
       case rel => exact ⟨_, (x13_23), (t508), (.slice Ao34 t508.length co34), sm_, H', ⟨by have := HJ10.out; have := HJ23.out; first | omega | exact Nat.le_refl _⟩, ⟨by (with_reducible repeat (first | apply Kd.R_alloc | apply Kd.R_drewN | apply Kd.R_drew)); exact HO510.out⟩, ⟨bk_ BK500.out⟩, ⟨bk_ BK501.out⟩, ⟨bk_ BK511.out⟩, ⟨hb3_ HB.out GE500.out GE501.out GE511.out⟩⟩
     case rest =>
      clear HC28
      try clear c1
      try clear c2
      try clear p2
      try clear c3
      try clear c4
      try clear p6
      try clear c7
      try clear c8
      try clear c9
      try clear c18
      try clear c18b0
      try clear c20
      try clear c25
      try clear c29
      try clear c35
      try clear c36
      try clear c39
      try clear c39b0
      try clear c41
      try clear c42
      try clear hcz21_0
      try clear hcz22_0
      try clear hcz30_0
      try clear hcz31_0
      try clear hcz37_0
      try clear hcz43_0
      try clear hcz46_0
      try clear hfz21_0
      try clear hfz22_0
      try clear hfz30_0
      try clear hfz31_0
      try clear hfz37_0
      try clear hfz43_0
      try clear hfz46_0
      try clear p2
      try clear p6
      obtain ⟨kq, x13_27, x512000_27, u512000, rfl, HA, HJ27, HO_512000, BK500, BK501, BK511, HB⟩ := hcut
      cases kq with
      | zero => exact absurd HA.out (by simp [r3_Near.j2])
      | succ kj27 =>
       have H := HA.out
       clear HA
       simp only [r3_Near.j2] at H
       replace H := ob_ H
       obtain ⟨t517, A470, H⟩ := H
       replace H : ((r2_Top.f kj27 a0).bind fun t518 => (if x13_27 > (wrap64 ((wrap64 (t517 + t518)) - 2)) then ((r2_Inf.f kj27 a0 a1).bind fun t519 => (some t519)) else ((r1_Uint.f x512000_27).bind fun t520 => ((r2_Two.f kj27 t502).bind fun t521 => (if t520 < t521 then ((r2_Make.f kj27 a0 a1 0 t520).bind fun t522 => (some t522)) else ((r3_Low.f a0).bind fun t523 => ((r2_Two.f kj27 t502).bind fun t524 => ((r2_Make.f kj27 a0 a1 (wrap64 ((wrap64 (x13_27 - t523)) + 1)) (IntKind.u64.wrap (t520 - t524))).bind fun t525 => (some t525))))))))) = some r := H
       have A47 := A_ A470;clear A470
       replace H := ob_ H
       obtain ⟨t518, A480, H⟩ := H
       replace H : (if x13_27 > (wrap64 ((wrap64 (t517 + t518)) - 2)) then ((r2_Inf.f kj27 a0 a1).bind fun t519 => (some t519)) else ((r1_Uint.f x512000_27).bind fun t520 => ((r2_Two.f kj27 t502).bind fun t521 => (if t520 < t521 then ((r2_Make.f kj27 a0 a1 0 t520).bind fun t522 => (some t522)) else ((r3_Low.f a0).bind fun t523 => ((r2_Two.f kj27 t502).bind fun t524 => ((r2_Make.f kj27 a0 a1 (wrap64 ((wrap64 (x13_27 - t523)) + 1)) (IntKind.u64.wrap (t520 - t524))).bind fun t525 => (some t525)))))))) = some r := H
       have A48 := A_ A480;clear A480
       by_cases c49 : x13_27 > (wrap64 ((wrap64 (t517 + t518)) - 2))
       ·rw [if_pos c49] at H
        have c49b0 : decide ((wrap64 ((wrap64 (t517 + t518)) - 2)) < x13_27) = true := decide_eq_true c49
        clear c49
        replace H := ob_ H
        obtain ⟨t519, A500, H⟩ := H
        replace H : (some t519) = some r := H
        have A50 := A_ A500;clear A500
        obtain rfl := Option.some.inj H
        go_wp2_with (first | ((with_reducible refine gate_callee (f := 95) rfl ?_); refine goesL_ (some 67) rfl rfl Tryd.func95 (by kernel_rfl) rfl #[.int .i64 a0] rfl mp_ ?_; (with_reducible refine (r3_Low.calls a0 t517 _ A47.out).mono ?_); rintro e w' ⟨rfl, ⟨nd, rfl⟩⟩; refine ⟨_, rfl, ?_⟩) | ((with_reducible refine gate_callee (f := 79) rfl ?_); refine goesL_ (some 69) rfl rfl Tryd.func79 (by kernel_rfl) rfl #[.int .i64 a0] rfl mp_ ?_; (with_reducible refine (r2_Top.calls kj27 a0 t518 _ A48.out).mono ?_); rintro e w' ⟨rfl, ⟨nd, rfl⟩⟩; refine ⟨_, rfl, ?_⟩) | ((with_reducible refine gate_callee (f := 73) rfl ?_); refine goesL_ (some 75) rfl rfl Tryd.func73 (by kernel_rfl) rfl #[.int .i64 a0, .bool a1] rfl mp_ ?_; (with_reducible refine (r2_Inf.calls kj27 a0 a1 t519 _ A50.out).mono ?_); rintro e w' ⟨rfl, ⟨nd, rfl⟩⟩; refine ⟨_, rfl, ?_⟩))
        go_ret
        exact ⟨by first | rfl | (simp [errW_none, errW_some] <;> rfl) | (simp only [← hji10]; first | rfl | (simp [errW_none, errW_some] <;> rfl)) | (simp [*, errW_none, errW_some] <;> rfl), hb3_ HB.out GE500.out GE501.out GE511.out⟩
       ·rw [if_neg c49] at H
        have c49b0 : decide ((wrap64 ((wrap64 (t517 + t518)) - 2)) < x13_27) = false := decide_eq_false c49
        clear c49
        replace H := ob_ H
        obtain ⟨t520, A510, H⟩ := H
        replace H : ((r2_Two.f kj27 t502).bind fun t521 => (if t520 < t521 then ((r2_Make.f kj27 a0 a1 0 t520).bind fun t522 => (some t522)) else ((r3_Low.f a0).bind fun t523 => ((r2_Two.f kj27 t502).bind fun t524 => ((r2_Make.f kj27 a0 a1 (wrap64 ((wrap64 (x13_27 - t523)) + 1)) (IntKind.u64.wrap (t520 - t524))).bind fun t525 => (some t525)))))) = some r := H
        have A51 := A_ A510;clear A510
        replace H := ob_ H
        obtain ⟨t521, A520, H⟩ := H
        replace H : (if t520 < t521 then ((r2_Make.f kj27 a0 a1 0 t520).bind fun t522 => (some t522)) else ((r3_Low.f a0).bind fun t523 => ((r2_Two.f kj27 t502).bind fun t524 => ((r2_Make.f kj27 a0 a1 (wrap64 ((wrap64 (x13_27 - t523)) + 1)) (IntKind.u64.wrap (t520 - t524))).bind fun t525 => (some t525))))) = some r := H
        have A52 := A_ A520;clear A520
        by_cases c53 : t520 < t521
        ·rw [if_pos c53] at H
         have c53b0 : decide (t520 < t521) = true := decide_eq_true c53
         clear c53
         replace H := ob_ H
         obtain ⟨t522, A540, H⟩ := H
         replace H : (some t522) = some r := H
         have A54 := A_ A540;clear A540
         obtain rfl := Option.some.inj H
         go_wp2_with (first | ((with_reducible refine gate_callee (f := 95) rfl ?_); refine goesL_ (some 67) rfl rfl Tryd.func95 (by kernel_rfl) rfl #[.int .i64 a0] rfl (by (try simp only [List.map_toArray, List.map_cons, List.map_nil]); first | done | rfl | (simp only [List.length_drop, List.length_take]; rfl)) ?_; (with_reducible refine (r3_Low.calls a0 t517 _ A47.out).mono ?_); rintro e w' ⟨rfl, ⟨nd, rfl⟩⟩; refine ⟨_, rfl, ?_⟩) | ((with_reducible refine gate_callee (f := 79) rfl ?_); refine goesL_ (some 69) rfl rfl Tryd.func79 (by kernel_rfl) rfl #[.int .i64 a0] rfl (by (try simp only [List.map_toArray, List.map_cons, List.map_nil]); first | done | rfl | (simp only [List.length_drop, List.length_take]; rfl)) ?_; (with_reducible refine (r2_Top.calls kj27 a0 t518 _ A48.out).mono ?_); rintro e w' ⟨rfl, ⟨nd, rfl⟩⟩; refine ⟨_, rfl, ?_⟩; have hnb55 := NB511_500.out; have hnc55 := NB500_511.out; have hnb56 := NB511_501.out; have hnc56 := NB501_511.out; have hcz57_0 : wc.cell? ⟨gb511, 0, none⟩ = some (u512000) := (blk_cell BK511.out 0).trans rfl; have hfz57_0 := blk_frozen BK511.out 0; obtain ⟨Ao58, co58, eo58⟩ := Kd.R_slice HO_512000.out; subst eo58) | ((with_reducible refine gate_callee (f := 99) rfl ?_); refine goesL_ (some 77) rfl rfl Tryd.func99 (by kernel_rfl) rfl #[.agg #[.slice Ao58 x512000_27.length co58]] rfl (by (try simp only [List.map_toArray, List.map_cons, List.map_nil]); first | done | rfl | (simp only [List.length_drop, List.length_take]; rfl)) ?_; (with_reducible refine (r1_Uint.calls _ _ x512000_27 t520 _ ?side1 ?side2 A51.out).mono ?_); (case side1 => repeat (first | exact (Kd.R_reads' HO_512000.out).2.2 | (with_reducible refine Kd.C_alloc ?_ _) | (with_reducible refine Kd.C_drewN ?_ _) | (with_reducible refine Kd.C_drew ?_))); (case side2 => exact (Kd.R_reads' HO_512000.out).2.1); rintro e w59 ⟨rfl, hb⟩; refine ⟨_, rfl, ?_⟩; have n0_ := Aside0.mk (Kd.R_below (by (with_reducible repeat (first | apply Kd.R_alloc | apply Kd.R_drewN | apply Kd.R_drew)); exact HO_512000.out) hb); have n1_ := Aside0.mk (blk_below (g := gb500) (o := .cells #[.slice A2_0 l2_0.length c2_0] 67 (0, 0)) (by (with_reducible repeat (first | refine blk_drewN ?_ _ | refine blk_drew ?_ | refine blk_alloc ?_ _)); exact BK500.out) hb); have n2_ := Aside0.mk (blk_below (g := gb501) (o := .cells #[.slice A3_0 l3_0.length c3_0] 67 (0, 0)) (by (with_reducible repeat (first | refine blk_drewN ?_ _ | refine blk_drew ?_ | refine blk_alloc ?_ _)); exact BK501.out) hb); have n3_ := Aside0.mk (blk_below (g := gb511) (o := .cells #[.slice Ao58 x512000_27.length co58] 67 (0, 0)) (by (with_reducible repeat (first | refine blk_drewN ?_ _ | refine blk_drew ?_ | refine blk_alloc ?_ _)); exact BK511.out) hb); have n4_ := Aside0.mk (below_step (by repeat (first | (with_reducible first | exact HB.out | apply below_alloc | apply pw_below_drewN | apply below_drew1 | refine below_set ?_ GE500.out | refine below_set ?_ GE501.out | refine below_set ?_ GE511.out) | exact HB.out)) hb); clear HO_512000; clear BK500; clear BK501; clear BK511; clear HB; have HO_512000 := n0_; have BK500 := n1_; have BK501 := n2_; have BK511 := n3_; have HB := n4_; clear n0_ n1_ n2_ n3_ n4_; (try clear hb); (try clear hb2); (try clear hk); (try clear hi)) | ((with_reducible refine gate_callee (f := 69) rfl ?_); refine goesL_ (some 80) rfl rfl Tryd.func69 (by kernel_rfl) rfl #[.int .i64 t502] rfl (by (try simp only [List.map_toArray, List.map_cons, List.map_nil]); first | done | rfl | (simp only [List.length_drop, List.length_take]; rfl)) ?_; (with_reducible refine (r2_Two.calls kj27 t502 t521 _ A52.out).mono ?_); rintro e w' ⟨rfl, ⟨nd, rfl⟩⟩; refine ⟨_, rfl, ?_⟩) | ((with_reducible refine gate_callee (f := 72) rfl ?_); refine goesL_ (some 85) rfl rfl Tryd.func72 (by kernel_rfl) rfl #[.int .i64 a0, .bool a1, .int .i64 0, .int .u64 t520] rfl (by (try simp only [List.map_toArray, List.map_cons, List.map_nil]); first | done | rfl | (simp only [List.length_drop, List.length_take]; rfl)) ?_; (with_reducible refine (r2_Make.calls kj27 a0 a1 0 t520 t522 _ A54.out).mono ?_); rintro e w' ⟨rfl, ⟨nd, rfl⟩⟩; refine ⟨_, rfl, ?_⟩))
         go_ret
         exact ⟨by first | rfl | (simp [errW_none, errW_some] <;> rfl) | (simp only [← hji10]; first | rfl | (simp [errW_none, errW_some] <;> rfl)) | (simp [*, errW_none, errW_some] <;> rfl), hb3_ HB.out GE500.out GE501.out GE511.out⟩
        ·rw [if_neg c53] at H
         have c53b0 : decide (t520 < t521) = false := decide_eq_false c53
         clear c53
         replace H := ob_ H
         obtain ⟨t523, A600, H⟩ := H
         replace H : ((r2_Two.f kj27 t502).bind fun t524 => ((r2_Make.f kj27 a0 a1 (wrap64 ((wrap64 (x13_27 - t523)) + 1)) (IntKind.u64.wrap (t520 - t524))).bind fun t525 => (some t525))) = some r := H
         have A60 := A_ A600;clear A600
         replace H := ob_ H
         obtain ⟨t524, A610, H⟩ := H
         replace H : ((r2_Make.f kj27 a0 a1 (wrap64 ((wrap64 (x13_27 - t523)) + 1)) (IntKind.u64.wrap (t520 - t524))).bind fun t525 => (some t525)) = some r := H
         have A61 := A_ A610;clear A610
         replace H := ob_ H
         obtain ⟨t525, A620, H⟩ := H
         replace H : (some t525) = some r := H
         have A62 := A_ A620;clear A620
         obtain rfl := Option.some.inj H
         go_wp2_with (first | ((with_reducible refine gate_callee (f := 95) rfl ?_); refine goesL_ (some 67) rfl rfl Tryd.func95 (by kernel_rfl) rfl #[.int .i64 a0] rfl (by (try simp only [List.map_toArray, List.map_cons, List.map_nil]); first | done | rfl | (simp only [List.length_drop, List.length_take]; rfl)) ?_; (with_reducible refine (r3_Low.calls a0 t517 _ A47.out).mono ?_); rintro e w' ⟨rfl, ⟨nd, rfl⟩⟩; refine ⟨_, rfl, ?_⟩) | ((with_reducible refine gate_callee (f := 79) rfl ?_); refine goesL_ (some 69) rfl rfl Tryd.func79 (by kernel_rfl) rfl #[.int .i64 a0] rfl (by (try simp only [List.map_toArray, List.map_cons, List.map_nil]); first | done | rfl | (simp only [List.length_drop, List.length_take]; rfl)) ?_; (with_reducible refine (r2_Top.calls kj27 a0 t518 _ A48.out).mono ?_); rintro e w' ⟨rfl, ⟨nd, rfl⟩⟩; refine ⟨_, rfl, ?_⟩; have hnb63 := NB511_500.out; have hnc63 := NB500_511.out; have hnb64 := NB511_501.out; have hnc64 := NB501_511.out; have hcz65_0 : wc.cell? ⟨gb511, 0, none⟩ = some (u512000) := (blk_cell BK511.out 0).trans rfl; have hfz65_0 := blk_frozen BK511.out 0; obtain ⟨Ao66, co66, eo66⟩ := Kd.R_slice HO_512000.out; subst eo66) | ((with_reducible refine gate_callee (f := 99) rfl ?_); refine goesL_ (some 77) rfl rfl Tryd.func99 (by kernel_rfl) rfl #[.agg #[.slice Ao66 x512000_27.length co66]] rfl (by (try simp only [List.map_toArray, List.map_cons, List.map_nil]); first | done | rfl | (simp only [List.length_drop, List.length_take]; rfl)) ?_; (with_reducible refine (r1_Uint.calls _ _ x512000_27 t520 _ ?side1 ?side2 A51.out).mono ?_); (case side1 => repeat (first | exact (Kd.R_reads' HO_512000.out).2.2 | (with_reducible refine Kd.C_alloc ?_ _) | (with_reducible refine Kd.C_drewN ?_ _) | (with_reducible refine Kd.C_drew ?_))); (case side2 => exact (Kd.R_reads' HO_512000.out).2.1); rintro e w67 ⟨rfl, hb⟩; refine ⟨_, rfl, ?_⟩; have n0_ := Aside0.mk (Kd.R_below (by (with_reducible repeat (first | apply Kd.R_alloc | apply Kd.R_drewN | apply Kd.R_drew)); exact HO_512000.out) hb); have n1_ := Aside0.mk (blk_below (g := gb500) (o := .cells #[.slice A2_0 l2_0.length c2_0] 67 (0, 0)) (by (with_reducible repeat (first | refine blk_drewN ?_ _ | refine blk_drew ?_ | refine blk_alloc ?_ _)); exact BK500.out) hb); have n2_ := Aside0.mk (blk_below (g := gb501) (o := .cells #[.slice A3_0 l3_0.length c3_0] 67 (0, 0)) (by (with_reducible repeat (first | refine blk_drewN ?_ _ | refine blk_drew ?_ | refine blk_alloc ?_ _)); exact BK501.out) hb); have n3_ := Aside0.mk (blk_below (g := gb511) (o := .cells #[.slice Ao66 x512000_27.length co66] 67 (0, 0)) (by (with_reducible repeat (first | refine blk_drewN ?_ _ | refine blk_drew ?_ | refine blk_alloc ?_ _)); exact BK511.out) hb); have n4_ := Aside0.mk (below_step (by repeat (first | (with_reducible first | exact HB.out | apply below_alloc | apply pw_below_drewN | apply below_drew1 | refine below_set ?_ GE500.out | refine below_set ?_ GE501.out | refine below_set ?_ GE511.out) | exact HB.out)) hb); clear HO_512000; clear BK500; clear BK501; clear BK511; clear HB; have HO_512000 := n0_; have BK500 := n1_; have BK501 := n2_; have BK511 := n3_; have HB := n4_; clear n0_ n1_ n2_ n3_ n4_; (try clear hb); (try clear hb2); (try clear hk); (try clear hi)) | ((with_reducible refine gate_callee (f := 69) rfl ?_); refine goesL_ (some 80) rfl rfl Tryd.func69 (by kernel_rfl) rfl #[.int .i64 t502] rfl (by (try simp only [List.map_toArray, List.map_cons, List.map_nil]); first | done | rfl | (simp only [List.length_drop, List.length_take]; rfl)) ?_; (with_reducible refine (r2_Two.calls kj27 t502 t521 _ A52.out).mono ?_); rintro e w' ⟨rfl, ⟨nd, rfl⟩⟩; refine ⟨_, rfl, ?_⟩) | ((with_reducible refine gate_callee (f := 95) rfl ?_); refine goesL_ (some 90) rfl rfl Tryd.func95 (by kernel_rfl) rfl #[.int .i64 a0] rfl (by (try simp only [List.map_toArray, List.map_cons, List.map_nil]); first | done | rfl | (simp only [List.length_drop, List.length_take]; rfl)) ?_; (with_reducible refine (r3_Low.calls a0 t523 _ A60.out).mono ?_); rintro e w' ⟨rfl, ⟨nd, rfl⟩⟩; refine ⟨_, rfl, ?_⟩) | ((with_reducible refine gate_callee (f := 69) rfl ?_); refine goesL_ (some 95) rfl rfl Tryd.func69 (by kernel_rfl) rfl #[.int .i64 t502] rfl (by (try simp only [List.map_toArray, List.map_cons, List.map_nil]); first | done | rfl | (simp only [List.length_drop, List.length_take]; rfl)) ?_; (with_reducible refine (r2_Two.calls kj27 t502 t524 _ A61.out).mono ?_); rintro e w' ⟨rfl, ⟨nd, rfl⟩⟩; refine ⟨_, rfl, ?_⟩) | ((with_reducible refine gate_callee (f := 72) rfl ?_); refine goesL_ (some 97) rfl rfl Tryd.func72 (by kernel_rfl) rfl #[.int .i64 a0, .bool a1, .int .i64 (wrap64 ((wrap64 (x13_27 - t523)) + 1)), .int .u64 (IntKind.u64.wrap (t520 - t524))] rfl (by (try simp only [List.map_toArray, List.map_cons, List.map_nil]); first | done | rfl | (simp only [List.length_drop, List.length_take]; rfl)) ?_; (with_reducible refine (r2_Make.calls kj27 a0 a1 (wrap64 ((wrap64 (x13_27 - t523)) + 1)) (IntKind.u64.wrap (t520 - t524)) t525 _ A62.out).mono ?_); rintro e w' ⟨rfl, ⟨nd, rfl⟩⟩; refine ⟨_, rfl, ?_⟩))
         go_ret
         exact ⟨by first | rfl | (simp [errW_none, errW_some] <;> rfl) | (simp only [← hji10]; first | rfl | (simp [errW_none, errW_some] <;> rfl)) | (simp [*, errW_none, errW_some] <;> rfl), hb3_ HB.out GE500.out GE501.out GE511.out⟩
def r3_Exact.j0 : Nat → Int → Bool → Int → Bool → List Int → Option (Int)
 | 0, _, _, _, _, _ => none
 | k + 1, x0, x1, x3, x16, x527000 => if x16 = true then ((r2_Make.f k x0 x1 0 0).bind fun t527 => (some t527)) else (if x3 > 4000 then ((r2_Inf.f k x0 x1).bind fun t528 => (some t528)) else ((r1_Of.f k 1).bind fun t529 => ((r3_Near.f k x0 x1 x527000 t529 x3).bind fun t532 => (some t532))))
def r3_Exact.f (k : Nat) (a0 : Int) (a1 : Bool) (l2_0 : List Int) (a3 : Int) : Option (Int) := if (l2_0.length : Int) = 0 then (r3_Exact.j0 k a0 a1 a3 true l2_0) else (r3_Exact.j0 k a0 a1 a3 (decide (a3 < (-4000))) l2_0)
theorem r3_Exact.mono_l : ∀ k, (∀ y0 y1 y2 y3 y4, LeO (r3_Exact.j0 k y0 y1 y2 y3 y4) (r3_Exact.j0 (k + 1) y0 y1 y2 y3 y4))
 | 0 => fun _ _ _ _ _ r h => by simp [r3_Exact.j0] at h
 | k + 1 => by
  have ih0 := r3_Exact.mono_l k
  ·intro y0 y1 y2 y3 y4
   unfold r3_Exact.j0
   repeat' first
   | (with_reducible exact ih0 _ _ _ _ _)
   | (with_reducible exact r1_Of.mono _ _)
   | (with_reducible exact r2_Inf.mono _ _ _)
   | (with_reducible exact r2_Make.mono _ _ _ _ _)
   | (with_reducible exact r3_Near.mono _ _ _ _ _ _)
   | (with_reducible exact LeO.refl _)
   | (with_reducible exact LeO.none _)
   | (with_reducible refine LeO.ite ?_ ?_)
   | (with_reducible refine LeO.bind ?_ (fun _ => ?_))
   | exact ih0 _ _ _ _ _
   | exact r1_Of.mono _ _
   | exact r2_Inf.mono _ _ _
   | exact r2_Make.mono _ _ _ _ _
   | exact r3_Near.mono _ _ _ _ _ _
   | exact LeO.none _
   | refine LeO.ite ?_ ?_
   | refine LeO.bind ?_ (fun _ => ?_)
theorem r3_Exact.mono : ∀ a0 a1 a2 a3 k, LeO (r3_Exact.f k a0 a1 a2 a3) (r3_Exact.f (k + 1) a0 a1 a2 a3) := by
 intro a0 a1 a2 a3 k
 have ih0 := r3_Exact.mono_l k
 unfold r3_Exact.f
 repeat' first
   | (with_reducible exact ih0 _ _ _ _ _)
   | (with_reducible exact r1_Of.mono _ _)
   | (with_reducible exact r2_Inf.mono _ _ _)
   | (with_reducible exact r2_Make.mono _ _ _ _ _)
   | (with_reducible exact r3_Near.mono _ _ _ _ _ _)
   | (with_reducible exact LeO.refl _)
   | (with_reducible exact LeO.none _)
   | (with_reducible refine LeO.ite ?_ ?_)
   | (with_reducible refine LeO.bind ?_ (fun _ => ?_))
   | exact ih0 _ _ _ _ _
   | exact r1_Of.mono _ _
   | exact r2_Inf.mono _ _ _
   | exact r2_Make.mono _ _ _ _ _
   | exact r3_Near.mono _ _ _ _ _ _
   | exact LeO.none _
   | refine LeO.ite ?_ ?_
   | refine LeO.bind ?_ (fun _ => ?_)
theorem r3_Exact.calls (k : Nat) (a0 : Int) (a1 : Bool) (A2_0 : Option Addr) (c2_0 : Nat) (l2_0 : List Int) (a3 : Int) (r : Int) (w : World) (hr2_0 : Kd.C (Kd.int .u64) w A2_0 l2_0.length l2_0) (hc2_0 : l2_0.length ≤ c2_0) (h : r3_Exact.f k a0 a1 l2_0 a3 = some r) :
  Calls Tryd.prog 56 #[.int .i64 a0, .bool a1, .agg #[.slice A2_0 l2_0.length c2_0], .int .i64 a3] w fun e w' => e = .returned (.int .u64 r) ∧ Below w.heap.size w w' := by
 have hu67 := Tryd.underlying67
 have HR2_0 := A_ hr2_0;have HC2_0 := A_ hc2_0;clear hr2_0 hc2_0
 have HB := A_ (Below.refl w.heap.size w)
 have H : (if (l2_0.length : Int) = 0 then (r3_Exact.j0 k a0 a1 a3 true l2_0) else (r3_Exact.j0 k a0 a1 a3 (decide (a3 < (-4000))) l2_0)) = some r := h
 clear h;have HC5 := A_ H;clear H
 go_enter Tryd.func56, Tryd.ntmps56
 go_upto_region 1 with (first | ((with_reducible refine gate_dst (N := 6) rfl ?_); refine be_ 6 #[.slice A2_0 l2_0.length c2_0] 67 ?_; intro gb526 hg w6 hbox hb; have BK526 := A_ (hbox); have GW526 := A_ (sz_ hg (hb_ HB.out)); have GE526 := A_ (sz_ hg (hb_ HB.out)); replace HB := A_ (below_step (hb_ HB.out) hb); clear hb hbox hg))
 (try simp only [Act.put, lI_, l0_, lS_])
 go_cut [16] (fun v16 wc => ∃ (kq : Nat) (x16_4 : Bool), v16 = .bool x16_4 ∧ Aside0 (r3_Exact.j0 kq a0 a1 a3 x16_4 l2_0 = some r) ∧ Aside0 (kq ≤ k) ∧ Aside0 (wc.heap[gb526]? = some (.cells #[(.slice A2_0 l2_0.length c2_0)] 67 (0, 0))) ∧ Aside0 (Below w.heap.size w wc))
 case first =>
  have H := HC5.out
  clear HC5
  by_cases c7 : (l2_0.length : Int) = 0
  ·rw [if_pos c7] at H
   have c7b0 : ((l2_0.length : Int) == 0) = true := beq_iff_eq.mpr c7
   have c7b1 : ((l2_0.length : Int) != 0) = false := bne_eq_false_iff_eq.mpr c7
   clear c7
   (first | rw [c7b0] | (simp only [i64_w, i32_w]; rw [c7b0]) | skip)
   have H' := A_ H
   clear H
   have hcz8_0 := bv_ BK526.out 0
   have hfz8_0 := blk_frozen BK526.out 0
   go_wp2
   go_meet
   case rel => exact ⟨_, (true), sm_, H', ⟨by first | omega | exact Nat.le_refl _⟩, ⟨bk_ BK526.out⟩, ⟨hb1_ HB.out GE526.out⟩⟩
  ·rw [if_neg c7] at H
   have c7b0 : ((l2_0.length : Int) == 0) = false := beq_eq_false_iff_ne.mpr c7
   have c7b1 : ((l2_0.length : Int) != 0) = true := bne_iff_ne.mpr c7
   have c7b2 : ¬ (l2_0 = []) := fun h_ => c7 (by rw [h_]; rfl)
   (first | rw [c7b0] | (simp only [i64_w, i32_w]; rw [c7b0]) | skip)
   have H' := A_ H
   clear H
   have hcz9_0 := bv_ BK526.out 0
   have hfz9_0 := blk_frozen BK526.out 0
   go_wp2
   go_meet
   case rel => exact ⟨_, (decide (a3 < (-4000))), sm_, H', ⟨by first | omega | exact Nat.le_refl _⟩, ⟨bk_ BK526.out⟩, ⟨hb1_ HB.out GE526.out⟩⟩
 case rest =>
  clear HC5
  try clear c2
  try clear p2
  try clear c5
  try clear c7
  try clear c7b0
  try clear c7b1
  try clear c7b2
  try clear hcz8_0
  try clear hcz9_0
  try clear hfz8_0
  try clear hfz9_0
  obtain ⟨kq, x16_4, rfl, HA, HJ4, BK526, HB⟩ := hcut
  cases kq with
  | zero => exact absurd HA.out (by simp [r3_Exact.j0])
  | succ kj4 =>
   have H := HA.out
   clear HA
   simp only [r3_Exact.j0] at H
   by_cases c10 : x16_4 = true
   ·subst c10
    have H1 : ((r2_Make.f kj4 a0 a1 0 0).bind fun t527 => (some t527)) = some r := by rw [if_pos rfl] at H; exact H
    clear H;have H := H1;clear H1
    replace H := ob_ H
    obtain ⟨t527, A110, H⟩ := H
    replace H : (some t527) = some r := H
    have A11 := A_ A110;clear A110
    obtain rfl := Option.some.inj H
    go_wp2_with (first | ((with_reducible refine gate_callee (f := 72) rfl ?_); refine goesL_ (some 19) rfl rfl Tryd.func72 (by kernel_rfl) rfl #[.int .i64 a0, .bool a1, .int .i64 0, .int .u64 0] rfl mp_ ?_; (with_reducible refine (r2_Make.calls kj4 a0 a1 0 0 t527 _ A11.out).mono ?_); rintro e w' ⟨rfl, ⟨nd, rfl⟩⟩; refine ⟨_, rfl, ?_⟩))
    go_ret
    exact ⟨er_, hb1_ HB.out GE526.out⟩
   ·replace c10 := Bool.eq_false_iff.mpr c10
    subst c10
    have H1 : (if a3 > 4000 then ((r2_Inf.f kj4 a0 a1).bind fun t528 => (some t528)) else ((r1_Of.f kj4 1).bind fun t529 => ((r3_Near.f kj4 a0 a1 l2_0 t529 a3).bind fun t532 => (some t532)))) = some r := by rw [if_neg (show ¬ (false = true) by decide)] at H; exact H
    clear H;have H := H1;clear H1
    by_cases c12 : a3 > 4000
    ·rw [if_pos c12] at H
     have c12b0 : decide (4000 < a3) = true := decide_eq_true c12
     clear c12
     replace H := ob_ H
     obtain ⟨t528, A130, H⟩ := H
     replace H : (some t528) = some r := H
     have A13 := A_ A130;clear A130
     obtain rfl := Option.some.inj H
     go_wp2_with (first | ((with_reducible refine gate_callee (f := 73) rfl ?_); refine goesL_ (some 24) rfl rfl Tryd.func73 (by kernel_rfl) rfl #[.int .i64 a0, .bool a1] rfl mp_ ?_; (with_reducible refine (r2_Inf.calls kj4 a0 a1 t528 _ A13.out).mono ?_); rintro e w' ⟨rfl, ⟨nd, rfl⟩⟩; refine ⟨_, rfl, ?_⟩))
     go_ret
     exact ⟨er_, hb1_ HB.out GE526.out⟩
    ·rw [if_neg c12] at H
     have c12b0 : decide (4000 < a3) = false := decide_eq_false c12
     clear c12
     replace H := ob_ H
     obtain ⟨t529, A140, H⟩ := H
     replace H : ((r3_Near.f kj4 a0 a1 l2_0 t529 a3).bind fun t532 => (some t532)) = some r := H
     have A14 := A_ A140;clear A140
     replace H := ob_ H
     obtain ⟨t532, A150, H⟩ := H
     replace H : (some t532) = some r := H
     have A15 := A_ A150;clear A150
     obtain rfl := Option.some.inj H
     try go_wp2
     replace BK526 := A_ (blk_drew BK526.out)
     replace HB := A_ (below_drew1 HB.out)
     refine start_ (n := 7) (S := fun w' => w'.cell? ⟨gb526, 0, none⟩ = some (.slice A2_0 l2_0.length c2_0)) (ds := []) #[false, false, false, false, false, false, false] (by kernel_rfl) rfl rfl (bc_ BK526.out 0) (fun hHeld => ?_)
     generalize wc.drew = w16 at BK526 HB hHeld ⊢
     refine pu_ 0 (some 25) #[true, false, false, false, false, false, false] rfl rfl (by kernel_rfl) ?_
     refine pu_ 1 (some 26) #[true, true, false, false, false, false, false] rfl rfl (by kernel_rfl) ?_
     refine pu_ 4 (some 29) #[true, true, false, false, true, false, false] rfl rfl (by kernel_rfl) ?_
     refine tk1_ 2 (some 27) #[true, true, true, false, true, false, false] rfl rfl (by kernel_rfl) hHeld ?_
     refine one_ (i := 3) (N := some 28) #[true, true, true, true, true, false, false] rfl rfl (by kernel_rfl) (by decide) (fun K hK => ?_)
     refine goes_ Tryd.func57 (by kernel_rfl) rfl #[.int .u64 1] (by rfl) rfl rfl mp_ ?_
     with_reducible refine (r1_Of.calls kj4 1 t529 _ A14.out).mono ?_
     rintro e w17 ⟨v530, rfl, ho0, hb⟩
     refine ⟨_, rfl, ?_⟩
     have HO531 := A_ (Kd.R_lower ho0 (below_size (hb1_ HB.out GE526.out)))
     replace BK526 := A_ (bb_ BK526.out hb)
     replace HB := A_ (below_step (hb1_ HB.out GE526.out) hb);(try clear hb);(try clear hb2);(try clear hk);(try clear hi);(try clear ho0)
     obtain ⟨Ao18, co18, eo18⟩ := Kd.R_slice HO531.out
     (first | subst eo18 | (injection eo18 with f1_ f2_ f3_; have f4_ := f1_.symm; have f5_ := f3_.symm; clear f1_ f2_ f3_; subst f4_; subst f5_))
     refine hK.out _ _ (bc_ BK526.out 0) (fun hHeld => ?_)
     clear hK K
     refine norm_ (a' := ?_) ?_ ?_
     rotate_left
     ·show Act.put _ (some 28) _ = _
      simp only [Act.put, lI_, l0_, lS_, i64_w, i32_w]
      rfl
     refine one_ (i := 5) (N := some 30) #[true, true, true, true, true, true, false] rfl rfl (by kernel_rfl) (by decide) (fun K hK => ?_)
     refine goes_ Tryd.func74 (by kernel_rfl) rfl #[.int .i64 a0, .bool a1, .agg #[.slice A2_0 l2_0.length c2_0], .agg #[.slice Ao18 t529.length co18], .int .i64 a3] (by rfl) rfl rfl mp_ ?_
     with_reducible refine (r3_Near.calls kj4 a0 a1 _ _ l2_0 _ _ t529 a3 t532 _ ?side1 ?side2 ?side3 ?side4 A15.out).mono ?_
     (case side1 => exact cs_ ((Kd.C_below HR2_0.out HB.out)))
     (case side2 => exact HC2_0.out)
     (case side3 => exact cs_ ((Kd.R_reads' HO531.out).2.2))
     (case side4 => exact (Kd.R_reads' HO531.out).2.1)
     rintro e w19 ⟨rfl, hb⟩
     refine ⟨_, rfl, ?_⟩
     replace HO531 := A_ (Kd.R_below (kr_ HO531.out) hb)
     replace BK526 := A_ (bb_ BK526.out hb)
     replace HB := A_ (below_step (hb1_ HB.out GE526.out) hb);(try clear hb);(try clear hb2);(try clear hk);(try clear hi)
     refine hK.out _ _ (bc_ BK526.out 0) (fun hHeld => ?_)
     clear hK K
     refine norm_ (a' := ?_) ?_ ?_
     rotate_left
     ·show Act.put _ (some 30) _ = _
      simp only [Act.put, lI_, l0_, lS_, i64_w, i32_w]
      rfl
     refine pu_ 6 (some 8) #[true, true, true, true, true, true, true] rfl rfl (by kernel_rfl) ?_
     refine done_ (by kernel_rfl) ?_
     try go_wp2
     go_ret
     exact ⟨er_, hb1_ HB.out GE526.out⟩
def trunnionref11_Signed.f (k : Nat) (a0 : Int) (a1 : Int) : Option (Bool × Int) := (r2_Cut.f a0 a1).bind fun t155 => ((r2_Two.f k (wrap64 (a0 - 1))).bind fun t156 => (if t155 < t156 then (some (false, t155)) else (if a0 = 32 then (some (true, IntKind.u64.wrap (4294967296 - t155))) else (some (true, IntKind.u64.wrap ((IntKind.u64.wrap (18446744073709551615 - t155)) + 1))))))
theorem trunnionref11_Signed.mono : ∀ a0 a1 k, LeO (trunnionref11_Signed.f k a0 a1) (trunnionref11_Signed.f (k + 1) a0 a1) := by
 intro a0 a1 k
 unfold trunnionref11_Signed.f
 repeat' first
   | (with_reducible exact r2_Two.mono _ _)
   | (with_reducible exact LeO.refl _)
   | (with_reducible exact LeO.none _)
   | (with_reducible refine LeO.ite ?_ ?_)
   | (with_reducible refine LeO.bind ?_ (fun _ => ?_))
   | exact r2_Two.mono _ _
   | exact LeO.none _
   | refine LeO.ite ?_ ?_
   | refine LeO.bind ?_ (fun _ => ?_)
theorem trunnionref11_Signed.calls (k : Nat) (a0 : Int) (a1 : Int) (r1 : Bool) (r2 : Int) (w : World) (h : trunnionref11_Signed.f k a0 a1 = some (r1, r2)) :
  Calls Tryd.prog 50 #[.int .i64 a0, .int .u64 a1] w fun e w' => e = .returned (.tuple #[.bool r1, .int .u64 r2]) ∧ Drawn0 w w' := by
 have H : ((r2_Cut.f a0 a1).bind fun t155 => ((r2_Two.f k (wrap64 (a0 - 1))).bind fun t156 => (if t155 < t156 then (some (false, t155)) else (if a0 = 32 then (some (true, IntKind.u64.wrap (4294967296 - t155))) else (some (true, IntKind.u64.wrap ((IntKind.u64.wrap (18446744073709551615 - t155)) + 1))))))) = some (r1, r2) := h
 clear h
 replace H := ob_ H
 obtain ⟨t155, A30, H⟩ := H
 replace H : ((r2_Two.f k (wrap64 (a0 - 1))).bind fun t156 => (if t155 < t156 then (some (false, t155)) else (if a0 = 32 then (some (true, IntKind.u64.wrap (4294967296 - t155))) else (some (true, IntKind.u64.wrap ((IntKind.u64.wrap (18446744073709551615 - t155)) + 1)))))) = some (r1, r2) := H
 have A3 := A_ A30;clear A30
 replace H := ob_ H
 obtain ⟨t156, A40, H⟩ := H
 replace H : (if t155 < t156 then (some (false, t155)) else (if a0 = 32 then (some (true, IntKind.u64.wrap (4294967296 - t155))) else (some (true, IntKind.u64.wrap ((IntKind.u64.wrap (18446744073709551615 - t155)) + 1))))) = some (r1, r2) := H
 have A4 := A_ A40;clear A40
 by_cases c5 : t155 < t156
 ·rw [if_pos c5] at H
  have c5b0 : decide (t155 < t156) = true := decide_eq_true c5
  clear c5
  simp only [Option.some.injEq, Prod.mk.injEq] at H
  obtain ⟨rfl, rfl⟩ := H
  go_enter Tryd.func50, Tryd.ntmps50
  go_wp2_with (first | ((with_reducible refine gate_callee (f := 22) rfl ?_); refine goesL_ (some 8) rfl rfl Tryd.func22 (by kernel_rfl) rfl #[.int .i64 a0, .int .u64 a1] rfl mp_ ?_; (with_reducible refine (r2_Cut.calls a0 a1 t155 _ A3.out).mono ?_); rintro e w' ⟨rfl, ⟨nd, rfl⟩⟩; refine ⟨_, rfl, ?_⟩) | ((with_reducible refine gate_callee (f := 69) rfl ?_); refine goesL_ (some 12) rfl rfl Tryd.func69 (by kernel_rfl) rfl #[.int .i64 (wrap64 (a0 - 1))] rfl mp_ ?_; (with_reducible refine (r2_Two.calls k (wrap64 (a0 - 1)) t156 _ A4.out).mono ?_); rintro e w' ⟨rfl, ⟨nd, rfl⟩⟩; refine ⟨_, rfl, ?_⟩))
  go_ret2
  exact ⟨sm_, by repeat (first | exact Drawn0.refl _ | apply Drawn0.step)⟩
 ·rw [if_neg c5] at H
  have c5b0 : decide (t155 < t156) = false := decide_eq_false c5
  clear c5
  by_cases c6 : a0 = 32
  ·rw [if_pos c6] at H
   have c6b0 : (a0 == 32) = true := beq_iff_eq.mpr c6
   have c6b1 : (a0 != 32) = false := bne_eq_false_iff_eq.mpr c6
   clear c6
   simp only [Option.some.injEq, Prod.mk.injEq] at H
   obtain ⟨rfl, rfl⟩ := H
   go_enter Tryd.func50, Tryd.ntmps50
   go_wp2_with (first | ((with_reducible refine gate_callee (f := 22) rfl ?_); refine goesL_ (some 8) rfl rfl Tryd.func22 (by kernel_rfl) rfl #[.int .i64 a0, .int .u64 a1] rfl mp_ ?_; (with_reducible refine (r2_Cut.calls a0 a1 t155 _ A3.out).mono ?_); rintro e w' ⟨rfl, ⟨nd, rfl⟩⟩; refine ⟨_, rfl, ?_⟩) | ((with_reducible refine gate_callee (f := 69) rfl ?_); refine goesL_ (some 12) rfl rfl Tryd.func69 (by kernel_rfl) rfl #[.int .i64 (wrap64 (a0 - 1))] rfl mp_ ?_; (with_reducible refine (r2_Two.calls k (wrap64 (a0 - 1)) t156 _ A4.out).mono ?_); rintro e w' ⟨rfl, ⟨nd, rfl⟩⟩; refine ⟨_, rfl, ?_⟩))
   go_ret2
   exact ⟨sm_, by repeat (first | exact Drawn0.refl _ | apply Drawn0.step)⟩
  ·rw [if_neg c6] at H
   have c6b0 : (a0 == 32) = false := beq_eq_false_iff_ne.mpr c6
   have c6b1 : (a0 != 32) = true := bne_iff_ne.mpr c6
   simp only [Option.some.injEq, Prod.mk.injEq] at H
   obtain ⟨rfl, rfl⟩ := H
   go_enter Tryd.func50, Tryd.ntmps50
   go_wp2_with (first | ((with_reducible refine gate_callee (f := 22) rfl ?_); refine goesL_ (some 8) rfl rfl Tryd.func22 (by kernel_rfl) rfl #[.int .i64 a0, .int .u64 a1] rfl mp_ ?_; (with_reducible refine (r2_Cut.calls a0 a1 t155 _ A3.out).mono ?_); rintro e w' ⟨rfl, ⟨nd, rfl⟩⟩; refine ⟨_, rfl, ?_⟩) | ((with_reducible refine gate_callee (f := 69) rfl ?_); refine goesL_ (some 12) rfl rfl Tryd.func69 (by kernel_rfl) rfl #[.int .i64 (wrap64 (a0 - 1))] rfl mp_ ?_; (with_reducible refine (r2_Two.calls k (wrap64 (a0 - 1)) t156 _ A4.out).mono ?_); rintro e w' ⟨rfl, ⟨nd, rfl⟩⟩; refine ⟨_, rfl, ?_⟩))
   go_ret2
   exact ⟨sm_, by repeat (first | exact Drawn0.refl _ | apply Drawn0.step)⟩
def trunnionref11_Exact.j0 : Nat → Int → Int → Option (Bool)
 | 0, _, _ => none
 | k + 1, x0, x9 => (r1_Of.f k x9).bind fun t567 => ((r3_Exact.f k x0 false t567 0).bind fun t570 => ((r2_Open.f k x0 t570).bind fun bt571 => (if bt571.2.1 = 0 then (some (x9 == 0)) else ((r1_Of.f k bt571.2.2.2).bind fun t576 => ((r1_Shl.f k t576 (wrap64 (bt571.2.2.1 - (mn bt571.2.2.1 0)))).bind fun t579 => ((r1_Of.f k x9).bind fun t582 => ((r1_Shl.f k t582 (wrap64 (-(mn bt571.2.2.1 0)))).bind fun t585 => ((r1_Cmp.f k t579 t585).bind fun t588 => (some (t588 == 0))))))))))
def trunnionref11_Exact.f (k : Nat) (a0 : Int) (a1 : Int) (a2 : Int) (a3 : Bool) : Option (Bool) := (r2_Cut.f a1 a2).bind fun t564 => (if a3 = true then ((trunnionref11_Signed.f k a1 a2).bind fun bt565 => (trunnionref11_Exact.j0 k a0 bt565.2)) else (trunnionref11_Exact.j0 k a0 t564))
theorem trunnionref11_Exact.mono_l : ∀ k, (∀ y0 y1, LeO (trunnionref11_Exact.j0 k y0 y1) (trunnionref11_Exact.j0 (k + 1) y0 y1))
 | 0 => fun _ _ r h => by simp [trunnionref11_Exact.j0] at h
 | k + 1 => by
  have ih0 := trunnionref11_Exact.mono_l k
  ·intro y0 y1
   unfold trunnionref11_Exact.j0
   repeat' first
   | (with_reducible exact ih0 _ _)
   | (with_reducible exact r1_Cmp.mono _ _ _)
   | (with_reducible exact r1_Of.mono _ _)
   | (with_reducible exact r1_Shl.mono _ _ _)
   | (with_reducible exact r2_Open.mono _ _ _)
   | (with_reducible exact r3_Exact.mono _ _ _ _ _)
   | (with_reducible exact trunnionref11_Signed.mono _ _ _)
   | (with_reducible exact LeO.refl _)
   | (with_reducible exact LeO.none _)
   | (with_reducible refine LeO.ite ?_ ?_)
   | (with_reducible refine LeO.bind ?_ (fun _ => ?_))
   | exact ih0 _ _
   | exact r1_Cmp.mono _ _ _
   | exact r1_Of.mono _ _
   | exact r1_Shl.mono _ _ _
   | exact r2_Open.mono _ _ _
   | exact r3_Exact.mono _ _ _ _ _
   | exact trunnionref11_Signed.mono _ _ _
   | exact LeO.none _
   | refine LeO.ite ?_ ?_
   | refine LeO.bind ?_ (fun _ => ?_)
theorem trunnionref11_Exact.mono : ∀ a0 a1 a2 a3 k, LeO (trunnionref11_Exact.f k a0 a1 a2 a3) (trunnionref11_Exact.f (k + 1) a0 a1 a2 a3) := by
 intro a0 a1 a2 a3 k
 have ih0 := trunnionref11_Exact.mono_l k
 unfold trunnionref11_Exact.f
 repeat' first
   | (with_reducible exact ih0 _ _)
   | (with_reducible exact r1_Cmp.mono _ _ _)
   | (with_reducible exact r1_Of.mono _ _)
   | (with_reducible exact r1_Shl.mono _ _ _)
   | (with_reducible exact r2_Open.mono _ _ _)
   | (with_reducible exact r3_Exact.mono _ _ _ _ _)
   | (with_reducible exact trunnionref11_Signed.mono _ _ _)
   | (with_reducible exact LeO.refl _)
   | (with_reducible exact LeO.none _)
   | (with_reducible refine LeO.ite ?_ ?_)
   | (with_reducible refine LeO.bind ?_ (fun _ => ?_))
   | exact ih0 _ _
   | exact r1_Cmp.mono _ _ _
   | exact r1_Of.mono _ _
   | exact r1_Shl.mono _ _ _
   | exact r2_Open.mono _ _ _
   | exact r3_Exact.mono _ _ _ _ _
   | exact trunnionref11_Signed.mono _ _ _
   | exact LeO.none _
   | refine LeO.ite ?_ ?_
   | refine LeO.bind ?_ (fun _ => ?_)
def trunnionref11_Exact.T8 : Bool × List (List Nat × List Nat) := (true, [([], []), ([0], [0]), ([1], [1]), ([], []), ([3], [3]), ([], []), ([4, 5], [4, 5]), ([2, 6, 2], [2, 6]), ([], []), ([8, 7], [8]), ([], []), ([10], [10]), ([9, 11, 9], [9, 11]), ([7, 12, 12], [7, 12]), ([13], [13]), ([14, 13, 0, 1, 2, 3, 4, 5, 6, 7, 8, 9, 10, 11, 12, 13, 14], [14])])
def trunnionref11_Exact.B8 : List Nat := [0, 1, 3, 0, 8, 0, 56, 127, 0, 511, 0, 1024, 4095, 8191, 16383, 32767]
theorem trunnionref11_Exact.tab8 : rtab .any (opsOf Tryd.f29 8) = trunnionref11_Exact.T8 := by kernel_rfl
theorem trunnionref11_Exact.bits8 : waitsOk trunnionref11_Exact.T8.2 trunnionref11_Exact.B8 = true := by kernel_rfl
theorem trunnionref11_Exact.calls (k : Nat) (a0 : Int) (a1 : Int) (a2 : Int) (a3 : Bool) (r : Bool) (w : World) (h : trunnionref11_Exact.f k a0 a1 a2 a3 = some r) :
  Calls Tryd.prog 29 #[.int .i64 a0, .int .i64 a1, .int .u64 a2, .bool a3] w fun e w' => e = .returned (.bool r) ∧ Below w.heap.size w w' := by
 have hu70 := Tryd.underlying70
 have HB := A_ (Below.refl w.heap.size w)
 have H : ((r2_Cut.f a1 a2).bind fun t564 => (if a3 = true then ((trunnionref11_Signed.f k a1 a2).bind fun bt565 => (trunnionref11_Exact.j0 k a0 bt565.2)) else (trunnionref11_Exact.j0 k a0 t564))) = some r := h
 clear h
 replace H := ob_ H
 obtain ⟨t564, A50, H⟩ := H
 replace H : (if a3 = true then ((trunnionref11_Signed.f k a1 a2).bind fun bt565 => (trunnionref11_Exact.j0 k a0 bt565.2)) else (trunnionref11_Exact.j0 k a0 t564)) = some r := H
 have A5 := A_ A50;clear A50;have HC6 := A_ H;clear H
 go_enter Tryd.func29, Tryd.ntmps29
 go_upto_if 15 with (first | ((with_reducible refine gate_callee (f := 22) rfl ?_); refine goesL_ (some 14) rfl rfl Tryd.func22 (by kernel_rfl) rfl #[.int .i64 a1, .int .u64 a2] rfl mp_ ?_; (with_reducible refine (r2_Cut.calls a1 a2 t564 _ A5.out).mono ?_); rintro e w' ⟨rfl, ⟨nd, rfl⟩⟩; refine ⟨_, rfl, ?_⟩))
 (try simp only [Act.put, lI_, l0_, lS_])
 go_cut [9] (fun v9 wc => ∃ (kq : Nat) (x9_5 : Int), v9 = .int .u64 x9_5 ∧ Aside0 (trunnionref11_Exact.j0 kq a0 x9_5 = some r) ∧ Aside0 (kq ≤ k) ∧ Aside0 (Below w.heap.size w wc))
 case first =>
  have H := HC6.out
  clear HC6
  by_cases c7 : a3 = true
  ·subst c7
   have H1 : ((trunnionref11_Signed.f k a1 a2).bind fun bt565 => (trunnionref11_Exact.j0 k a0 bt565.2)) = some r := by rw [if_pos rfl] at H; exact H
   clear H;have H := H1;clear H1
   replace H := ob_ H
   obtain ⟨⟨t565, t566⟩, A80, H⟩ := H
   replace H : (trunnionref11_Exact.j0 k a0 t566) = some r := H
   have A8 := A_ A80;clear A80
   have H' := A_ H
   clear H
   go_wp2_with (first | ((with_reducible refine gate_callee (f := 50) rfl ?_); refine goesL_ (some 19) rfl rfl Tryd.func50 (by kernel_rfl) rfl #[.int .i64 a1, .int .u64 a2] rfl mp_ ?_; (with_reducible refine (trunnionref11_Signed.calls k a1 a2 t565 t566 _ A8.out).mono ?_); rintro e w' ⟨rfl, ⟨nd, rfl⟩⟩; refine ⟨_, rfl, ?_⟩))
   go_meet
   case rel => exact ⟨_, (t566), sm_, H', ⟨by first | omega | exact Nat.le_refl _⟩, ⟨hb_ HB.out⟩⟩
  ·replace c7 := Bool.eq_false_iff.mpr c7
   subst c7
   have H1 : (trunnionref11_Exact.j0 k a0 t564) = some r := by rw [if_neg (show ¬ (false = true) by decide)] at H; exact H
   clear H;have H := H1;clear H1
   have H' := A_ H
   clear H
   go_wp2
   go_meet
   case rel => exact ⟨_, (t564), sm_, H', ⟨by first | omega | exact Nat.le_refl _⟩, ⟨hb_ HB.out⟩⟩
 case rest =>
  clear HC6
  try clear c2
  try clear p2
  try clear c5
  try clear c7
  obtain ⟨kq, x9_5, rfl, HA, HJ5, HB⟩ := hcut
  cases kq with
  | zero => exact absurd HA.out (by simp [trunnionref11_Exact.j0])
  | succ kj5 =>
   have H := HA.out
   clear HA
   simp only [trunnionref11_Exact.j0] at H
   replace H := ob_ H
   obtain ⟨t567, A90, H⟩ := H
   replace H : ((r3_Exact.f kj5 a0 false t567 0).bind fun t570 => ((r2_Open.f kj5 a0 t570).bind fun bt571 => (if bt571.2.1 = 0 then (some (x9_5 == 0)) else ((r1_Of.f kj5 bt571.2.2.2).bind fun t576 => ((r1_Shl.f kj5 t576 (wrap64 (bt571.2.2.1 - (mn bt571.2.2.1 0)))).bind fun t579 => ((r1_Of.f kj5 x9_5).bind fun t582 => ((r1_Shl.f kj5 t582 (wrap64 (-(mn bt571.2.2.1 0)))).bind fun t585 => ((r1_Cmp.f kj5 t579 t585).bind fun t588 => (some (t588 == 0)))))))))) = some r := H
   have A9 := A_ A90;clear A90
   replace H := ob_ H
   obtain ⟨t570, A100, H⟩ := H
   replace H : ((r2_Open.f kj5 a0 t570).bind fun bt571 => (if bt571.2.1 = 0 then (some (x9_5 == 0)) else ((r1_Of.f kj5 bt571.2.2.2).bind fun t576 => ((r1_Shl.f kj5 t576 (wrap64 (bt571.2.2.1 - (mn bt571.2.2.1 0)))).bind fun t579 => ((r1_Of.f kj5 x9_5).bind fun t582 => ((r1_Shl.f kj5 t582 (wrap64 (-(mn bt571.2.2.1 0)))).bind fun t585 => ((r1_Cmp.f kj5 t579 t585).bind fun t588 => (some (t588 == 0))))))))) = some r := H
   have A10 := A_ A100;clear A100
   replace H := ob_ H
   obtain ⟨⟨t571, t572, t573, t574⟩, A110, H⟩ := H
   replace H : (if t572 = 0 then (some (x9_5 == 0)) else ((r1_Of.f kj5 t574).bind fun t576 => ((r1_Shl.f kj5 t576 (wrap64 (t573 - (mn t573 0)))).bind fun t579 => ((r1_Of.f kj5 x9_5).bind fun t582 => ((r1_Shl.f kj5 t582 (wrap64 (-(mn t573 0)))).bind fun t585 => ((r1_Cmp.f kj5 t579 t585).bind fun t588 => (some (t588 == 0)))))))) = some r := H
   have A11 := A_ A110;clear A110
   by_cases c12 : t572 = 0
   ·rw [if_pos c12] at H
    have c12b0 : (t572 == 0) = true := beq_iff_eq.mpr c12
    have c12b1 : (t572 != 0) = false := bne_eq_false_iff_eq.mpr c12
    clear c12
    obtain rfl := Option.some.inj H
    go_wp2_with (first | ((with_reducible refine gate_callee (f := 57) rfl ?_); refine goesL_ (some 25) rfl rfl Tryd.func57 (by kernel_rfl) rfl #[.int .u64 x9_5] rfl mp_ ?_; (with_reducible refine (r1_Of.calls kj5 x9_5 t567 _ A9.out).mono ?_); rintro e w13 ⟨v568, rfl, ho0, hb⟩; refine ⟨_, rfl, ?_⟩; have HO569 := A_ (Kd.R_lower ho0 (below_size (hb_ HB.out))); replace HB := A_ (below_step (hb_ HB.out) hb); (try clear hb); (try clear hb2); (try clear hk); (try clear hi); (try clear ho0); obtain ⟨Ao14, co14, eo14⟩ := Kd.R_slice HO569.out; subst eo14) | ((with_reducible refine gate_callee (f := 56) rfl ?_); refine goesL_ (some 26) rfl rfl Tryd.func56 (by kernel_rfl) rfl #[.int .i64 a0, .bool false, .agg #[.slice Ao14 t567.length co14], .int .i64 0] rfl mp_ ?_; (with_reducible refine (r3_Exact.calls kj5 a0 false _ _ t567 0 t570 _ ?side1 ?side2 A10.out).mono ?_); (case side1 => exact cs_ ((Kd.R_reads' HO569.out).2.2)); (case side2 => exact (Kd.R_reads' HO569.out).2.1); rintro e w15 ⟨rfl, hb⟩; refine ⟨_, rfl, ?_⟩; replace HO569 := A_ (Kd.R_below (kr_ HO569.out) hb); replace HB := A_ (below_step (hb_ HB.out) hb); (try clear hb); (try clear hb2); (try clear hk); (try clear hi)) | ((with_reducible refine gate_callee (f := 58) rfl ?_); refine goesL_ (some 27) rfl rfl Tryd.func58 (by kernel_rfl) rfl #[.int .i64 a0, .int .u64 t570] rfl mp_ ?_; (with_reducible refine (r2_Open.calls kj5 a0 t570 t571 t572 t573 t574 _ A11.out).mono ?_); rintro e w16 ⟨rfl, hb⟩; refine ⟨_, rfl, ?_⟩; replace HO569 := A_ (Kd.R_below (kr_ HO569.out) hb); replace HB := A_ (below_step (hb_ HB.out) hb); (try clear hb); (try clear hb2); (try clear hk); (try clear hi)) | ((with_reducible refine gate_dst (N := 10) rfl ?_); refine be_ 10 #[.bool false, .int .i64 0, .int .i64 0, .int .u64 0] 70 ?_; intro gb575 hg w17 hbox hb; have BK575 := A_ (hbox); have GW575 := A_ (sz_ hg (hb_ HB.out)); have GE575 := A_ (sz_ hg (hb_ HB.out)); replace HO569 := A_ (Kd.R_below (kr_ HO569.out) hb); replace HB := A_ (below_step (hb_ HB.out) hb); clear hb hbox hg; have hcz18_0 := bv_ BK575.out 0; have hcz18_1 := bv_ BK575.out 1; have hcz18_2 := bv_ BK575.out 2; have hcz18_3 := bv_ BK575.out 3; have hfz18_0 := blk_frozen BK575.out 0; have hfz18_1 := blk_frozen BK575.out 1; have hfz18_2 := blk_frozen BK575.out 2; have hfz18_3 := blk_frozen BK575.out 3))
    go_ret
    exact ⟨er_, hb1_ HB.out GE575.out⟩
   ·rw [if_neg c12] at H
    have c12b0 : (t572 == 0) = false := beq_eq_false_iff_ne.mpr c12
    have c12b1 : (t572 != 0) = true := bne_iff_ne.mpr c12
    obtain ⟨ji19, hji19⟩ : ∃ j_ : Int, (mn t573 0) = j_ := ⟨_, rfl⟩
    replace H : ((r1_Of.f kj5 t574).bind fun t576 => ((r1_Shl.f kj5 t576 (wrap64 (t573 - (ji19)))).bind fun t579 => ((r1_Of.f kj5 x9_5).bind fun t582 => ((r1_Shl.f kj5 t582 (wrap64 (-(ji19)))).bind fun t585 => ((r1_Cmp.f kj5 t579 t585).bind fun t588 => (some (t588 == 0))))))) = some r := by first | (rw [hji19] at H; exact H) | (simp only [hji19] at H ⊢; exact H)
    (try rw [hji19] at A9)
    (try rw [hji19] at A10)
    (try rw [hji19] at A11)
    (try (have hji19h : ji19 ≤ 0 := by (rw [← hji19]; unfold mn; (repeat' split) <;> omega)))
    (try (have hji19g : ji19 ≤ 64 := by omega))
    have hji19_ : (if 0 < t573 then 0 else t573) = ji19 := hji19
    replace H := ob_ H
    obtain ⟨t576, A200, H⟩ := H
    replace H : ((r1_Shl.f kj5 t576 (wrap64 (t573 - (ji19)))).bind fun t579 => ((r1_Of.f kj5 x9_5).bind fun t582 => ((r1_Shl.f kj5 t582 (wrap64 (-(ji19)))).bind fun t585 => ((r1_Cmp.f kj5 t579 t585).bind fun t588 => (some (t588 == 0)))))) = some r := H
    have A20 := A_ A200;clear A200
    replace H := ob_ H
    obtain ⟨t579, A210, H⟩ := H
    replace H : ((r1_Of.f kj5 x9_5).bind fun t582 => ((r1_Shl.f kj5 t582 (wrap64 (-(ji19)))).bind fun t585 => ((r1_Cmp.f kj5 t579 t585).bind fun t588 => (some (t588 == 0))))) = some r := H
    have A21 := A_ A210;clear A210
    replace H := ob_ H
    obtain ⟨t582, A220, H⟩ := H
    replace H : ((r1_Shl.f kj5 t582 (wrap64 (-(ji19)))).bind fun t585 => ((r1_Cmp.f kj5 t579 t585).bind fun t588 => (some (t588 == 0)))) = some r := H
    have A22 := A_ A220;clear A220
    replace H := ob_ H
    obtain ⟨t585, A230, H⟩ := H
    replace H : ((r1_Cmp.f kj5 t579 t585).bind fun t588 => (some (t588 == 0))) = some r := H
    have A23 := A_ A230;clear A230
    replace H := ob_ H
    obtain ⟨t588, A240, H⟩ := H
    replace H : (some (t588 == 0)) = some r := H
    have A24 := A_ A240;clear A240
    obtain rfl := Option.some.inj H
    try go_wp2_with (first | ((with_reducible refine gate_callee (f := 57) rfl ?_); refine goesL_ (some 25) rfl rfl Tryd.func57 (by kernel_rfl) rfl #[.int .u64 x9_5] rfl mp_ ?_; (with_reducible refine (r1_Of.calls kj5 x9_5 t567 _ A9.out).mono ?_); rintro e w25 ⟨v568, rfl, ho0, hb⟩; refine ⟨_, rfl, ?_⟩; have HO569 := A_ (Kd.R_lower ho0 (below_size (hb_ HB.out))); replace HB := A_ (below_step (hb_ HB.out) hb); (try clear hb); (try clear hb2); (try clear hk); (try clear hi); (try clear ho0); obtain ⟨Ao26, co26, eo26⟩ := Kd.R_slice HO569.out; subst eo26) | ((with_reducible refine gate_callee (f := 56) rfl ?_); refine goesL_ (some 26) rfl rfl Tryd.func56 (by kernel_rfl) rfl #[.int .i64 a0, .bool false, .agg #[.slice Ao26 t567.length co26], .int .i64 0] rfl mp_ ?_; (with_reducible refine (r3_Exact.calls kj5 a0 false _ _ t567 0 t570 _ ?side1 ?side2 A10.out).mono ?_); (case side1 => exact cs_ ((Kd.R_reads' HO569.out).2.2)); (case side2 => exact (Kd.R_reads' HO569.out).2.1); rintro e w27 ⟨rfl, hb⟩; refine ⟨_, rfl, ?_⟩; replace HO569 := A_ (Kd.R_below (kr_ HO569.out) hb); replace HB := A_ (below_step (hb_ HB.out) hb); (try clear hb); (try clear hb2); (try clear hk); (try clear hi)) | ((with_reducible refine gate_callee (f := 58) rfl ?_); refine goesL_ (some 27) rfl rfl Tryd.func58 (by kernel_rfl) rfl #[.int .i64 a0, .int .u64 t570] rfl mp_ ?_; (with_reducible refine (r2_Open.calls kj5 a0 t570 t571 t572 t573 t574 _ A11.out).mono ?_); rintro e w28 ⟨rfl, hb⟩; refine ⟨_, rfl, ?_⟩; replace HO569 := A_ (Kd.R_below (kr_ HO569.out) hb); replace HB := A_ (below_step (hb_ HB.out) hb); (try clear hb); (try clear hb2); (try clear hk); (try clear hi)) | ((with_reducible refine gate_dst (N := 10) rfl ?_); refine be_ 10 #[.bool false, .int .i64 0, .int .i64 0, .int .u64 0] 70 ?_; intro gb575 hg w29 hbox hb; have BK575 := A_ (hbox); have GW575 := A_ (sz_ hg (hb_ HB.out)); have GE575 := A_ (sz_ hg (hb_ HB.out)); replace HO569 := A_ (Kd.R_below (kr_ HO569.out) hb); replace HB := A_ (below_step (hb_ HB.out) hb); clear hb hbox hg; have hcz30_0 := bv_ BK575.out 0; have hcz30_1 := bv_ BK575.out 1; have hcz30_2 := bv_ BK575.out 2; have hcz30_3 := bv_ BK575.out 3; have hfz30_0 := blk_frozen BK575.out 0; have hfz30_1 := blk_frozen BK575.out 1; have hfz30_2 := blk_frozen BK575.out 2; have hfz30_3 := blk_frozen BK575.out 3))
    have n0_ : Aside0 (Kd.R (Kd.int .u64) 22 ((((w29.setCell ⟨gb575, 0, none⟩ (.bool t571)).setCell ⟨gb575, 1, none⟩ (.int .i64 t572)).setCell ⟨gb575, 2, none⟩ (.int .i64 t573)).setCell ⟨gb575, 3, none⟩ (.int .u64 t574)) w.heap.size (fun _ => True) (.slice Ao26 t567.length co26) t567) := ⟨by (with_reducible repeat (first | apply Kd.R_alloc | apply Kd.R_drewN | apply Kd.R_drew)); exact Kd.R_mono (Kd.R_far (p := ⟨gb575, 3, none⟩) (Kd.R_far (p := ⟨gb575, 2, none⟩) (Kd.R_far (p := ⟨gb575, 1, none⟩) (Kd.R_far (p := ⟨gb575, 0, none⟩) (Kd.R_types HO569.out BK575.out (by decide)) (fun _ hk => hk.2) (.bool t571)) (fun _ hk => hk.2) (.int .i64 t572)) (fun _ hk => hk.2) (.int .i64 t573)) (fun _ hk => hk.2) (.int .u64 t574)) (fun _ hk => trivial)⟩
    have n1_ : Aside0 (((((w29.setCell ⟨gb575, 0, none⟩ (.bool t571)).setCell ⟨gb575, 1, none⟩ (.int .i64 t572)).setCell ⟨gb575, 2, none⟩ (.int .i64 t573)).setCell ⟨gb575, 3, none⟩ (.int .u64 t574)).heap[gb575]? = some (.cells #[.bool t571, .int .i64 t572, .int .i64 t573, .int .u64 t574] 70 (0, 0))) := ⟨by (with_reducible repeat (first | refine blk_drewN ?_ _ | refine blk_drew ?_ | refine blk_alloc ?_ _)); refine blk_put (cs := #[.bool t571, .int .i64 t572, .int .i64 t573, .int .u64 0]) ?_ 3 _ rfl; (with_reducible repeat (first | refine blk_drewN ?_ _ | refine blk_drew ?_ | refine blk_alloc ?_ _)); refine blk_put (cs := #[.bool t571, .int .i64 t572, .int .i64 0, .int .u64 0]) ?_ 2 _ rfl; (with_reducible repeat (first | refine blk_drewN ?_ _ | refine blk_drew ?_ | refine blk_alloc ?_ _)); refine blk_put (cs := #[.bool t571, .int .i64 0, .int .i64 0, .int .u64 0]) ?_ 1 _ rfl; (with_reducible repeat (first | refine blk_drewN ?_ _ | refine blk_drew ?_ | refine blk_alloc ?_ _)); refine blk_put (cs := #[.bool false, .int .i64 0, .int .i64 0, .int .u64 0]) ?_ 0 _ rfl; (with_reducible repeat (first | refine blk_drewN ?_ _ | refine blk_drew ?_ | refine blk_alloc ?_ _)); exact BK575.out⟩
    have n2_ : Aside0 (Below w.heap.size w ((((w29.setCell ⟨gb575, 0, none⟩ (.bool t571)).setCell ⟨gb575, 1, none⟩ (.int .i64 t572)).setCell ⟨gb575, 2, none⟩ (.int .i64 t573)).setCell ⟨gb575, 3, none⟩ (.int .u64 t574))) := ⟨hb1_ HB.out GE575.out⟩
    (try clear HO569);(try clear BK575);(try clear HB)
    generalize ((((w29.setCell ⟨gb575, 0, none⟩ (.bool t571)).setCell ⟨gb575, 1, none⟩ (.int .i64 t572)).setCell ⟨gb575, 2, none⟩ (.int .i64 t573)).setCell ⟨gb575, 3, none⟩ (.int .u64 t574)) = w31 at n0_ n1_ n2_ ⊢
    have HO569 := n0_;have BK575 := n1_;have HB := n2_;clear n0_ n1_ n2_
    replace HO569 := A_ (Kd.R_drew HO569.out)
    replace BK575 := A_ (blk_drew BK575.out)
    replace HB := A_ (below_drew1 HB.out)
    refine start_ (n := 16) (S := fun w' => w'.cell? ⟨gb575, 0, none⟩ = some (.bool t571) ∧ w'.cell? ⟨gb575, 1, none⟩ = some (.int .i64 t572) ∧ w'.cell? ⟨gb575, 2, none⟩ = some (.int .i64 t573) ∧ w'.cell? ⟨gb575, 3, none⟩ = some (.int .u64 t574)) (ds := []) #[false, false, false, false, false, false, false, false, false, false, false, false, false, false, false, false] (by kernel_rfl) rfl rfl ⟨bc_ BK575.out 0, bc_ BK575.out 1, bc_ BK575.out 2, bc_ BK575.out 3⟩ (fun hHeld => ?_); refine with_tabW trunnionref11_Exact.tab8 trunnionref11_Exact.bits8 (fun HT_ HW_ => ?_)
    generalize w31.drew = w32 at HO569 BK575 HB hHeld ⊢
    refine pu_ 0 (some 36) #[true, false, false, false, false, false, false, false, false, false, false, false, false, false, false, false] rfl rfl (any_of HT_.out (by kernel_rfl)) ?_
    refine pu_ 3 (some 39) #[true, false, false, true, false, false, false, false, false, false, false, false, false, false, false, false] rfl rfl (any_of HT_.out (by kernel_rfl)) ?_
    refine pu_ 5 (some 41) #[true, false, false, true, false, true, false, false, false, false, false, false, false, false, false, false] rfl rfl (any_of HT_.out (by kernel_rfl)) ?_
    refine pu_ 8 (some 44) #[true, false, false, true, false, true, false, false, true, false, false, false, false, false, false, false] rfl rfl (any_of HT_.out (by kernel_rfl)) ?_
    refine pu_ 10 (some 46) #[true, false, false, true, false, true, false, false, true, false, true, false, false, false, false, false] rfl rfl (any_of HT_.out (by kernel_rfl)) ?_
    refine pu_ 11 (some 47) #[true, false, false, true, false, true, false, false, true, false, true, true, false, false, false, false] rfl rfl (any_of HT_.out (by kernel_rfl)) ?_
    refine tk4_ 1 (some 37) #[true, true, false, true, false, true, false, false, true, false, true, true, false, false, false, false] rfl rfl (take_ofW HT_.out HW_.out (by kernel_rfl)) hHeld ?_
    refine tk4_ 4 (some 40) #[true, true, false, true, true, true, false, false, true, false, true, true, false, false, false, false] rfl rfl (take_ofW HT_.out HW_.out (by kernel_rfl)) hHeld ?_
    refine pu_ 6 (some 42) #[true, true, false, true, true, true, true, false, true, false, true, true, false, false, false, false] rfl rfl (any_of HT_.out (by kernel_rfl)) ?_
    refine one_ (i := 2) (N := some 38) #[true, true, true, true, true, true, true, false, true, false, true, true, false, false, false, false] rfl rfl (one_of HT_.out (by kernel_rfl)) (by decide) (fun K hK => ?_)
    refine goes_ Tryd.func57 (by kernel_rfl) rfl #[.int .u64 t574] (by rfl) rfl rfl mp_ ?_
    with_reducible refine (r1_Of.calls kj5 t574 t576 _ A20.out).mono ?_
    rintro e w33 ⟨v577, rfl, ho0, hb⟩
    refine ⟨_, rfl, ?_⟩
    have HO578 := A_ (Kd.R_lower (Kd.R_new' ho0 (Kd.R_lt (kr_ HO569.out))) (below_size (hb1_ HB.out GE575.out)))
    replace HO569 := A_ (Kd.R_elder' (kr_ HO569.out) (Kd.R_base ho0) hb)
    replace BK575 := A_ (bb_ BK575.out hb)
    replace HB := A_ (below_step (hb1_ HB.out GE575.out) hb);(try clear hb);(try clear hb2);(try clear hk);(try clear hi);(try clear ho0)
    obtain ⟨Ao34, co34, eo34⟩ := Kd.R_slice HO578.out
    (first | subst eo34 | (injection eo34 with f1_ f2_ f3_; have f4_ := f1_.symm; have f5_ := f3_.symm; clear f1_ f2_ f3_; subst f4_; subst f5_))
    refine hK.out _ _ ⟨bc_ BK575.out 0, bc_ BK575.out 1, bc_ BK575.out 2, bc_ BK575.out 3⟩ (fun hHeld => ?_)
    clear hK K
    refine norm_ (a' := ?_) ?_ ?_
    rotate_left
    ·show Act.put _ (some 38) _ = _
     simp only [Act.put, lI_, l0_, lS_, i64_w, i32_w]
     rfl
    refine one_ (i := 7) (N := some 43) #[true, true, true, true, true, true, true, true, true, false, true, true, false, false, false, false] rfl rfl (one_of HT_.out (by kernel_rfl)) (by decide) (fun K hK => ?_)
    refine goes_ Tryd.func60 (by kernel_rfl) rfl #[.agg #[.slice Ao34 t576.length co34], .int .i64 (wrap64 (t573 - (ji19)))] (by rfl) rfl rfl (by (try simp only [List.map_toArray, List.map_cons, List.map_nil]); first | done | (simp only [hji19]; rfl) | rfl | (simp only [List.length_drop, List.length_take]; rfl)) ?_
    with_reducible refine (r1_Shl.calls kj5 _ _ t576 (wrap64 (t573 - (ji19))) t579 _ ?side1 ?side2 A21.out).mono ?_
    (case side1 => exact cs_ ((Kd.R_reads' HO578.out).2.2))
    (case side2 => exact (Kd.R_reads' HO578.out).2.1)
    rintro e w35 ⟨v580, rfl, ho0, hb⟩
    refine ⟨_, rfl, ?_⟩
    have HO581 := A_ (Kd.R_lower (Kd.R_new' (Kd.R_new' ho0 (Kd.R_lt (kr_ HO569.out))) (Kd.R_lt (kr_ HO578.out))) (below_size (hb1_ HB.out GE575.out)))
    replace HO569 := A_ (Kd.R_elder' (kr_ HO569.out) (Kd.R_base ho0) hb)
    replace HO578 := A_ (Kd.R_elder' (kr_ HO578.out) (Kd.R_base ho0) hb)
    replace BK575 := A_ (bb_ BK575.out hb)
    replace HB := A_ (below_step (hb1_ HB.out GE575.out) hb);(try clear hb);(try clear hb2);(try clear hk);(try clear hi);(try clear ho0)
    refine hK.out _ _ ⟨bc_ BK575.out 0, bc_ BK575.out 1, bc_ BK575.out 2, bc_ BK575.out 3⟩ (fun hHeld => ?_)
    clear hK K
    refine norm_ (a' := ?_) ?_ ?_
    rotate_left
    ·show Act.put _ (some 43) _ = _
     simp only [Act.put, lI_, l0_, lS_, i64_w, i32_w]
     rfl
    refine one_ (i := 9) (N := some 45) #[true, true, true, true, true, true, true, true, true, true, true, true, false, false, false, false] rfl rfl (one_of HT_.out (by kernel_rfl)) (by decide) (fun K hK => ?_)
    refine goes_ Tryd.func57 (by kernel_rfl) rfl #[.int .u64 x9_5] (by rfl) rfl rfl mp_ ?_
    with_reducible refine (r1_Of.calls kj5 x9_5 t582 _ A22.out).mono ?_
    rintro e w36 ⟨v583, rfl, ho0, hb⟩
    refine ⟨_, rfl, ?_⟩
    have HO584 := A_ (Kd.R_lower (Kd.R_new' (Kd.R_new' (Kd.R_new' ho0 (Kd.R_lt (kr_ HO569.out))) (Kd.R_lt (kr_ HO578.out))) (Kd.R_lt (kr_ HO581.out))) (below_size (hb1_ HB.out GE575.out)))
    replace HO569 := A_ (Kd.R_elder' (kr_ HO569.out) (Kd.R_base ho0) hb)
    replace HO578 := A_ (Kd.R_elder' (kr_ HO578.out) (Kd.R_base ho0) hb)
    replace HO581 := A_ (Kd.R_elder' (kr_ HO581.out) (Kd.R_base ho0) hb)
    replace BK575 := A_ (bb_ BK575.out hb)
    replace HB := A_ (below_step (hb1_ HB.out GE575.out) hb);(try clear hb);(try clear hb2);(try clear hk);(try clear hi);(try clear ho0)
    obtain ⟨Ao37, co37, eo37⟩ := Kd.R_slice HO584.out
    (first | subst eo37 | (injection eo37 with f1_ f2_ f3_; have f4_ := f1_.symm; have f5_ := f3_.symm; clear f1_ f2_ f3_; subst f4_; subst f5_))
    refine hK.out _ _ ⟨bc_ BK575.out 0, bc_ BK575.out 1, bc_ BK575.out 2, bc_ BK575.out 3⟩ (fun hHeld => ?_)
    clear hK K
    refine norm_ (a' := ?_) ?_ ?_
    rotate_left
    ·show Act.put _ (some 45) _ = _
     simp only [Act.put, lI_, l0_, lS_, i64_w, i32_w]
     rfl
    refine one_ (i := 12) (N := some 48) #[true, true, true, true, true, true, true, true, true, true, true, true, true, false, false, false] rfl rfl (one_of HT_.out (by kernel_rfl)) (by decide) (fun K hK => ?_)
    refine goes_ Tryd.func60 (by kernel_rfl) rfl #[.agg #[.slice Ao37 t582.length co37], .int .i64 (wrap64 (-(ji19)))] (by rfl) rfl rfl (by (try simp only [List.map_toArray, List.map_cons, List.map_nil]); first | done | (simp only [hji19]; rfl) | rfl | (simp only [List.length_drop, List.length_take]; rfl)) ?_
    with_reducible refine (r1_Shl.calls kj5 _ _ t582 (wrap64 (-(ji19))) t585 _ ?side1 ?side2 A23.out).mono ?_
    (case side1 => exact cs_ ((Kd.R_reads' HO584.out).2.2))
    (case side2 => exact (Kd.R_reads' HO584.out).2.1)
    rintro e w38 ⟨v586, rfl, ho0, hb⟩
    refine ⟨_, rfl, ?_⟩
    have HO587 := A_ (Kd.R_lower (Kd.R_new' (Kd.R_new' (Kd.R_new' (Kd.R_new' ho0 (Kd.R_lt (kr_ HO569.out))) (Kd.R_lt (kr_ HO578.out))) (Kd.R_lt (kr_ HO581.out))) (Kd.R_lt (kr_ HO584.out))) (below_size (hb1_ HB.out GE575.out)))
    replace HO569 := A_ (Kd.R_elder' (kr_ HO569.out) (Kd.R_base ho0) hb)
    replace HO578 := A_ (Kd.R_elder' (kr_ HO578.out) (Kd.R_base ho0) hb)
    replace HO581 := A_ (Kd.R_elder' (kr_ HO581.out) (Kd.R_base ho0) hb)
    replace HO584 := A_ (Kd.R_elder' (kr_ HO584.out) (Kd.R_base ho0) hb)
    replace BK575 := A_ (bb_ BK575.out hb)
    replace HB := A_ (below_step (hb1_ HB.out GE575.out) hb);(try clear hb);(try clear hb2);(try clear hk);(try clear hi);(try clear ho0)
    obtain ⟨Ao39, co39, eo39⟩ := Kd.R_slice HO581.out
    (first | subst eo39 | (injection eo39 with f1_ f2_ f3_; have f4_ := f1_.symm; have f5_ := f3_.symm; clear f1_ f2_ f3_; subst f4_; subst f5_))
    obtain ⟨Ao40, co40, eo40⟩ := Kd.R_slice HO587.out
    (first | subst eo40 | (injection eo40 with f1_ f2_ f3_; have f4_ := f1_.symm; have f5_ := f3_.symm; clear f1_ f2_ f3_; subst f4_; subst f5_))
    refine hK.out _ _ ⟨bc_ BK575.out 0, bc_ BK575.out 1, bc_ BK575.out 2, bc_ BK575.out 3⟩ (fun hHeld => ?_)
    clear hK K
    refine norm_ (a' := ?_) ?_ ?_
    rotate_left
    ·show Act.put _ (some 48) _ = _
     simp only [Act.put, lI_, l0_, lS_, i64_w, i32_w]
     rfl
    refine one_ (i := 13) (N := some 49) #[true, true, true, true, true, true, true, true, true, true, true, true, true, true, false, false] rfl rfl (one_of HT_.out (by kernel_rfl)) (by decide) (fun K hK => ?_)
    refine goes_ Tryd.func59 (by kernel_rfl) rfl #[.agg #[.slice Ao39 t579.length co39], .agg #[.slice Ao40 t585.length co40]] (by rfl) rfl rfl mp_ ?_
    with_reducible refine (r1_Cmp.calls kj5 _ _ t579 _ _ t585 t588 _ ?side1 ?side2 ?side3 ?side4 A24.out).mono ?_
    (case side1 => exact cs_ ((Kd.R_reads' HO581.out).2.2))
    (case side2 => exact (Kd.R_reads' HO581.out).2.1)
    (case side3 => exact cs_ ((Kd.R_reads' HO587.out).2.2))
    (case side4 => exact (Kd.R_reads' HO587.out).2.1)
    rintro e w41 ⟨rfl, hb⟩
    refine ⟨_, rfl, ?_⟩
    replace HO569 := A_ (Kd.R_below (kr_ HO569.out) hb)
    replace HO578 := A_ (Kd.R_below (kr_ HO578.out) hb)
    replace HO581 := A_ (Kd.R_below (kr_ HO581.out) hb)
    replace HO584 := A_ (Kd.R_below (kr_ HO584.out) hb)
    replace HO587 := A_ (Kd.R_below (kr_ HO587.out) hb)
    replace BK575 := A_ (bb_ BK575.out hb)
    replace HB := A_ (below_step (hb1_ HB.out GE575.out) hb);(try clear hb);(try clear hb2);(try clear hk);(try clear hi)
    refine hK.out _ _ ⟨bc_ BK575.out 0, bc_ BK575.out 1, bc_ BK575.out 2, bc_ BK575.out 3⟩ (fun hHeld => ?_)
    clear hK K
    refine norm_ (a' := ?_) ?_ ?_
    rotate_left
    ·show Act.put _ (some 49) _ = _
     simp only [Act.put, lI_, l0_, lS_, i64_w, i32_w]
     rfl
    refine pu_ 14 (some 50) #[true, true, true, true, true, true, true, true, true, true, true, true, true, true, true, false] rfl rfl (any_of HT_.out (by kernel_rfl)) ?_
    refine pu_ 15 (some 8) #[true, true, true, true, true, true, true, true, true, true, true, true, true, true, true, true] rfl rfl (any_of HT_.out (by kernel_rfl)) ?_
    refine done_ (done_of HT_.out (by kernel_rfl)) ?_
    try go_wp2
    go_ret
    exact ⟨by first | rfl | (simp [errW_none, errW_some] <;> rfl) | (simp only [← hji19]; first | rfl | (simp [errW_none, errW_some] <;> rfl)) | (simp [*, errW_none, errW_some] <;> rfl), hb1_ HB.out GE575.out⟩
def trunnionref11_Make.f (k : Nat) (a0 : Int) (a1 : Int) (a2 : Int) (a3 : Bool) : Option (Int) := (r2_Cut.f a1 a2).bind fun t533 => (if a3 = true then ((trunnionref11_Signed.f k a1 a2).bind fun bt534 => ((r1_Of.f k bt534.2).bind fun t536 => ((r3_Exact.f k a0 bt534.1 t536 0).bind fun t539 => (some t539)))) else ((r1_Of.f k t533).bind fun t540 => ((r3_Exact.f k a0 false t540 0).bind fun t543 => (some t543))))
theorem trunnionref11_Make.mono : ∀ a0 a1 a2 a3 k, LeO (trunnionref11_Make.f k a0 a1 a2 a3) (trunnionref11_Make.f (k + 1) a0 a1 a2 a3) := by
 intro a0 a1 a2 a3 k
 unfold trunnionref11_Make.f
 repeat' first
   | (with_reducible exact r1_Of.mono _ _)
   | (with_reducible exact r3_Exact.mono _ _ _ _ _)
   | (with_reducible exact trunnionref11_Signed.mono _ _ _)
   | (with_reducible exact LeO.refl _)
   | (with_reducible exact LeO.none _)
   | (with_reducible refine LeO.ite ?_ ?_)
   | (with_reducible refine LeO.bind ?_ (fun _ => ?_))
   | exact r1_Of.mono _ _
   | exact r3_Exact.mono _ _ _ _ _
   | exact trunnionref11_Signed.mono _ _ _
   | exact LeO.none _
   | refine LeO.ite ?_ ?_
   | refine LeO.bind ?_ (fun _ => ?_)
theorem trunnionref11_Make.calls (k : Nat) (a0 : Int) (a1 : Int) (a2 : Int) (a3 : Bool) (r : Int) (w : World) (h : trunnionref11_Make.f k a0 a1 a2 a3 = some r) :
  Calls Tryd.prog 28 #[.int .i64 a0, .int .i64 a1, .int .u64 a2, .bool a3] w fun e w' => e = .returned (.int .u64 r) ∧ Below w.heap.size w w' := by
 have HB := A_ (Below.refl w.heap.size w)
 have H : ((r2_Cut.f a1 a2).bind fun t533 => (if a3 = true then ((trunnionref11_Signed.f k a1 a2).bind fun bt534 => ((r1_Of.f k bt534.2).bind fun t536 => ((r3_Exact.f k a0 bt534.1 t536 0).bind fun t539 => (some t539)))) else ((r1_Of.f k t533).bind fun t540 => ((r3_Exact.f k a0 false t540 0).bind fun t543 => (some t543))))) = some r := h
 clear h
 replace H := ob_ H
 obtain ⟨t533, A50, H⟩ := H
 replace H : (if a3 = true then ((trunnionref11_Signed.f k a1 a2).bind fun bt534 => ((r1_Of.f k bt534.2).bind fun t536 => ((r3_Exact.f k a0 bt534.1 t536 0).bind fun t539 => (some t539)))) else ((r1_Of.f k t533).bind fun t540 => ((r3_Exact.f k a0 false t540 0).bind fun t543 => (some t543)))) = some r := H
 have A5 := A_ A50;clear A50
 by_cases c6 : a3 = true
 ·subst c6
  have H1 : ((trunnionref11_Signed.f k a1 a2).bind fun bt534 => ((r1_Of.f k bt534.2).bind fun t536 => ((r3_Exact.f k a0 bt534.1 t536 0).bind fun t539 => (some t539)))) = some r := by rw [if_pos rfl] at H; exact H
  clear H;have H := H1;clear H1
  replace H := ob_ H
  obtain ⟨⟨t534, t535⟩, A70, H⟩ := H
  replace H : ((r1_Of.f k t535).bind fun t536 => ((r3_Exact.f k a0 t534 t536 0).bind fun t539 => (some t539))) = some r := H
  have A7 := A_ A70;clear A70
  replace H := ob_ H
  obtain ⟨t536, A80, H⟩ := H
  replace H : ((r3_Exact.f k a0 t534 t536 0).bind fun t539 => (some t539)) = some r := H
  have A8 := A_ A80;clear A80
  replace H := ob_ H
  obtain ⟨t539, A90, H⟩ := H
  replace H : (some t539) = some r := H
  have A9 := A_ A90;clear A90
  obtain rfl := Option.some.inj H
  go_enter Tryd.func28, Tryd.ntmps28
  go_wp2_with (first | ((with_reducible refine gate_callee (f := 22) rfl ?_); refine goesL_ (some 13) rfl rfl Tryd.func22 (by kernel_rfl) rfl #[.int .i64 a1, .int .u64 a2] rfl mp_ ?_; (with_reducible refine (r2_Cut.calls a1 a2 t533 _ A5.out).mono ?_); rintro e w' ⟨rfl, ⟨nd, rfl⟩⟩; refine ⟨_, rfl, ?_⟩) | ((with_reducible refine gate_callee (f := 50) rfl ?_); refine goesL_ (some 18) rfl rfl Tryd.func50 (by kernel_rfl) rfl #[.int .i64 a1, .int .u64 a2] rfl mp_ ?_; (with_reducible refine (trunnionref11_Signed.calls k a1 a2 t534 t535 _ A7.out).mono ?_); rintro e w' ⟨rfl, ⟨nd, rfl⟩⟩; refine ⟨_, rfl, ?_⟩) | ((with_reducible refine gate_callee (f := 57) rfl ?_); refine goesL_ (some 24) rfl rfl Tryd.func57 (by kernel_rfl) rfl #[.int .u64 t535] rfl mp_ ?_; (with_reducible refine (r1_Of.calls k t535 t536 _ A8.out).mono ?_); rintro e w10 ⟨v537, rfl, ho0, hb⟩; refine ⟨_, rfl, ?_⟩; have HO538 := A_ (Kd.R_lower ho0 (below_size (hb_ HB.out))); replace HB := A_ (below_step (hb_ HB.out) hb); (try clear hb); (try clear hb2); (try clear hk); (try clear hi); (try clear ho0); obtain ⟨Ao11, co11, eo11⟩ := Kd.R_slice HO538.out; subst eo11) | ((with_reducible refine gate_callee (f := 56) rfl ?_); refine goesL_ (some 25) rfl rfl Tryd.func56 (by kernel_rfl) rfl #[.int .i64 a0, .bool t534, .agg #[.slice Ao11 t536.length co11], .int .i64 0] rfl mp_ ?_; (with_reducible refine (r3_Exact.calls k a0 t534 _ _ t536 0 t539 _ ?side1 ?side2 A9.out).mono ?_); (case side1 => exact cs_ ((Kd.R_reads' HO538.out).2.2)); (case side2 => exact (Kd.R_reads' HO538.out).2.1); rintro e w12 ⟨rfl, hb⟩; refine ⟨_, rfl, ?_⟩; replace HO538 := A_ (Kd.R_below (kr_ HO538.out) hb); replace HB := A_ (below_step (hb_ HB.out) hb); (try clear hb); (try clear hb2); (try clear hk); (try clear hi)))
  go_ret
  exact ⟨er_, hb_ HB.out⟩
 ·replace c6 := Bool.eq_false_iff.mpr c6
  subst c6
  have H1 : ((r1_Of.f k t533).bind fun t540 => ((r3_Exact.f k a0 false t540 0).bind fun t543 => (some t543))) = some r := by rw [if_neg (show ¬ (false = true) by decide)] at H; exact H
  clear H;have H := H1;clear H1
  replace H := ob_ H
  obtain ⟨t540, A130, H⟩ := H
  replace H : ((r3_Exact.f k a0 false t540 0).bind fun t543 => (some t543)) = some r := H
  have A13 := A_ A130;clear A130
  replace H := ob_ H
  obtain ⟨t543, A140, H⟩ := H
  replace H : (some t543) = some r := H
  have A14 := A_ A140;clear A140
  obtain rfl := Option.some.inj H
  go_enter Tryd.func28, Tryd.ntmps28
  go_wp2_with (first | ((with_reducible refine gate_callee (f := 22) rfl ?_); refine goesL_ (some 13) rfl rfl Tryd.func22 (by kernel_rfl) rfl #[.int .i64 a1, .int .u64 a2] rfl mp_ ?_; (with_reducible refine (r2_Cut.calls a1 a2 t533 _ A5.out).mono ?_); rintro e w' ⟨rfl, ⟨nd, rfl⟩⟩; refine ⟨_, rfl, ?_⟩) | ((with_reducible refine gate_callee (f := 57) rfl ?_); refine goesL_ (some 24) rfl rfl Tryd.func57 (by kernel_rfl) rfl #[.int .u64 t533] rfl mp_ ?_; (with_reducible refine (r1_Of.calls k t533 t540 _ A13.out).mono ?_); rintro e w15 ⟨v541, rfl, ho0, hb⟩; refine ⟨_, rfl, ?_⟩; have HO542 := A_ (Kd.R_lower ho0 (below_size (hb_ HB.out))); replace HB := A_ (below_step (hb_ HB.out) hb); (try clear hb); (try clear hb2); (try clear hk); (try clear hi); (try clear ho0); obtain ⟨Ao16, co16, eo16⟩ := Kd.R_slice HO542.out; subst eo16) | ((with_reducible refine gate_callee (f := 56) rfl ?_); refine goesL_ (some 25) rfl rfl Tryd.func56 (by kernel_rfl) rfl #[.int .i64 a0, .bool false, .agg #[.slice Ao16 t540.length co16], .int .i64 0] rfl mp_ ?_; (with_reducible refine (r3_Exact.calls k a0 false _ _ t540 0 t543 _ ?side1 ?side2 A14.out).mono ?_); (case side1 => exact cs_ ((Kd.R_reads' HO542.out).2.2)); (case side2 => exact (Kd.R_reads' HO542.out).2.1); rintro e w17 ⟨rfl, hb⟩; refine ⟨_, rfl, ?_⟩; replace HO542 := A_ (Kd.R_below (kr_ HO542.out) hb); replace HB := A_ (below_step (hb_ HB.out) hb); (try clear hb); (try clear hb2); (try clear hk); (try clear hi)))
  go_ret
  exact ⟨er_, hb_ HB.out⟩
end Go.Proofs.YthdeeoallfbjmaaDoor.PA
