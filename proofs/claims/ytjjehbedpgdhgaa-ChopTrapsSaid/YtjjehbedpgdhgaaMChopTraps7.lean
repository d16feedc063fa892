/- What the Go functions that the statement ChopTraps reaches compute, and the mathematics on it, in the order in which one leans on the other; for every input. -/
import Derived.Test.YtjjehbedpgdhgaaVChopTraps0
import Derived.Test.YtjjehbedpgdhgaaMChopTraps0
import Derived.Test.YtjjehbedpgdhgaaMChopTraps2
import Derived.Test.YtjjehbedpgdhgaaMChopTraps6
import Derived.Laws.BitsAllLaws
import Derived.Test.YtjjehbedpgdhgaaMChopTraps3
import Derived.Test.YtjjehbedpgdhgaaMChopTraps1
import Derived.Test.YtjjehbedpgdhgaaMChopTraps4
namespace Go.Proofs.Ytjjehbedpgdhgaa.PA
open Go.RowKit Go.Proofs.YtjjehbedpgdhgaaW.PrintWords Go.Proofs.YtjjehbedpgdhgaaW.PrintLast Go.Proofs.YtjjehbedpgdhgaaW.PrintMore
attribute [local go_sem] max2_int min2_int max_two min_two max_three min_three max_four min_four   -- for this text's walks alone
set_option linter.unusedVariables false
set_option linter.unusedSimpArgs false
set_option maxHeartbeats 8000000
set_option maxRecDepth 100000
mutual
def L12_ChopTraps.j0 : Nat → Int → Int → Int → Int → Int → Int → Int → Int → Bool → Option (Bool)
 | 0, _, _, _, _, _, _, _, _, _ => none
 | k + 1, x1, x5, x6, x7, x8, x9, x567000, x567001, x567002 => (r2_Known.f x567000).bind fun t577 => (if t577 = true then ((r2_Known.f x567001).bind fun t578 => (L12_ChopTraps.j1 k x1 x5 x6 x7 x8 x9 (!t578) x567000 x567001 x567002)) else (L12_ChopTraps.j1 k x1 x5 x6 x7 x8 x9 true x567000 x567001 x567002))
def L12_ChopTraps.j1 : Nat → Int → Int → Int → Int → Int → Int → Bool → Int → Int → Bool → Option (Bool)
 | 0, _, _, _, _, _, _, _, _, _, _ => none
 | k + 1, x1, x5, x6, x7, x8, x9, x90, x567000, x567001, x567002 => if x90 = true then (if x5 = 0 then (if x6 = 0 then (some (x7 == 0)) else (some false)) else (some false)) else ((trunnionref12_Chop.f k x567000 x567001 x1 x567002).bind fun bt579 => (if bt579.1 = 1 then (if x5 = 0 then (if x6 = 4 then (some (x7 == 0)) else (some false)) else (some false)) else (if bt579.1 = 2 then (if x5 = 0 then (if x6 = 3 then (some (x7 == x8)) else (some false)) else (some false)) else (if bt579.1 = 3 then (if x5 = 0 then (if x6 = 3 then (some (x7 == x9)) else (some false)) else (some false)) else (if x5 = bt579.2 then (if x6 = 0 then (some (x7 == bt579.2)) else (some false)) else (some false))))))
end
def L12_ChopTraps.f (k : Nat) (a0_0 : Int) (a0_1 : Int) (a0_2 : Bool) (a1 : Int) : Option (Bool) := (L12_awake.f k).bind fun t567 => (if t567 = true then ((chop_Trap.f k a0_0 a0_1 a1 a0_2).bind fun bt568 => ((chop_Sat.f k a0_0 a0_1 a1 a0_2).bind fun t570 => ((chop_Ends.f a0_1 a0_2).bind fun bt571 => ((r2_Known.f a0_1).bind fun t573 => (if t573 = true then ((trunnionref12_Low.f k a0_1 a0_2).bind fun t574 => (if a0_2 = true then (if bt571.1 = t574 then ((trunnionref12_High.f k a0_1 a0_2).bind fun t575 => (if bt571.2 = t575 then (L12_ChopTraps.j0 k a1 bt568.1 bt568.2 t570 bt571.1 bt571.2 a0_0 a0_1 a0_2) else (some false))) else (some false)) else (if bt571.1 = 0 then ((trunnionref12_High.f k a0_1 a0_2).bind fun t576 => (if bt571.2 = t576 then (L12_ChopTraps.j0 k a1 bt568.1 bt568.2 t570 bt571.1 bt571.2 a0_0 a0_1 a0_2) else (some false))) else (some false)))) else (if bt571.1 = 0 then (if bt571.2 = 0 then (L12_ChopTraps.j0 k a1 bt568.1 bt568.2 t570 bt571.1 bt571.2 a0_0 a0_1 a0_2) else (some false)) else (some false))))))) else (some false))
theorem L12_ChopTraps.mono_l : ∀ k, (∀ y0 y1 y2 y3 y4 y5 y6 y7 y8, LeO (L12_ChopTraps.j0 k y0 y1 y2 y3 y4 y5 y6 y7 y8) (L12_ChopTraps.j0 (k + 1) y0 y1 y2 y3 y4 y5 y6 y7 y8)) ∧ (∀ y0 y1 y2 y3 y4 y5 y6 y7 y8 y9, LeO (L12_ChopTraps.j1 k y0 y1 y2 y3 y4 y5 y6 y7 y8 y9) (L12_ChopTraps.j1 (k + 1) y0 y1 y2 y3 y4 y5 y6 y7 y8 y9))
 | 0 => ⟨fun _ _ _ _ _ _ _ _ _ r h => by simp [L12_ChopTraps.j0] at h, fun _ _ _ _ _ _ _ _ _ _ r h => by simp [L12_ChopTraps.j1] at h⟩
 | k + 1 => by
  obtain ⟨ih0, ih1⟩ := L12_ChopTraps.mono_l k
  refine ⟨?_, ?_⟩
  ·intro y0 y1 y2 y3 y4 y5 y6 y7 y8
   unfold L12_ChopTraps.j0
   repeat' first
   | (with_reducible exact ih0 _ _ _ _ _ _ _ _ _)
   | (with_reducible exact ih1 _ _ _ _ _ _ _ _ _ _)
   | (with_reducible exact chop_Sat.mono _ _ _ _ _)
   | (with_reducible exact chop_Trap.mono _ _ _ _ _)
   | (with_reducible exact L12_awake.mono _)
   | (with_reducible exact trunnionref12_Chop.mono _ _ _ _ _)
   | (with_reducible exact trunnionref12_High.mono _ _ _)
   | (with_reducible exact trunnionref12_Low.mono _ _ _)
   | (with_reducible exact LeO.refl _)
   | (with_reducible exact LeO.none _)
   | (with_reducible refine LeO.ite ?_ ?_)
   | (with_reducible refine LeO.bind ?_ (fun _ => ?_))
   | exact ih0 _ _ _ _ _ _ _ _ _
   | exact ih1 _ _ _ _ _ _ _ _ _ _
   | exact chop_Sat.mono _ _ _ _ _
   | exact chop_Trap.mono _ _ _ _ _
   | exact L12_awake.mono _
   | exact trunnionref12_Chop.mono _ _ _ _ _
   | exact trunnionref12_High.mono _ _ _
   | exact trunnionref12_Low.mono _ _ _
   | exact LeO.none _
   | refine LeO.ite ?_ ?_
   | refine LeO.bind ?_ (fun _ => ?_)
  ·intro y0 y1 y2 y3 y4 y5 y6 y7 y8 y9
   unfold L12_ChopTraps.j1
   repeat' first
   | (with_reducible exact ih0 _ _ _ _ _ _ _ _ _)
   | (with_reducible exact ih1 _ _ _ _ _ _ _ _ _ _)
   | (with_reducible exact chop_Sat.mono _ _ _ _ _)
   | (with_reducible exact chop_Trap.mono _ _ _ _ _)
   | (with_reducible exact L12_awake.mono _)
   | (with_reducible exact trunnionref12_Chop.mono _ _ _ _ _)
   | (with_reducible exact trunnionref12_High.mono _ _ _)
   | (with_reducible exact trunnionref12_Low.mono _ _ _)
   | (with_reducible exact LeO.refl _)
   | (with_reducible exact LeO.none _)
   | (with_reducible refine LeO.ite ?_ ?_)
   | (with_reducible refine LeO.bind ?_ (fun _ => ?_))
   | exact ih0 _ _ _ _ _ _ _ _ _
   | exact ih1 _ _ _ _ _ _ _ _ _ _
   | exact chop_Sat.mono _ _ _ _ _
   | exact chop_Trap.mono _ _ _ _ _
   | exact L12_awake.mono _
   | exact trunnionref12_Chop.mono _ _ _ _ _
   | exact trunnionref12_High.mono _ _ _
   | exact trunnionref12_Low.mono _ _ _
   | exact LeO.none _
   | refine LeO.ite ?_ ?_
   | refine LeO.bind ?_ (fun _ => ?_)
theorem L12_ChopTraps.mono : ∀ a0 a1 a2 a3 k, LeO (L12_ChopTraps.f k a0 a1 a2 a3) (L12_ChopTraps.f (k + 1) a0 a1 a2 a3) := by
 intro a0 a1 a2 a3 k
 obtain ⟨ih0, ih1⟩ := L12_ChopTraps.mono_l k
 unfold L12_ChopTraps.f
 repeat' first
   | (with_reducible exact ih0 _ _ _ _ _ _ _ _ _)
   | (with_reducible exact ih1 _ _ _ _ _ _ _ _ _ _)
   | (with_reducible exact chop_Sat.mono _ _ _ _ _)
   | (with_reducible exact chop_Trap.mono _ _ _ _ _)
   | (with_reducible exact L12_awake.mono _)
   | (with_reducible exact trunnionref12_Chop.mono _ _ _ _ _)
   | (with_reducible exact trunnionref12_High.mono _ _ _)
   | (with_reducible exact trunnionref12_Low.mono _ _ _)
   | (with_reducible exact LeO.refl _)
   | (with_reducible exact LeO.none _)
   | (with_reducible refine LeO.ite ?_ ?_)
   | (with_reducible refine LeO.bind ?_ (fun _ => ?_))
   | exact ih0 _ _ _ _ _ _ _ _ _
   | exact ih1 _ _ _ _ _ _ _ _ _ _
   | exact chop_Sat.mono _ _ _ _ _
   | exact chop_Trap.mono _ _ _ _ _
   | exact L12_awake.mono _
   | exact trunnionref12_Chop.mono _ _ _ _ _
   | exact trunnionref12_High.mono _ _ _
   | exact trunnionref12_Low.mono _ _ _
   | exact LeO.none _
   | refine LeO.ite ?_ ?_
   | refine LeO.bind ?_ (fun _ => ?_)
theorem L12_ChopTraps.calls (k : Nat) (a0_0 : Int) (a0_1 : Int) (a0_2 : Bool) (a1 : Int) (r : Bool) (w : World) (h : L12_ChopTraps.f k a0_0 a0_1 a0_2 a1 = some r) (hr_ : Aside0 (r = true)) :
  Calls Try.prog 6 #[.agg #[.int .i64 a0_0, .int .i64 a0_1, .bool a0_2], .int .u64 a1] w fun e w' => e = .returned (.bool r) ∧ Below w.heap.size w w' := by
 have hu38 := Try.underlying38
 have HB := A_ (Below.refl w.heap.size w)
 have H : ((L12_awake.f k).bind fun t567 => (if t567 = true then ((chop_Trap.f k a0_0 a0_1 a1 a0_2).bind fun bt568 => ((chop_Sat.f k a0_0 a0_1 a1 a0_2).bind fun t570 => ((chop_Ends.f a0_1 a0_2).bind fun bt571 => ((r2_Known.f a0_1).bind fun t573 => (if t573 = true then ((trunnionref12_Low.f k a0_1 a0_2).bind fun t574 => (if a0_2 = true then (if bt571.1 = t574 then ((trunnionref12_High.f k a0_1 a0_2).bind fun t575 => (if bt571.2 = t575 then (L12_ChopTraps.j0 k a1 bt568.1 bt568.2 t570 bt571.1 bt571.2 a0_0 a0_1 a0_2) else (some false))) else (some false)) else (if bt571.1 = 0 then ((trunnionref12_High.f k a0_1 a0_2).bind fun t576 => (if bt571.2 = t576 then (L12_ChopTraps.j0 k a1 bt568.1 bt568.2 t570 bt571.1 bt571.2 a0_0 a0_1 a0_2) else (some false))) else (some false)))) else (if bt571.1 = 0 then (if bt571.2 = 0 then (L12_ChopTraps.j0 k a1 bt568.1 bt568.2 t570 bt571.1 bt571.2 a0_0 a0_1 a0_2) else (some false)) else (some false))))))) else (some false))) = some r := h
 clear h
 replace H := ob_ H
 obtain ⟨t567, A30, H⟩ := H
 replace H : (if t567 = true then ((chop_Trap.f k a0_0 a0_1 a1 a0_2).bind fun bt568 => ((chop_Sat.f k a0_0 a0_1 a1 a0_2).bind fun t570 => ((chop_Ends.f a0_1 a0_2).bind fun bt571 => ((r2_Known.f a0_1).bind fun t573 => (if t573 = true then ((trunnionref12_Low.f k a0_1 a0_2).bind fun t574 => (if a0_2 = true then (if bt571.1 = t574 then ((trunnionref12_High.f k a0_1 a0_2).bind fun t575 => (if bt571.2 = t575 then (L12_ChopTraps.j0 k a1 bt568.1 bt568.2 t570 bt571.1 bt571.2 a0_0 a0_1 a0_2) else (some false))) else (some false)) else (if bt571.1 = 0 then ((trunnionref12_High.f k a0_1 a0_2).bind fun t576 => (if bt571.2 = t576 then (L12_ChopTraps.j0 k a1 bt568.1 bt568.2 t570 bt571.1 bt571.2 a0_0 a0_1 a0_2) else (some false))) else (some false)))) else (if bt571.1 = 0 then (if bt571.2 = 0 then (L12_ChopTraps.j0 k a1 bt568.1 bt568.2 t570 bt571.1 bt571.2 a0_0 a0_1 a0_2) else (some false)) else (some false))))))) else (some false)) = some r := H
 have A3 := A_ A30;clear A30
 by_cases c4 : t567 = true
 ·subst c4
  have H1 : ((chop_Trap.f k a0_0 a0_1 a1 a0_2).bind fun bt568 => ((chop_Sat.f k a0_0 a0_1 a1 a0_2).bind fun t570 => ((chop_Ends.f a0_1 a0_2).bind fun bt571 => ((r2_Known.f a0_1).bind fun t573 => (if t573 = true then ((trunnionref12_Low.f k a0_1 a0_2).bind fun t574 => (if a0_2 = true then (if bt571.1 = t574 then ((trunnionref12_High.f k a0_1 a0_2).bind fun t575 => (if bt571.2 = t575 then (L12_ChopTraps.j0 k a1 bt568.1 bt568.2 t570 bt571.1 bt571.2 a0_0 a0_1 a0_2) else (some false))) else (some false)) else (if bt571.1 = 0 then ((trunnionref12_High.f k a0_1 a0_2).bind fun t576 => (if bt571.2 = t576 then (L12_ChopTraps.j0 k a1 bt568.1 bt568.2 t570 bt571.1 bt571.2 a0_0 a0_1 a0_2) else (some false))) else (some false)))) else (if bt571.1 = 0 then (if bt571.2 = 0 then (L12_ChopTraps.j0 k a1 bt568.1 bt568.2 t570 bt571.1 bt571.2 a0_0 a0_1 a0_2) else (some false)) else (some false))))))) = some r := by rw [if_pos rfl] at H; exact H
  clear H;have H := H1;clear H1
  replace H := ob_ H
  obtain ⟨⟨t568, t569⟩, A50, H⟩ := H
  replace H : ((chop_Sat.f k a0_0 a0_1 a1 a0_2).bind fun t570 => ((chop_Ends.f a0_1 a0_2).bind fun bt571 => ((r2_Known.f a0_1).bind fun t573 => (if t573 = true then ((trunnionref12_Low.f k a0_1 a0_2).bind fun t574 => (if a0_2 = true then (if bt571.1 = t574 then ((trunnionref12_High.f k a0_1 a0_2).bind fun t575 => (if bt571.2 = t575 then (L12_ChopTraps.j0 k a1 t568 t569 t570 bt571.1 bt571.2 a0_0 a0_1 a0_2) else (some false))) else (some false)) else (if bt571.1 = 0 then ((trunnionref12_High.f k a0_1 a0_2).bind fun t576 => (if bt571.2 = t576 then (L12_ChopTraps.j0 k a1 t568 t569 t570 bt571.1 bt571.2 a0_0 a0_1 a0_2) else (some false))) else (some false)))) else (if bt571.1 = 0 then (if bt571.2 = 0 then (L12_ChopTraps.j0 k a1 t568 t569 t570 bt571.1 bt571.2 a0_0 a0_1 a0_2) else (some false)) else (some false)))))) = some r := H
  have A5 := A_ A50;clear A50
  replace H := ob_ H
  obtain ⟨t570, A60, H⟩ := H
  replace H : ((chop_Ends.f a0_1 a0_2).bind fun bt571 => ((r2_Known.f a0_1).bind fun t573 => (if t573 = true then ((trunnionref12_Low.f k a0_1 a0_2).bind fun t574 => (if a0_2 = true then (if bt571.1 = t574 then ((trunnionref12_High.f k a0_1 a0_2).bind fun t575 => (if bt571.2 = t575 then (L12_ChopTraps.j0 k a1 t568 t569 t570 bt571.1 bt571.2 a0_0 a0_1 a0_2) else (some false))) else (some false)) else (if bt571.1 = 0 then ((trunnionref12_High.f k a0_1 a0_2).bind fun t576 => (if bt571.2 = t576 then (L12_ChopTraps.j0 k a1 t568 t569 t570 bt571.1 bt571.2 a0_0 a0_1 a0_2) else (some false))) else (some false)))) else (if bt571.1 = 0 then (if bt571.2 = 0 then (L12_ChopTraps.j0 k a1 t568 t569 t570 bt571.1 bt571.2 a0_0 a0_1 a0_2) else (some false)) else (some false))))) = some r := H
  have A6 := A_ A60;clear A60
  replace H := ob_ H
  obtain ⟨⟨t571, t572⟩, A70, H⟩ := H
  replace H : ((r2_Known.f a0_1).bind fun t573 => (if t573 = true then ((trunnionref12_Low.f k a0_1 a0_2).bind fun t574 => (if a0_2 = true then (if t571 = t574 then ((trunnionref12_High.f k a0_1 a0_2).bind fun t575 => (if t572 = t575 then (L12_ChopTraps.j0 k a1 t568 t569 t570 t571 t572 a0_0 a0_1 a0_2) else (some false))) else (some false)) else (if t571 = 0 then ((trunnionref12_High.f k a0_1 a0_2).bind fun t576 => (if t572 = t576 then (L12_ChopTraps.j0 k a1 t568 t569 t570 t571 t572 a0_0 a0_1 a0_2) else (some false))) else (some false)))) else (if t571 = 0 then (if t572 = 0 then (L12_ChopTraps.j0 k a1 t568 t569 t570 t571 t572 a0_0 a0_1 a0_2) else (some false)) else (some false)))) = some r := H
  have A7 := A_ A70;clear A70
  replace H := ob_ H
  obtain ⟨t573, A80, H⟩ := H
  replace H : (if t573 = true then ((trunnionref12_Low.f k a0_1 a0_2).bind fun t574 => (if a0_2 = true then (if t571 = t574 then ((trunnionref12_High.f k a0_1 a0_2).bind fun t575 => (if t572 = t575 then (L12_ChopTraps.j0 k a1 t568 t569 t570 t571 t572 a0_0 a0_1 a0_2) else (some false))) else (some false)) else (if t571 = 0 then ((trunnionref12_High.f k a0_1 a0_2).bind fun t576 => (if t572 = t576 then (L12_ChopTraps.j0 k a1 t568 t569 t570 t571 t572 a0_0 a0_1 a0_2) else (some false))) else (some false)))) else (if t571 = 0 then (if t572 = 0 then (L12_ChopTraps.j0 k a1 t568 t569 t570 t571 t572 a0_0 a0_1 a0_2) else (some false)) else (some false))) = some r := H
  have A8 := A_ A80;clear A80;have HC9 := A_ H;clear H
  go_enter Try.func6, Try.ntmps6
  go_upto_if 44 with (first | ((with_reducible refine gate_dst (N := 2) rfl ?_); refine be_ 2 #[.int .i64 a0_0, .int .i64 a0_1, .bool a0_2] 38 ?_; intro gb566 hg w10 hbox hb; have BK566 := A_ (hbox); have GW566 := A_ (sz_ hg (hb_ HB.out)); have GE566 := A_ (sz_ hg (hb_ HB.out)); replace HB := A_ (below_step (hb_ HB.out) hb); clear hb hbox hg) | ((with_reducible refine gate_callee (f := 21) rfl ?_); refine gl_ (some 13) Try.func21 #[] ?_; (with_reducible refine (L12_awake.calls k  true _ A3.out).mono ?_); rintro e w11 ⟨rfl, hb⟩; refine ⟨_, rfl, ?_⟩; replace BK566 := A_ (bb_ BK566.out hb); replace HB := A_ (below_step (hb1_ HB.out GE566.out) hb); (try clear hb); (try clear hb2); (try clear hk); (try clear hi); have hcz12_0 := bv_ BK566.out 0; have hcz12_1 := bv_ BK566.out 1; have hcz12_2 := bv_ BK566.out 2; have hfz12_0 := blk_frozen BK566.out 0; have hfz12_1 := blk_frozen BK566.out 1; have hfz12_2 := blk_frozen BK566.out 2) | ((with_reducible refine gate_callee (f := 22) rfl ?_); refine gl_ (some 23) Try.func22 #[.int .i64 a0_0, .int .i64 a0_1, .int .u64 a1, .bool a0_2] ?_; (with_reducible refine (chop_Trap.calls k a0_0 a0_1 a1 a0_2 t568 t569 _ A5.out).mono ?_); rintro e w13 ⟨rfl, hb⟩; refine ⟨_, rfl, ?_⟩; replace BK566 := A_ (bb_ BK566.out hb); replace HB := A_ (below_step (hb1_ HB.out GE566.out) hb); (try clear hb); (try clear hb2); (try clear hk); (try clear hi); have hcz14_0 := bv_ BK566.out 0; have hcz14_1 := bv_ BK566.out 1; have hcz14_2 := bv_ BK566.out 2; have hfz14_0 := blk_frozen BK566.out 0; have hfz14_1 := blk_frozen BK566.out 1; have hfz14_2 := blk_frozen BK566.out 2) | ((with_reducible refine gate_callee (f := 23) rfl ?_); refine gl_ (some 33) Try.func23 #[.int .i64 a0_0, .int .i64 a0_1, .int .u64 a1, .bool a0_2] ?_; (with_reducible refine (chop_Sat.calls k a0_0 a0_1 a1 a0_2 t570 _ A6.out).mono ?_); rintro e w15 ⟨rfl, hb⟩; refine ⟨_, rfl, ?_⟩; replace BK566 := A_ (bb_ BK566.out hb); replace HB := A_ (below_step (hb1_ HB.out GE566.out) hb); (try clear hb); (try clear hb2); (try clear hk); (try clear hi); have hcz16_0 := bv_ BK566.out 0; have hcz16_1 := bv_ BK566.out 1; have hcz16_2 := bv_ BK566.out 2; have hfz16_0 := blk_frozen BK566.out 0; have hfz16_1 := blk_frozen BK566.out 1; have hfz16_2 := blk_frozen BK566.out 2) | ((with_reducible refine gate_callee (f := 24) rfl ?_); refine gl_ (some 39) Try.func24 #[.int .i64 a0_1, .bool a0_2] ?_; (with_reducible refine (chop_Ends.calls a0_1 a0_2 t571 t572 _ A7.out).mono ?_); rintro e w' ⟨rfl, ⟨nd, rfl⟩⟩; refine ⟨_, rfl, ?_⟩) | ((with_reducible refine gate_callee (f := 10) rfl ?_); refine gl_ (some 44) Try.func10 #[.int .i64 a0_1] ?_; (with_reducible refine (r2_Known.calls a0_1 t573 _ A8.out).mono ?_); rintro e w' ⟨rfl, ⟨nd, rfl⟩⟩; refine ⟨_, rfl, ?_⟩))
  (try simp only [Act.put, lI_, l0_, lS_])
  go_cut [] (fun wc => ∃ (kq : Nat), Aside0 (L12_ChopTraps.j0 kq a1 t568 t569 t570 t571 t572 a0_0 a0_1 a0_2 = some r) ∧ Aside0 (kq ≤ k) ∧ Aside0 (wc.heap[gb566]? = some (.cells #[.int .i64 a0_0, .int .i64 a0_1, .bool a0_2] 38 (0, 0))) ∧ Aside0 (Below w.heap.size w wc))
  case first =>
   have H := HC9.out
   clear HC9
   by_cases c17 : t573 = true
   ·subst c17
    have H1 : ((trunnionref12_Low.f k a0_1 a0_2).bind fun t574 => (if a0_2 = true then (if t571 = t574 then ((trunnionref12_High.f k a0_1 a0_2).bind fun t575 => (if t572 = t575 then (L12_ChopTraps.j0 k a1 t568 t569 t570 t571 t572 a0_0 a0_1 a0_2) else (some false))) else (some false)) else (if t571 = 0 then ((trunnionref12_High.f k a0_1 a0_2).bind fun t576 => (if t572 = t576 then (L12_ChopTraps.j0 k a1 t568 t569 t570 t571 t572 a0_0 a0_1 a0_2) else (some false))) else (some false)))) = some r := by rw [if_pos rfl] at H; exact H
    clear H;have H := H1;clear H1
    replace H := ob_ H
    obtain ⟨t574, A180, H⟩ := H
    replace H : (if a0_2 = true then (if t571 = t574 then ((trunnionref12_High.f k a0_1 a0_2).bind fun t575 => (if t572 = t575 then (L12_ChopTraps.j0 k a1 t568 t569 t570 t571 t572 a0_0 a0_1 a0_2) else (some false))) else (some false)) else (if t571 = 0 then ((trunnionref12_High.f k a0_1 a0_2).bind fun t576 => (if t572 = t576 then (L12_ChopTraps.j0 k a1 t568 t569 t570 t571 t572 a0_0 a0_1 a0_2) else (some false))) else (some false))) = some r := H
    have A18 := A_ A180;clear A180
    by_cases c19 : a0_2 = true
    ·subst c19
     have H1 : (if t571 = t574 then ((trunnionref12_High.f k a0_1 true).bind fun t575 => (if t572 = t575 then (L12_ChopTraps.j0 k a1 t568 t569 t570 t571 t572 a0_0 a0_1 true) else (some false))) else (some false)) = some r := by rw [if_pos rfl] at H; exact H
     clear H;have H := H1;clear H1
     by_cases c20 : t571 = t574
     ·rw [if_pos c20] at H
      have c20b0 : (t571 == t574) = true := beq_iff_eq.mpr c20
      have c20b1 : (t571 != t574) = false := bne_eq_false_iff_eq.mpr c20
      clear c20
      (first | rw [c20b0] | (simp only [i64_w, i32_w]; rw [c20b0]) | skip)
      replace H := ob_ H
      obtain ⟨t575, A210, H⟩ := H
      replace H : (if t572 = t575 then (L12_ChopTraps.j0 k a1 t568 t569 t570 t571 t572 a0_0 a0_1 true) else (some false)) = some r := H
      have A21 := A_ A210;clear A210
      by_cases c22 : t572 = t575
      ·rw [if_pos c22] at H
       have c22b0 : (t572 == t575) = true := beq_iff_eq.mpr c22
       have c22b1 : (t572 != t575) = false := bne_eq_false_iff_eq.mpr c22
       clear c22
       have H' := A_ H
       clear H
       have hcz23_0 := bv_ BK566.out 0
       have hcz23_1 := bv_ BK566.out 1
       have hcz23_2 := bv_ BK566.out 2
       have hfz23_0 := blk_frozen BK566.out 0
       have hfz23_1 := blk_frozen BK566.out 1
       have hfz23_2 := blk_frozen BK566.out 2
       go_wp2_with (first | ((with_reducible refine gate_callee (f := 25) rfl ?_); refine gl_ (some 49) Try.func25 #[.int .i64 a0_1, .bool true] ?_; (with_reducible refine (trunnionref12_Low.calls k a0_1 true t574 _ A18.out).mono ?_); rintro e w' ⟨rfl, ⟨nd, rfl⟩⟩; refine ⟨_, rfl, ?_⟩) | (go_at_call 26; (with_reducible refine (trunnionref12_High.calls k a0_1 true t575 _ A21.out).mono ?_); rintro e w' ⟨rfl, ⟨nd, rfl⟩⟩))
       go_meet
       case rel => exact ⟨_, H', ⟨by first | omega | exact Nat.le_refl _⟩, ⟨bk_ BK566.out⟩, ⟨hb1_ HB.out GE566.out⟩⟩
      ·rw [if_neg c22] at H
       have c22b0 : (t572 == t575) = false := beq_eq_false_iff_ne.mpr c22
       have c22b1 : (t572 != t575) = true := bne_iff_ne.mpr c22
       exact absurd ((Option.some.inj H).trans hr_.out) (by decide)
     ·rw [if_neg c20] at H
      have c20b0 : (t571 == t574) = false := beq_eq_false_iff_ne.mpr c20
      have c20b1 : (t571 != t574) = true := bne_iff_ne.mpr c20
      (first | rw [c20b0] | (simp only [i64_w, i32_w]; rw [c20b0]) | skip)
      exact absurd ((Option.some.inj H).trans hr_.out) (by decide)
    ·replace c19 := Bool.eq_false_iff.mpr c19
     subst c19
     have H1 : (if t571 = 0 then ((trunnionref12_High.f k a0_1 false).bind fun t576 => (if t572 = t576 then (L12_ChopTraps.j0 k a1 t568 t569 t570 t571 t572 a0_0 a0_1 false) else (some false))) else (some false)) = some r := by rw [if_neg (show ¬ (false = true) by decide)] at H; exact H
     clear H;have H := H1;clear H1
     by_cases c24 : t571 = 0
     ·rw [if_pos c24] at H
      have c24b0 : (t571 == 0) = true := beq_iff_eq.mpr c24
      have c24b1 : (t571 != 0) = false := bne_eq_false_iff_eq.mpr c24
      clear c24
      replace H := ob_ H
      obtain ⟨t576, A250, H⟩ := H
      replace H : (if t572 = t576 then (L12_ChopTraps.j0 k a1 t568 t569 t570 t571 t572 a0_0 a0_1 false) else (some false)) = some r := H
      have A25 := A_ A250;clear A250
      by_cases c26 : t572 = t576
      ·rw [if_pos c26] at H
       have c26b0 : (t572 == t576) = true := beq_iff_eq.mpr c26
       have c26b1 : (t572 != t576) = false := bne_eq_false_iff_eq.mpr c26
       clear c26
       have H' := A_ H
       clear H
       have hcz27_0 := bv_ BK566.out 0
       have hcz27_1 := bv_ BK566.out 1
       have hcz27_2 := bv_ BK566.out 2
       have hfz27_0 := blk_frozen BK566.out 0
       have hfz27_1 := blk_frozen BK566.out 1
       have hfz27_2 := blk_frozen BK566.out 2
       go_wp2_with (first | ((with_reducible refine gate_callee (f := 25) rfl ?_); refine gl_ (some 49) Try.func25 #[.int .i64 a0_1, .bool false] ?_; (with_reducible refine (trunnionref12_Low.calls k a0_1 false t574 _ A18.out).mono ?_); rintro e w' ⟨rfl, ⟨nd, rfl⟩⟩; refine ⟨_, rfl, ?_⟩) | (go_at_call 26; (with_reducible refine (trunnionref12_High.calls k a0_1 false t576 _ A25.out).mono ?_); rintro e w' ⟨rfl, ⟨nd, rfl⟩⟩))
       go_meet
       case rel => exact ⟨_, H', ⟨by first | omega | exact Nat.le_refl _⟩, ⟨bk_ BK566.out⟩, ⟨hb1_ HB.out GE566.out⟩⟩
      ·rw [if_neg c26] at H
       have c26b0 : (t572 == t576) = false := beq_eq_false_iff_ne.mpr c26
       have c26b1 : (t572 != t576) = true := bne_iff_ne.mpr c26
       exact absurd ((Option.some.inj H).trans hr_.out) (by decide)
     ·rw [if_neg c24] at H
      have c24b0 : (t571 == 0) = false := beq_eq_false_iff_ne.mpr c24
      have c24b1 : (t571 != 0) = true := bne_iff_ne.mpr c24
      exact absurd ((Option.some.inj H).trans hr_.out) (by decide)
   ·replace c17 := Bool.eq_false_iff.mpr c17
    subst c17
    have H1 : (if t571 = 0 then (if t572 = 0 then (L12_ChopTraps.j0 k a1 t568 t569 t570 t571 t572 a0_0 a0_1 a0_2) else (some false)) else (some false)) = some r := by rw [if_neg (show ¬ (false = true) by decide)] at H; exact H
    clear H;have H := H1;clear H1
    by_cases c28 : t571 = 0
    ·rw [if_pos c28] at H
     have c28b0 : (t571 == 0) = true := beq_iff_eq.mpr c28
     have c28b1 : (t571 != 0) = false := bne_eq_false_iff_eq.mpr c28
     clear c28
     by_cases c29 : t572 = 0
     ·rw [if_pos c29] at H
      have c29b0 : (t572 == 0) = true := beq_iff_eq.mpr c29
      have c29b1 : (t572 != 0) = false := bne_eq_false_iff_eq.mpr c29
      clear c29
      have H' := A_ H
      clear H
      go_wp2
      go_meet
      case rel => exact ⟨_, H', ⟨by first | omega | exact Nat.le_refl _⟩, ⟨bk_ BK566.out⟩, ⟨hb1_ HB.out GE566.out⟩⟩
     ·rw [if_neg c29] at H
      have c29b0 : (t572 == 0) = false := beq_eq_false_iff_ne.mpr c29
      have c29b1 : (t572 != 0) = true := bne_iff_ne.mpr c29
      exact absurd ((Option.some.inj H).trans hr_.out) (by decide)
    ·rw [if_neg c28] at H
     have c28b0 : (t571 == 0) = false := beq_eq_false_iff_ne.mpr c28
     have c28b1 : (t571 != 0) = true := bne_iff_ne.mpr c28
     exact absurd ((Option.some.inj H).trans hr_.out) (by decide)
  case rest =>
   clear HC9
   try clear c1
   try clear c2
   try clear p2
   try clear c4
   try clear c6
   try clear c10
   try clear c17
   try clear c19
   try clear c20
   try clear c20b0
   try clear c20b1
   try clear c21
   try clear c22
   try clear c22b0
   try clear c22b1
   try clear c23
   try clear c24
   try clear c24b0
   try clear c24b1
   try clear c25
   try clear c26
   try clear c26b0
   try clear c26b1
   try clear c28
   try clear c28b0
   try clear c28b1
   try clear c29
   try clear c29b0
   try clear c29b1
   try clear hcz12_0
   try clear hcz12_1
   try clear hcz12_2
   try clear hcz14_0
   try clear hcz14_1
   try clear hcz14_2
   try clear hcz16_0
   try clear hcz16_1
   try clear hcz16_2
   try clear hcz23_0
   try clear hcz23_1
   try clear hcz23_2
   try clear hcz27_0
   try clear hcz27_1
   try clear hcz27_2
   try clear hfz12_0
   try clear hfz12_1
   try clear hfz12_2
   try clear hfz14_0
   try clear hfz14_1
   try clear hfz14_2
   try clear hfz16_0
   try clear hfz16_1
   try clear hfz16_2
   try clear hfz23_0
   try clear hfz23_1
   try clear hfz23_2
   try clear hfz27_0
   try clear hfz27_1
   try clear hfz27_2
   obtain ⟨kq, HA, HJ8, BK566, HB⟩ := hcut
   cases kq with
   | zero => exact absurd HA.out (by simp [L12_ChopTraps.j0])
   | succ kj8 =>
    have H := HA.out
    clear HA
    simp only [L12_ChopTraps.j0] at H
    have HC30 := A_ H;clear H
    go_upto_region 12 with (fail)
    go_cut [90] (fun v90 wc => ∃ (kq : Nat) (x90_29 : Bool), v90 = .bool x90_29 ∧ Aside0 (L12_ChopTraps.j1 kq a1 t568 t569 t570 t571 t572 x90_29 a0_0 a0_1 a0_2 = some r) ∧ Aside0 (kq ≤ kj8) ∧ Aside0 (wc.heap[gb566]? = some (.cells #[.int .i64 a0_0, .int .i64 a0_1, .bool a0_2] 38 (0, 0))) ∧ Aside0 (Below w.heap.size w wc))
    case first =>
     have H := HC30.out
     clear HC30
     replace H := ob_ H
     obtain ⟨t577, A310, H⟩ := H
     replace H : (if t577 = true then ((r2_Known.f a0_1).bind fun t578 => (L12_ChopTraps.j1 kj8 a1 t568 t569 t570 t571 t572 (!t578) a0_0 a0_1 a0_2)) else (L12_ChopTraps.j1 kj8 a1 t568 t569 t570 t571 t572 true a0_0 a0_1 a0_2)) = some r := H
     have A31 := A_ A310;clear A310
     by_cases c32 : t577 = true
     ·subst c32
      have H1 : ((r2_Known.f a0_1).bind fun t578 => (L12_ChopTraps.j1 kj8 a1 t568 t569 t570 t571 t572 (!t578) a0_0 a0_1 a0_2)) = some r := by rw [if_pos rfl] at H; exact H
      clear H;have H := H1;clear H1
      replace H := ob_ H
      obtain ⟨t578, A330, H⟩ := H
      replace H : (L12_ChopTraps.j1 kj8 a1 t568 t569 t570 t571 t572 (!t578) a0_0 a0_1 a0_2) = some r := H
      have A33 := A_ A330;clear A330
      have H' := A_ H
      clear H
      have hcz34_0 := bv_ BK566.out 0
      have hcz34_1 := bv_ BK566.out 1
      have hcz34_2 := bv_ BK566.out 2
      have hfz34_0 := blk_frozen BK566.out 0
      have hfz34_1 := blk_frozen BK566.out 1
      have hfz34_2 := blk_frozen BK566.out 2
      go_wp2_with (first | ((with_reducible refine gate_callee (f := 10) rfl ?_); refine gl_ (some 83) Try.func10 #[.int .i64 a0_0] ?_; (with_reducible refine (r2_Known.calls a0_0 true _ A31.out).mono ?_); rintro e w' ⟨rfl, ⟨nd, rfl⟩⟩; refine ⟨_, rfl, ?_⟩) | (go_at_call 10; (with_reducible refine (r2_Known.calls a0_1 t578 _ A33.out).mono ?_); rintro e w' ⟨rfl, ⟨nd, rfl⟩⟩))
      go_meet
      case rel => exact ⟨_, (!t578), sm_, H', ⟨by have := HJ8.out; first | omega | exact Nat.le_refl _⟩, ⟨bk_ BK566.out⟩, ⟨hb1_ HB.out GE566.out⟩⟩
     ·replace c32 := Bool.eq_false_iff.mpr c32
      subst c32
      have H1 : (L12_ChopTraps.j1 kj8 a1 t568 t569 t570 t571 t572 true a0_0 a0_1 a0_2) = some r := by rw [if_neg (show ¬ (false = true) by decide)] at H; exact H
      clear H;have H := H1;clear H1
      have H' := A_ H
      clear H
      have hcz35_0 := bv_ BK566.out 0
      have hcz35_1 := bv_ BK566.out 1
      have hcz35_2 := bv_ BK566.out 2
      have hfz35_0 := blk_frozen BK566.out 0
      have hfz35_1 := blk_frozen BK566.out 1
      have hfz35_2 := blk_frozen BK566.out 2
      go_wp2_with (first | ((with_reducible refine gate_callee (f := 10) rfl ?_); refine gl_ (some 83) Try.func10 #[.int .i64 a0_0] ?_; (with_reducible refine (r2_Known.calls a0_0 false _ A31.out).mono ?_); rintro e w' ⟨rfl, ⟨nd, rfl⟩⟩; refine ⟨_, rfl, ?_⟩))
      go_meet
      case rel => exact ⟨_, (true), sm_, H', ⟨by have := HJ8.out; first | omega | exact Nat.le_refl _⟩, ⟨bk_ BK566.out⟩, ⟨hb1_ HB.out GE566.out⟩⟩
    case rest =>
     clear HC30
     try clear c1
     try clear c2
     try clear p2
     try clear c3
     try clear c4
     try clear c6
     try clear c10
     try clear c17
     try clear c19
     try clear c20
     try clear c20b0
     try clear c20b1
     try clear c21
     try clear c22
     try clear c22b0
     try clear c22b1
     try clear c23
     try clear c24
     try clear c24b0
     try clear c24b1
     try clear c25
     try clear c26
     try clear c26b0
     try clear c26b1
     try clear c28
     try clear c28b0
     try clear c28b1
     try clear c29
     try clear c29b0
     try clear c29b1
     try clear c32
     try clear hcz12_0
     try clear hcz12_1
     try clear hcz12_2
     try clear hcz14_0
     try clear hcz14_1
     try clear hcz14_2
     try clear hcz16_0
     try clear hcz16_1
     try clear hcz16_2
     try clear hcz23_0
     try clear hcz23_1
     try clear hcz23_2
     try clear hcz27_0
     try clear hcz27_1
     try clear hcz27_2
     try clear hcz34_0
     try clear hcz34_1
     try clear hcz34_2
     try clear hcz35_0
     try clear hcz35_1
     try clear hcz35_2
     try clear hfz12_0
     try clear hfz12_1
     try clear hfz12_2
     try clear hfz14_0
     try clear hfz14_1
     try clear hfz14_2
     try clear hfz16_0
     try clear hfz16_1
     try clear hfz16_2
     try clear hfz23_0
     try clear hfz23_1
     try clear hfz23_2
     try clear hfz27_0
     try clear hfz27_1
     try clear hfz27_2
     try clear hfz34_0
     try clear hfz34_1
     try clear hfz34_2
     try clear hfz35_0
     try clear hfz35_1
     try clear hfz35_2
     try clear p2
     obtain ⟨kq, x90_29, rfl, HA, HJ29, BK566, HB⟩ := hcut
     cases kq with
     | zero => exact absurd HA.out (by simp [L12_ChopTraps.j1])
     | succ kj29 =>
      have H := HA.out
      clear HA
      simp only [L12_ChopTraps.j1] at H
      by_cases c36 : x90_29 = true
      ·subst c36
       have H1 : (if t568 = 0 then (if t569 = 0 then (some (t570 == 0)) else (some false)) else (some false)) = some r := by rw [if_pos rfl] at H; exact H
       clear H;have H := H1;clear H1
       by_cases c37 : t568 = 0
       ·rw [if_pos c37] at H
        have c37b0 : (t568 == 0) = true := beq_iff_eq.mpr c37
        have c37b1 : (t568 != 0) = false := bne_eq_false_iff_eq.mpr c37
        clear c37
        by_cases c38 : t569 = 0
        ·rw [if_pos c38] at H
         have c38b0 : (t569 == 0) = true := beq_iff_eq.mpr c38
         have c38b1 : (t569 != 0) = false := bne_eq_false_iff_eq.mpr c38
         clear c38
         obtain rfl := Option.some.inj H
         go_wp2
         go_ret
         exact ⟨er_, hb1_ HB.out GE566.out⟩
        ·rw [if_neg c38] at H
         have c38b0 : (t569 == 0) = false := beq_eq_false_iff_ne.mpr c38
         have c38b1 : (t569 != 0) = true := bne_iff_ne.mpr c38
         exact absurd ((Option.some.inj H).trans hr_.out) (by decide)
       ·rw [if_neg c37] at H
        have c37b0 : (t568 == 0) = false := beq_eq_false_iff_ne.mpr c37
        have c37b1 : (t568 != 0) = true := bne_iff_ne.mpr c37
        exact absurd ((Option.some.inj H).trans hr_.out) (by decide)
      ·replace c36 := Bool.eq_false_iff.mpr c36
       subst c36
       have H1 : ((trunnionref12_Chop.f kj29 a0_0 a0_1 a1 a0_2).bind fun bt579 => (if bt579.1 = 1 then (if t568 = 0 then (if t569 = 4 then (some (t570 == 0)) else (some false)) else (some false)) else (if bt579.1 = 2 then (if t568 = 0 then (if t569 = 3 then (some (t570 == t571)) else (some false)) else (some false)) else (if bt579.1 = 3 then (if t568 = 0 then (if t569 = 3 then (some (t570 == t572)) else (some false)) else (some false)) else (if t568 = bt579.2 then (if t569 = 0 then (some (t570 == bt579.2)) else (some false)) else (some false)))))) = some r := by rw [if_neg (show ¬ (false = true) by decide)] at H; exact H
       clear H;have H := H1;clear H1
       replace H := ob_ H
       obtain ⟨⟨t579, t580⟩, A390, H⟩ := H
       replace H : (if t579 = 1 then (if t568 = 0 then (if t569 = 4 then (some (t570 == 0)) else (some false)) else (some false)) else (if t579 = 2 then (if t568 = 0 then (if t569 = 3 then (some (t570 == t571)) else (some false)) else (some false)) else (if t579 = 3 then (if t568 = 0 then (if t569 = 3 then (some (t570 == t572)) else (some false)) else (some false)) else (if t568 = t580 then (if t569 = 0 then (some (t570 == t580)) else (some false)) else (some false))))) = some r := H
       have A39 := A_ A390;clear A390
       by_cases c40 : t579 = 1
       ·rw [if_pos c40] at H
        have c40b0 : (t579 == 1) = true := beq_iff_eq.mpr c40
        have c40b1 : (t579 != 1) = false := bne_eq_false_iff_eq.mpr c40
        clear c40
        by_cases c41 : t568 = 0
        ·rw [if_pos c41] at H
         have c41b0 : (t568 == 0) = true := beq_iff_eq.mpr c41
         have c41b1 : (t568 != 0) = false := bne_eq_false_iff_eq.mpr c41
         clear c41
         by_cases c42 : t569 = 4
         ·rw [if_pos c42] at H
          have c42b0 : (t569 == 4) = true := beq_iff_eq.mpr c42
          have c42b1 : (t569 != 4) = false := bne_eq_false_iff_eq.mpr c42
          clear c42
          obtain rfl := Option.some.inj H
          have hcz43_0 := bv_ BK566.out 0
          have hcz43_1 := bv_ BK566.out 1
          have hcz43_2 := bv_ BK566.out 2
          have hfz43_0 := blk_frozen BK566.out 0
          have hfz43_1 := blk_frozen BK566.out 1
          have hfz43_2 := blk_frozen BK566.out 2
          go_wp2_with (first | ((with_reducible refine gate_callee (f := 27) rfl ?_); refine gl_ (some 109) Try.func27 #[.int .i64 a0_0, .int .i64 a0_1, .int .u64 a1, .bool a0_2] ?_; (with_reducible refine (trunnionref12_Chop.calls kj29 a0_0 a0_1 a1 a0_2 t579 t580 _ A39.out).mono ?_); rintro e w44 ⟨rfl, hb⟩; refine ⟨_, rfl, ?_⟩; replace BK566 := A_ (bb_ BK566.out hb); replace HB := A_ (below_step (hb1_ HB.out GE566.out) hb); (try clear hb); (try clear hb2); (try clear hk); (try clear hi)))
          go_ret
          exact ⟨er_, hb1_ HB.out GE566.out⟩
         ·rw [if_neg c42] at H
          have c42b0 : (t569 == 4) = false := beq_eq_false_iff_ne.mpr c42
          have c42b1 : (t569 != 4) = true := bne_iff_ne.mpr c42
          exact absurd ((Option.some.inj H).trans hr_.out) (by decide)
        ·rw [if_neg c41] at H
         have c41b0 : (t568 == 0) = false := beq_eq_false_iff_ne.mpr c41
         have c41b1 : (t568 != 0) = true := bne_iff_ne.mpr c41
         exact absurd ((Option.some.inj H).trans hr_.out) (by decide)
       ·rw [if_neg c40] at H
        have c40b0 : (t579 == 1) = false := beq_eq_false_iff_ne.mpr c40
        have c40b1 : (t579 != 1) = true := bne_iff_ne.mpr c40
        by_cases c45 : t579 = 2
        ·rw [if_pos c45] at H
         have c45b0 : (t579 == 2) = true := beq_iff_eq.mpr c45
         have c45b1 : (t579 != 2) = false := bne_eq_false_iff_eq.mpr c45
         clear c45
         by_cases c46 : t568 = 0
         ·rw [if_pos c46] at H
          have c46b0 : (t568 == 0) = true := beq_iff_eq.mpr c46
          have c46b1 : (t568 != 0) = false := bne_eq_false_iff_eq.mpr c46
          clear c46
          by_cases c47 : t569 = 3
          ·rw [if_pos c47] at H
           have c47b0 : (t569 == 3) = true := beq_iff_eq.mpr c47
           have c47b1 : (t569 != 3) = false := bne_eq_false_iff_eq.mpr c47
           clear c47
           obtain rfl := Option.some.inj H
           have hcz48_0 := bv_ BK566.out 0
           have hcz48_1 := bv_ BK566.out 1
           have hcz48_2 := bv_ BK566.out 2
           have hfz48_0 := blk_frozen BK566.out 0
           have hfz48_1 := blk_frozen BK566.out 1
           have hfz48_2 := blk_frozen BK566.out 2
           go_wp2_with (first | ((with_reducible refine gate_callee (f := 27) rfl ?_); refine gl_ (some 109) Try.func27 #[.int .i64 a0_0, .int .i64 a0_1, .int .u64 a1, .bool a0_2] ?_; (with_reducible refine (trunnionref12_Chop.calls kj29 a0_0 a0_1 a1 a0_2 t579 t580 _ A39.out).mono ?_); rintro e w49 ⟨rfl, hb⟩; refine ⟨_, rfl, ?_⟩; replace BK566 := A_ (bb_ BK566.out hb); replace HB := A_ (below_step (hb1_ HB.out GE566.out) hb); (try clear hb); (try clear hb2); (try clear hk); (try clear hi)))
           go_ret
           exact ⟨er_, hb1_ HB.out GE566.out⟩
          ·rw [if_neg c47] at H
           have c47b0 : (t569 == 3) = false := beq_eq_false_iff_ne.mpr c47
           have c47b1 : (t569 != 3) = true := bne_iff_ne.mpr c47
           exact absurd ((Option.some.inj H).trans hr_.out) (by decide)
         ·rw [if_neg c46] at H
          have c46b0 : (t568 == 0) = false := beq_eq_false_iff_ne.mpr c46
          have c46b1 : (t568 != 0) = true := bne_iff_ne.mpr c46
          exact absurd ((Option.some.inj H).trans hr_.out) (by decide)
        ·rw [if_neg c45] at H
         have c45b0 : (t579 == 2) = false := beq_eq_false_iff_ne.mpr c45
         have c45b1 : (t579 != 2) = true := bne_iff_ne.mpr c45
         by_cases c50 : t579 = 3
         ·rw [if_pos c50] at H
          have c50b0 : (t579 == 3) = true := beq_iff_eq.mpr c50
          have c50b1 : (t579 != 3) = false := bne_eq_false_iff_eq.mpr c50
          clear c50
          by_cases c51 : t568 = 0
          ·rw [if_pos c51] at H
           have c51b0 : (t568 == 0) = true := beq_iff_eq.mpr c51
           have c51b1 : (t568 != 0) = false := bne_eq_false_iff_eq.mpr c51
           clear c51
           by_cases c52 : t569 = 3
           ·rw [if_pos c52] at H
            have c52b0 : (t569 == 3) = true := beq_iff_eq.mpr c52
            have c52b1 : (t569 != 3) = false := bne_eq_false_iff_eq.mpr c52
            clear c52
            obtain rfl := Option.some.inj H
            have hcz53_0 := bv_ BK566.out 0
            have hcz53_1 := bv_ BK566.out 1
            have hcz53_2 := bv_ BK566.out 2
            have hfz53_0 := blk_frozen BK566.out 0
            have hfz53_1 := blk_frozen BK566.out 1
            have hfz53_2 := blk_frozen BK566.out 2
            go_wp2_with (first | ((with_reducible refine gate_callee (f := 27) rfl ?_); refine gl_ (some 109) Try.func27 #[.int .i64 a0_0, .int .i64 a0_1, .int .u64 a1, .bool a0_2] ?_; (with_reducible refine (trunnionref12_Chop.calls kj29 a0_0 a0_1 a1 a0_2 t579 t580 _ A39.out).mono ?_); rintro e w54 ⟨rfl, hb⟩; refine ⟨_, rfl, ?_⟩; replace BK566 := A_ (bb_ BK566.out hb); replace HB := A_ (below_step (hb1_ HB.out GE566.out) hb); (try clear hb); (try clear hb2); (try clear hk); (try clear hi)))
            go_ret
            exact ⟨er_, hb1_ HB.out GE566.out⟩
           ·rw [if_neg c52] at H
            have c52b0 : (t569 == 3) = false := beq_eq_false_iff_ne.mpr c52
            have c52b1 : (t569 != 3) = true := bne_iff_ne.mpr c52
            exact absurd ((Option.some.inj H).trans hr_.out) (by decide)
          ·rw [if_neg c51] at H
           have c51b0 : (t568 == 0) = false := beq_eq_false_iff_ne.mpr c51
           have c51b1 : (t568 != 0) = true := bne_iff_ne.mpr c51
           exact absurd ((Option.some.inj H).trans hr_.out) (by decide)
         ·rw [if_neg c50] at H
          have c50b0 : (t579 == 3) = false := beq_eq_false_iff_ne.mpr c50
          have c50b1 : (t579 != 3) = true := bne_iff_ne.mpr c50
          by_cases c55 : t568 = t580
          ·rw [if_pos c55] at H
           have c55b0 : (t568 == t580) = true := beq_iff_eq.mpr c55
           have c55b1 : (t568 != t580) = false := bne_eq_false_iff_eq.mpr c55
           clear c55
           by_cases c56 : t569 = 0
           ·rw [if_pos c56] at H
            have c56b0 : (t569 == 0) = true := beq_iff_eq.mpr c56
            have c56b1 : (t569 != 0) = false := bne_eq_false_iff_eq.mpr c56
            clear c56
            obtain rfl := Option.some.inj H
            have hcz57_0 := bv_ BK566.out 0
            have hcz57_1 := bv_ BK566.out 1
            have hcz57_2 := bv_ BK566.out 2
            have hfz57_0 := blk_frozen BK566.out 0
            have hfz57_1 := blk_frozen BK566.out 1
            have hfz57_2 := blk_frozen BK566.out 2
            go_wp2_with (first | ((with_reducible refine gate_callee (f := 27) rfl ?_); refine gl_ (some 109) Try.func27 #[.int .i64 a0_0, .int .i64 a0_1, .int .u64 a1, .bool a0_2] ?_; (with_reducible refine (trunnionref12_Chop.calls kj29 a0_0 a0_1 a1 a0_2 t579 t580 _ A39.out).mono ?_); rintro e w58 ⟨rfl, hb⟩; refine ⟨_, rfl, ?_⟩; replace BK566 := A_ (bb_ BK566.out hb); replace HB := A_ (below_step (hb1_ HB.out GE566.out) hb); (try clear hb); (try clear hb2); (try clear hk); (try clear hi)))
            go_ret
            exact ⟨er_, hb1_ HB.out GE566.out⟩
           ·rw [if_neg c56] at H
            have c56b0 : (t569 == 0) = false := beq_eq_false_iff_ne.mpr c56
            have c56b1 : (t569 != 0) = true := bne_iff_ne.mpr c56
            exact absurd ((Option.some.inj H).trans hr_.out) (by decide)
          ·rw [if_neg c55] at H
           have c55b0 : (t568 == t580) = false := beq_eq_false_iff_ne.mpr c55
           have c55b1 : (t568 != t580) = true := bne_iff_ne.mpr c55
           exact absurd ((Option.some.inj H).trans hr_.out) (by decide)
 ·replace c4 := Bool.eq_false_iff.mpr c4
  subst c4
  have H1 : (some false) = some r := by rw [if_neg (show ¬ (false = true) by decide)] at H; exact H
  clear H;have H := H1;clear H1
  exact absurd ((Option.some.inj H).trans hr_.out) (by decide)
def L12_ChopTraps.Pure : Prop := ∀ (a0_0 : Int) (a0_1 : Int) (a0_2 : Bool) (a1 : Int), (Lit.int .i64 a0_0).wf = true → (Lit.int .i64 a0_1).wf = true → (Lit.int .u64 a1).wf = true → ∃ k, L12_ChopTraps.f k a0_0 a0_1 a0_2 a1 = some true
theorem L12_ChopTraps.walk (P : L12_ChopTraps.Pure) (a0_0 : Int) (a0_1 : Int) (a0_2 : Bool) (a1 : Int) (w : World) (w0_0 : (Lit.int .i64 a0_0).wf = true) (w0_1 : (Lit.int .i64 a0_1).wf = true) (w1 : (Lit.int .u64 a1).wf = true) :
  Calls Try.prog 6 #[.agg #[.int .i64 a0_0, .int .i64 a0_1, .bool a0_2], .int .u64 a1] w fun e w' => e = .returned (.bool true) ∧ Below w.heap.size w w' := by
 obtain ⟨k, h⟩ := P a0_0 a0_1 a0_2 a1 w0_0 w0_1 w1
 refine (L12_ChopTraps.calls k a0_0 a0_1 a0_2 a1 true w h ⟨rfl⟩).mono ?_
 rintro e w' ⟨rfl, hd⟩
 exact ⟨rfl, hd⟩
end Go.Proofs.Ytjjehbedpgdhgaa.PA
namespace Bit
theorem or_pow (x c k : Nat) (hx : x < 2 ^ k) : x ||| c * 2 ^ k = x + c * 2 ^ k := by
  rw [Nat.mul_comm, Nat.or_comm, ← Nat.two_pow_add_eq_or_of_lt hx, Nat.add_comm]
theorem and_low (a k : Nat) : a &&& (2 ^ k - 1) = a % 2 ^ k := Nat.and_two_pow_sub_one_eq_mod a k
end Bit
section
set_option linter.unusedVariables false
set_option linter.unusedSimpArgs false
namespace Go.Proofs.Ytjjehbedpgdhgaa.Th
open Go.RowKit Go.Proofs.YtjjehbedpgdhgaaW.PrintWords Go.Proofs.YtjjehbedpgdhgaaW.PrintLast Go.Proofs.YtjjehbedpgdhgaaW.PrintMore Go.Proofs.Ytjjehbedpgdhgaa.PA Bit
theorem wf_u64 {a : Int} (h : (Lit.int .u64 a).wf = true) : 0 ≤ a ∧ a < 18446744073709551616 := by
  simp [Lit.wf, IntKind.min, IntKind.max, IntKind.signed, IntKind.bits] at h; omega
def cutN (w : Int) (a : Nat) : Nat := if w = 32 then a % 4294967296 else if w = 64 then a else 0
theorem shCut (w : Int) (a : Nat) (ha : a < 18446744073709551616) : shape_Cut.f w a = some ((cutN w a : Nat) : Int) := by
  unfold shape_Cut.f cutN
  by_cases h : w = 32
  · rw [if_pos h, if_pos h, show (4294967295 : Int) = ((4294967295 : Nat) : Int) from rfl, u64_and_nat a _ ha (by decide)]
    rw [show (4294967295 : Nat) = 2 ^ 32 - 1 by decide, and_low]
  · rw [if_neg h, if_neg h]
    by_cases h2 : w = 64
    · rw [if_pos h2, if_pos h2]
    · rw [if_neg h2, if_neg h2]; rfl
theorem r2Cut (w : Int) (a : Nat) (hw : w = 32 ∨ w = 64) : r2_Cut.f w a = some ((cutN w a : Nat) : Int) := by
  unfold r2_Cut.f cutN
  rcases hw with rfl | rfl
  · rw [if_pos rfl, if_pos rfl, Int.tmod_eq_emod_of_nonneg (by omega)]; congr 1
  · rw [if_neg (by decide), if_neg (by decide), if_pos rfl]
def sb (w : Int) : Nat := if w = 32 then 2147483648 else 9223372036854775808
def sgB (w : Int) (a : Nat) : Bool := decide (a / sb w % 2 = 1)
def magN (w : Int) (a : Nat) : Nat := a % sb w
theorem cutN_eq (w : Int) (hw : w = 32 ∨ w = 64) (a : Nat) (ha : a < 18446744073709551616) : cutN w a = magN w a + (if sgB w a then sb w else 0) := by
  unfold magN sgB
  rcases hw with rfl | rfl
  · simp only [cutN, sb, if_true, decide_eq_true_eq]; split <;> omega
  · simp only [cutN, sb, show ¬ ((64 : Int) = 32) by decide, if_false, if_true, decide_eq_true_eq]; split <;> omega
theorem magN_lt (w : Int) (hw : w = 32 ∨ w = 64) (a : Nat) : magN w a < sb w := by
  unfold magN sb; rcases hw with rfl | rfl <;> exact Nat.mod_lt _ (by decide)
def mkN (w : Int) (m : Nat) (s : Bool) : Nat := m + if s then sb w else 0
theorem sg_mk (w : Int) (hw : w = 32 ∨ w = 64) (m : Nat) (s : Bool) (h : m < sb w) : sgB w (mkN w m s) = s := by
  unfold sgB mkN; revert h; unfold sb; rcases hw with rfl | rfl <;> cases s <;> simp <;> omega
theorem known_f (w : Int) : r2_Known.f w = some (decide (w = 32 ∨ w = 64)) := by
  unfold r2_Known.f
  by_cases h : w = 32
  · rw [if_pos h]; simp [h]
  · rw [if_neg h]; congr 1; by_cases h2 : w = 64 <;> simp [h, h2]
theorem Ev.pos {α : Type} {c : Prop} [Decidable c] {f g : Nat → Option α} {r : α} (h : c) (k : Ev f r) : Ev (fun n => if c then f n else g n) r := Ev.congr (fun _ => if_pos h) k
theorem Ev.neg {α : Type} {c : Prop} [Decidable c] {f g : Nat → Option α} {r : α} (h : ¬ c) (k : Ev g r) : Ev (fun n => if c then f n else g n) r := Ev.congr (fun _ => if_neg h) k
theorem Ev.bs {α β : Type} {g : Option α} {a : α} {f : Nat → α → Option β} {r : β} (h : g = some a) (k : Ev (fun n => f n a) r) : Ev (fun n => g.bind (f n)) r := by subst h; exact k
theorem Ev.out {α : Type} {r s : α} (h : r = s) : Ev (fun _ => some r) s := by subst h; exact Ev.now _
theorem u64_id {n : Int} (h : 0 ≤ n) (h2 : n < 18446744073709551616) : IntKind.u64.wrap n = n := by rw [IntKind.wrap_u64]; omega
theorem w64_id {n : Int} (h : -9223372036854775808 ≤ n) (h2 : n < 9223372036854775808) : wrap64 n = n := by unfold wrap64; omega
theorem two_loop (n : Nat) (hn : n < 64) (d : Nat) : ∀ i : Nat, i ≤ n → n - i = d → Ev (fun k => r2_Two.l0 k n (2 ^ i : Nat) i) ((2 ^ n : Nat) : Int) := by
  induction d with
  | zero =>
    intro i hi hd
    obtain rfl : i = n := by omega
    refine Ev.step (fun _ => r2_Two.l0.eq_2 ..) ?_
    exact Ev.neg (by omega) (Ev.out rfl)
  | succ d ih =>
    intro i hi hd
    refine Ev.step (fun _ => r2_Two.l0.eq_2 ..) ?_
    refine Ev.pos (by omega) ?_
    have h := ih (i + 1) (by omega) (by omega)
    have hp : 2 ^ i ≤ 4611686018427387904 * 2 := by
      have : 2 ^ i ≤ 2 ^ 63 := Nat.pow_le_pow_right (by decide) (by omega)
      simpa using this
    have hp2 : 2 ^ (i + 1) ≤ 9223372036854775808 := by
      have : 2 ^ (i + 1) ≤ 2 ^ 63 := Nat.pow_le_pow_right (by decide) (by omega)
      simpa using this
    rw [Nat.pow_succ] at h hp2
    generalize 2 ^ i = P at *
    rw [u64_id (by omega) (by omega), w64_id (by omega) (by omega), show (2 : Int) * (P : Int) = ((P * 2 : Nat) : Int) by omega, show (i : Int) + 1 = ((i + 1 : Nat) : Int) by omega]
    exact h
theorem two_f (n : Nat) (hn : n < 64) : Ev (fun k => r2_Two.f k n) ((2 ^ n : Nat) : Int) := two_loop n hn _ 0 (by omega) rfl
theorem twoS (w : Int) (hw : w = 32 ∨ w = 64) : Ev (fun k => r2_Two.f k (wrap64 (w - 1))) ((sb w : Nat) : Int) := by
  rcases hw with rfl | rfl
  · rw [show wrap64 (32 - 1) = ((31 : Nat) : Int) by decide +kernel]; exact two_f 31 (by decide)
  · rw [show wrap64 (64 - 1) = ((63 : Nat) : Int) by decide +kernel]; exact two_f 63 (by decide)
theorem r2Neg (w : Int) (hw : w = 32 ∨ w = 64) (a : Nat) (ha : a < 18446744073709551616) : Ev (fun k => r2_Neg.f k w a) (sgB w a) := by
  unfold r2_Neg.f
  refine Ev.bs (r2Cut w a hw) (Ev.bind (twoS w hw) ?_)
  have hs : 0 < sb w := by unfold sb; split <;> decide
  refine Ev.neg (by omega) (Ev.out ?_)
  have hm := magN_lt w hw a
  rw [Int.tdiv_eq_ediv_of_nonneg (by omega), ← Int.natCast_ediv, cutN_eq w hw a ha]
  cases sgB w a
  · simp only [Bool.false_eq_true, if_false, Nat.add_zero]
    rw [Nat.div_eq_of_lt hm]; decide
  · simp only [if_true]
    rw [Nat.add_div_right _ hs, Nat.div_eq_of_lt hm]; decide
end Go.Proofs.Ytjjehbedpgdhgaa.Th
end
namespace Flo

def tw (k : Int) : Rat := (2 : Rat) ^ k
theorem tw_pos (k : Int) : 0 < tw k := Rat.zpow_pos (by decide)
theorem tw_add (a b : Int) : tw (a + b) = tw a * tw b := Rat.zpow_add (by decide) a b
theorem tw_one : tw 1 = 2 := Rat.zpow_one ..
theorem tw_succ (a : Int) : tw (a + 1) = 2 * tw a := by rw [tw_add, tw_one, Rat.mul_comm]
theorem tw_pred (a : Int) : tw a = 2 * tw (a - 1) := by
  have := tw_succ (a - 1); rwa [Int.sub_add_cancel] at this
theorem tw_nat (n : Nat) : tw n = ((2 ^ n : Nat) : Rat) := by
  unfold tw; rw [Rat.zpow_natCast]; simp
theorem mul_lt {a b t : Rat} (h : a < b) (ht : 0 < t) : a * t < b * t := Rat.mul_lt_mul_of_pos_right h ht
theorem lt_of_mul {a b t : Rat} (h : a * t < b * t) (ht : 0 < t) : a < b := Rat.lt_of_mul_lt_mul_right h (Rat.le_of_lt ht)
theorem le_of_mul {a b t : Rat} (h : a * t ≤ b * t) (ht : 0 < t) : a ≤ b := Rat.le_of_mul_le_mul_right h ht
theorem nat_lt {a b : Nat} : ((a : Nat) : Rat) < (b : Rat) ↔ a < b := Rat.natCast_lt_natCast
theorem nat_le {a b : Nat} : ((a : Nat) : Rat) ≤ (b : Rat) ↔ a ≤ b := Rat.natCast_le_natCast

structure Fmt where
  f : Nat
  low : Int
  top : Nat
  hf : 1 ≤ f
  ht : 2 ≤ top
namespace Fmt
variable (F : Fmt)
def inf : Nat := F.top * 2 ^ F.f
def sg (m : Nat) : Nat := if m < 2 ^ F.f then m else 2 ^ F.f + m % 2 ^ F.f
def ex (m : Nat) : Int := if m < 2 ^ F.f then F.low else (m / 2 ^ F.f : Nat) - 1 + F.low
def val (m : Nat) : Rat := (F.sg m : Rat) * tw (F.ex m)
def mid (m : Nat) : Rat := ((2 * F.sg m + 1 : Nat) : Rat) * tw (F.ex m - 1)
theorem pow_pos : 0 < 2 ^ F.f := Nat.pow_pos (by decide)
theorem sg_mk (q n : Nat) (h : n < 2 ^ (F.f + 1)) (hq : 0 < q → 2 ^ F.f ≤ n) : F.sg (q * 2 ^ F.f + n) = n ∧ F.ex (q * 2 ^ F.f + n) = q + F.low := by
  have hp := F.pow_pos
  rw [Nat.pow_succ] at h
  unfold sg ex
  by_cases h1 : n < 2 ^ F.f
  · have : q = 0 := by
      rcases Nat.eq_zero_or_pos q with h | h
      · exact h
      · have := hq h; omega
    subst this
    simp [h1]
  · have e : q * 2 ^ F.f + n = (n - 2 ^ F.f) + 2 ^ F.f * (q + 1) := by
      rw [Nat.mul_add, Nat.mul_comm q]; omega
    have h2 : ¬ (q * 2 ^ F.f + n < 2 ^ F.f) := by
      have := Nat.zero_le (q * 2 ^ F.f); omega
    rw [if_neg h2, if_neg h2, e, Nat.add_mul_mod_self_left, Nat.add_mul_div_left _ _ hp, Nat.mod_eq_of_lt (by omega), Nat.div_eq_of_lt (by omega)]
    constructor
    · omega
    · omega
theorem sg_ex (m : Nat) : ∃ q n, m = q * 2 ^ F.f + n ∧ n < 2 ^ (F.f + 1) ∧ (0 < q → 2 ^ F.f ≤ n) ∧ F.sg m = n ∧ F.ex m = q + F.low := by
  have hp := F.pow_pos
  by_cases h : m < 2 ^ F.f
  · refine ⟨0, m, by simp, by rw [Nat.pow_succ]; omega, by simp, ?_, ?_⟩ <;> simp [sg, ex, h]
  · have h3 := Nat.div_add_mod m (2 ^ F.f)
    have h4 : 1 ≤ m / 2 ^ F.f := (Nat.le_div_iff_mul_le hp).2 (by omega)
    have h5 := Nat.mod_lt m hp
    have h6 : m = (m / 2 ^ F.f - 1) * 2 ^ F.f + (2 ^ F.f + m % 2 ^ F.f) := by
      rw [Nat.sub_mul, Nat.one_mul, Nat.mul_comm (m / 2 ^ F.f)]
      have : 2 ^ F.f ≤ 2 ^ F.f * (m / 2 ^ F.f) := Nat.le_mul_of_pos_right _ h4
      omega
    have h7 : 2 ^ F.f + m % 2 ^ F.f < 2 ^ (F.f + 1) := by rw [Nat.pow_succ]; omega
    have := F.sg_mk (m / 2 ^ F.f - 1) (2 ^ F.f + m % 2 ^ F.f) h7 (by omega)
    rw [← h6] at this
    exact ⟨_, _, h6, h7, by omega, this.1, this.2⟩
theorem sg_lt (m : Nat) : F.sg m < 2 ^ (F.f + 1) := by
  obtain ⟨q, n, _, h, _, h1, _⟩ := F.sg_ex m
  rw [h1]; exact h
theorem val_succ (m : Nat) : F.val (m + 1) = F.val m + tw (F.ex m) := by
  obtain ⟨q, n, e, hn, hq, h1, h2⟩ := F.sg_ex m
  have hp := F.pow_pos
  by_cases h : n + 1 < 2 ^ (F.f + 1)
  · obtain ⟨h3, h4⟩ := F.sg_mk q (n + 1) h (fun h => by have := hq h; omega)
    unfold val
    rw [h1, h2, e, Nat.add_assoc, h3, h4]
    push_cast
    grind
  · have hn1 : n + 1 = 2 ^ F.f + 2 ^ F.f := by rw [Nat.pow_succ] at h hn; omega
    have e2 : m + 1 = (q + 1) * 2 ^ F.f + 2 ^ F.f := by rw [e, Nat.add_mul]; omega
    obtain ⟨h3, h4⟩ := F.sg_mk (q + 1) (2 ^ F.f) (by rw [Nat.pow_succ]; omega) (fun _ => Nat.le_refl _)
    unfold val
    rw [h1, h2, e2, h3, h4]
    have : (((q + 1 : Nat) : Int) + F.low) = (q + F.low) + 1 := by omega
    rw [this, tw_succ]
    have h5 : ((n : Nat) : Rat) + 1 = ((2 ^ F.f : Nat) : Rat) + ((2 ^ F.f : Nat) : Rat) := by exact_mod_cast hn1
    grind
theorem mid_eq (m : Nat) : F.mid m = F.val m + tw (F.ex m - 1) := by
  unfold mid val
  rw [tw_pred (F.ex m)]
  push_cast
  grind
theorem mid_lt_succ (m : Nat) : F.mid m < F.val (m + 1) := by
  rw [mid_eq, val_succ, tw_pred (F.ex m)]
  have := tw_pos (F.ex m - 1)
  grind
theorem lt_mid (m : Nat) : F.val m < F.mid m := by
  rw [mid_eq]
  have := tw_pos (F.ex m - 1)
  grind
theorem val_lt_succ (m : Nat) : F.val m < F.val (m + 1) := by
  rw [val_succ]
  have := tw_pos (F.ex m)
  grind
theorem val_mono {a b : Nat} (h : a ≤ b) : F.val a ≤ F.val b := by
  induction b with
  | zero => obtain rfl : a = 0 := by omega
            exact Rat.le_refl
  | succ b ih =>
    rcases Nat.lt_or_ge b a with h1 | h1
    · obtain rfl : a = b + 1 := by omega
      exact Rat.le_refl
    · have := ih h1
      have := F.val_lt_succ b
      grind
theorem val_lt {a b : Nat} (h : a < b) : F.val a < F.val b := by
  have := F.val_mono (show a + 1 ≤ b by omega)
  have := F.val_lt_succ a
  grind
theorem mid_lt {a b : Nat} (h : a < b) : F.mid a < F.mid b := by
  have h1 := F.mid_lt_succ a
  have h2 := F.val_mono (show a + 1 ≤ b by omega)
  have h3 := F.lt_mid b
  grind
def Up (x : Rat) (m : Nat) : Prop := F.mid m < x ∨ F.mid m = x ∧ m % 2 = 1
def Rnd (U : Nat → Prop) (r : Nat) : Prop := r ≤ F.inf ∧ (∀ m, m < r → U m) ∧ (r < F.inf → ¬ U r)
theorem Rnd.exact {m : Nat} (h : m ≤ F.inf) : F.Rnd (F.Up (F.val m)) m := by
  refine ⟨h, fun k hk => .inl ?_, fun _ u => ?_⟩
  · have h1 := F.mid_lt_succ k
    have h2 := F.val_mono (show k + 1 ≤ m by omega)
    grind
  · have h1 := F.lt_mid m
    rcases u with u | ⟨u, _⟩ <;> grind
theorem Rnd.make {x : Rat} {q n : Nat} (hx : x < tw (q + F.low + F.f + 1)) (hq : 0 < q → tw (q + F.low + F.f) ≤ x)
    (hd : 0 < n → ((2 * n - 1 : Nat) : Rat) * tw (q + F.low - 1) < x ∨ ((2 * n - 1 : Nat) : Rat) * tw (q + F.low - 1) = x ∧ n % 2 = 0)
    (hu : x < ((2 * n + 1 : Nat) : Rat) * tw (q + F.low - 1) ∨ x = ((2 * n + 1 : Nat) : Rat) * tw (q + F.low - 1) ∧ n % 2 = 0) :
    F.Rnd (F.Up x) (min F.inf (q * 2 ^ F.f + n)) := by
  have hp := F.pow_pos
  have T := tw_pos (q + F.low - 1)
  -- n is at most 2^(f+1), and at least 2^f where q is not 0
  have e1 : tw (q + F.low + F.f + 1) = ((2 ^ (F.f + 2) : Nat) : Rat) * tw (q + F.low - 1) := by
    rw [← tw_nat, ← tw_add]; congr 1; omega
  have e2 : tw (q + F.low + F.f) = ((2 ^ (F.f + 1) : Nat) : Rat) * tw (q + F.low - 1) := by
    rw [← tw_nat, ← tw_add]; congr 1; omega
  have hn : n ≤ 2 ^ (F.f + 1) := by
    rcases Nat.eq_zero_or_pos n with h | h
    · omega
    · have h1 : ((2 * n - 1 : Nat) : Rat) * tw (q + F.low - 1) < ((2 ^ (F.f + 2) : Nat) : Rat) * tw (q + F.low - 1) := by
        rw [← e1]
        rcases hd h with h | ⟨h, _⟩ <;> grind
      have h2 := nat_lt.1 (lt_of_mul h1 T)
      rw [Nat.pow_succ] at h2
      omega
  have hl : 0 < q → 2 ^ F.f ≤ n := by
    intro h
    have h1 := hq h
    have h2 : ((2 ^ (F.f + 1) : Nat) : Rat) * tw (q + F.low - 1) ≤ ((2 * n + 1 : Nat) : Rat) * tw (q + F.low - 1) := by
      rw [← e2]
      rcases hu with h | ⟨h, _⟩ <;> grind
    have h3 := nat_le.1 (le_of_mul h2 T)
    rw [Nat.pow_succ] at h3
    omega
  have par : (q * 2 ^ F.f + n) % 2 = n % 2 := by
    obtain ⟨g, hg⟩ : ∃ g, F.f = g + 1 := ⟨F.f - 1, by have := F.hf; omega⟩
    rw [hg, Nat.pow_succ, ← Nat.mul_assoc]; omega
  -- what is below the answer is above its middle
  have hbelow : ∀ m, m < q * 2 ^ F.f + n → F.Up x m := by
    intro m hm
    have hlast : F.Up x (q * 2 ^ F.f + n - 1) := by
      by_cases h : n ≤ 2 ^ F.f ∧ 0 < q
      · obtain ⟨h, h0⟩ := h
        have h1 : n = 2 ^ F.f := Nat.le_antisymm h (hl h0)
        have e3 : q * 2 ^ F.f + n - 1 = (q - 1) * 2 ^ F.f + (2 ^ (F.f + 1) - 1) := by
          rw [h1, Nat.pow_succ]
          have : q * 2 ^ F.f = (q - 1) * 2 ^ F.f + 2 ^ F.f := by rw [← Nat.succ_mul]; congr 1; omega
          omega
        obtain ⟨h3, h4⟩ := F.sg_mk (q - 1) (2 ^ (F.f + 1) - 1) (by have := Nat.pow_pos (n := F.f + 1) (show 0 < 2 by decide); omega) (by intro _; rw [Nat.pow_succ]; omega)
        refine .inl ?_
        unfold mid
        rw [e3, h3, h4]
        have h5 := hq h0
        have e4 : tw (q + F.low + F.f) = ((2 ^ (F.f + 2) : Nat) : Rat) * tw ((q - 1 : Nat) + F.low - 1) := by
          rw [← tw_nat, ← tw_add]; congr 1; omega
        have h6 : 2 * (2 ^ (F.f + 1) - 1) + 1 < 2 ^ (F.f + 2) := by
          have h7 : 2 ^ (F.f + 2) = 2 ^ (F.f + 1) * 2 := Nat.pow_succ ..
          have h8 := Nat.pow_pos (n := F.f + 1) (show 0 < 2 by decide)
          omega
        have h7 := mul_lt (nat_lt.2 h6) (tw_pos ((q - 1 : Nat) + F.low - 1))
        grind
      · have hn0 : 0 < n := by
          rcases Nat.eq_zero_or_pos n with h0 | h0
          · subst h0
            rcases Nat.eq_zero_or_pos q with h1 | h1
            · subst h1; omega
            · exact absurd ⟨by omega, h1⟩ h
          · exact h0
        have h1 : 0 < q → 2 ^ F.f ≤ n - 1 := by
          intro h0
          have := hl h0
          have : ¬ n ≤ 2 ^ F.f := fun h' => h ⟨h', h0⟩
          omega
        obtain ⟨h3, h4⟩ := F.sg_mk q (n - 1) (by omega) h1
        have e3 : q * 2 ^ F.f + n - 1 = q * 2 ^ F.f + (n - 1) := by omega
        have e4 : 2 * (n - 1) + 1 = 2 * n - 1 := by omega
        unfold Up mid
        rw [e3, h3, h4, e4]
        rcases hd hn0 with h5 | ⟨h5, h6⟩
        · exact .inl h5
        · refine .inr ⟨h5, ?_⟩
          rw [← e3]; omega
    rcases Nat.lt_or_ge m (q * 2 ^ F.f + n - 1) with h1 | h1
    · have h2 := F.mid_lt h1
      rcases hlast with h3 | ⟨h3, _⟩ <;> exact .inl (by grind)
    · obtain rfl : m = q * 2 ^ F.f + n - 1 := by omega
      exact hlast
  refine ⟨Nat.min_le_left _ _, fun m hm => hbelow m (by omega), fun h => ?_⟩
  have hm : min F.inf (q * 2 ^ F.f + n) = q * 2 ^ F.f + n := by omega
  rw [hm]
  by_cases h1 : n < 2 ^ (F.f + 1)
  · obtain ⟨h3, h4⟩ := F.sg_mk q n h1 hl
    unfold Up mid
    rw [h3, h4, par]
    rintro (h5 | ⟨h5, h6⟩) <;> rcases hu with h7 | ⟨h7, h8⟩
    · grind
    · grind
    · grind
    · omega
  · have h1 : n = 2 ^ (F.f + 1) := by omega
    have e3 : q * 2 ^ F.f + n = (q + 1) * 2 ^ F.f + 2 ^ F.f := by rw [h1, Nat.pow_succ, Nat.add_mul]; omega
    obtain ⟨h3, h4⟩ := F.sg_mk (q + 1) (2 ^ F.f) (by rw [Nat.pow_succ]; omega) (fun _ => Nat.le_refl _)
    have h9 := F.lt_mid (q * 2 ^ F.f + n)
    have h10 : F.val (q * 2 ^ F.f + n) = tw (q + F.low + F.f + 1) := by
      unfold val
      rw [e3, h3, h4, ← tw_nat, ← tw_add]; congr 1; omega
    rintro (h5 | ⟨h5, h6⟩) <;> grind
end Fmt
end Flo
section
set_option linter.unusedVariables false
set_option linter.unusedSimpArgs false
namespace Go.Proofs.Ytjjehbedpgdhgaa.Th
open Go.RowKit Go.Proofs.YtjjehbedpgdhgaaW.PrintWords Go.Proofs.YtjjehbedpgdhgaaW.PrintLast Go.Proofs.YtjjehbedpgdhgaaW.PrintMore Go.Proofs.Ytjjehbedpgdhgaa.PA Bit Flo
def f32 : Fmt := ⟨23, -149, 255, by decide, by decide⟩
def f64 : Fmt := ⟨52, -1074, 2047, by decide, by decide⟩
def fmt (w : Int) : Fmt := if w = 32 then f32 else f64
theorem fmt32 : fmt 32 = f32 := rfl
theorem fmt64 : fmt 64 = f64 := rfl
def opn (w : Int) (a : Nat) : Bool × Int × Int × Int :=
  let F := fmt w
  let m := magN w a
  if m = 0 then (sgB w a, 0, 0, 0) else if m < F.inf then (sgB w a, 1, F.ex m, (F.sg m : Int)) else if m = F.inf then (sgB w a, 2, 0, 0) else (false, 3, 0, 0)

theorem ones32 : shape_format_ones.f 8 23 = some 255 := by decide +kernel
theorem low32 : shape_format_low.f 8 23 = some (-149) := by decide +kernel
theorem inf32 : f32.inf = 2139095040 := by decide
theorem sg32 (m : Nat) : f32.sg m = if m < 8388608 then m else 8388608 + m % 8388608 := by
  unfold Fmt.sg; rw [show (2 : Nat) ^ f32.f = 8388608 by decide]
theorem ex32 (m : Nat) : f32.ex m = if m < 8388608 then (-149 : Int) else ((m / 8388608 : Nat) : Int) - 1 + (-149) := by
  unfold Fmt.ex; rw [show (2 : Nat) ^ f32.f = 8388608 by decide]; rfl
theorem opn32 (a : Nat) : opn 32 a = if a % 2147483648 = 0 then (decide (a / 2147483648 % 2 = 1), 0, 0, 0) else if a % 2147483648 < 2139095040 then (decide (a / 2147483648 % 2 = 1), 1, (if a % 2147483648 < 8388608 then (-149 : Int) else ((a % 2147483648 / 8388608 : Nat) : Int) - 1 + (-149)), ((if a % 2147483648 < 8388608 then a % 2147483648 else 8388608 + a % 2147483648 % 8388608 : Nat) : Int))
    else if a % 2147483648 = 2139095040 then (decide (a / 2147483648 % 2 = 1), 2, 0, 0) else (false, 3, 0, 0) := by
  unfold opn
  simp only [show fmt 32 = f32 from rfl, inf32, sg32, ex32, magN, sgB, show sb 32 = 2147483648 by decide]
theorem split32 (a : Nat) (ha : a < 18446744073709551616) : shape_format_split.f 8 23 a = some (8, 23, decide (a / 2147483648 % 2 = 1), ((a / 8388608 % 256 : Nat) : Int), ((a % 8388608 : Nat) : Int)) := by
  unfold shape_format_split.f
  rw [show wrap64 (8 + 23) = 31 by decide +kernel, if_pos (by decide), if_pos (by decide), ones32, Option.bind_some]
  have e1 : shr .u64 (a : Int) 31 = ((a / 2147483648 : Nat) : Int) := by
    unfold shr; rw [show min (31 : Int).toNat IntKind.u64.bits = 31 by decide, show (2 : Int) ^ 31 = 2147483648 by decide]; omega
  have e2 : shr .u64 (a : Int) 23 = ((a / 8388608 : Nat) : Int) := by
    unfold shr; rw [show min (23 : Int).toNat IntKind.u64.bits = 23 by decide, show (2 : Int) ^ 23 = 8388608 by decide]; omega
  have e3 : IntKind.u64.wrap ((shl .u64 1 23) - 1) = ((8388607 : Nat) : Int) := by decide +kernel
  rw [e1, e2, e3, show (1 : Int) = ((1 : Nat) : Int) from rfl, show (255 : Int) = ((255 : Nat) : Int) from rfl,
    u64_and_nat _ 1 (by omega) (by decide), u64_and_nat _ 255 (by omega) (by decide), u64_and_nat a 8388607 ha (by decide)]
  have h1 := and_low (a / 2147483648) 1
  have h2 := and_low (a / 8388608) 8
  have h3 := and_low a 23
  rw [show (2 : Nat) ^ 1 - 1 = 1 by decide, show (2 : Nat) ^ 1 = 2 by decide] at h1
  rw [show (2 : Nat) ^ 8 - 1 = 255 by decide, show (2 : Nat) ^ 8 = 256 by decide] at h2
  rw [show (2 : Nat) ^ 23 - 1 = 8388607 by decide, show (2 : Nat) ^ 23 = 8388608 by decide] at h3
  rw [h1, h2, h3]
  have hb : ((((a / 2147483648 % 2 : Nat) : Int) == ((1 : Nat) : Int)) : Bool) = decide (a / 2147483648 % 2 = 1) := by
    rw [Bool.eq_iff_iff]; simp; omega
  rw [hb]
theorem open32 (a : Nat) (ha : a < 18446744073709551616) : Ev (fun k => shape_Open.f k 32 a) (opn 32 a) := by
  rw [opn32]
  unfold shape_Open.f
  refine Ev.bs (show shape_of.f 32 = some (8, 23, true) by decide) (Ev.pos rfl (Ev.bs (split32 a ha) (Ev.bs ones32 ?_)))
  simp only
  have hP : a % 2147483648 % 8388608 = a % 8388608 := by omega
  have hQ : a % 2147483648 / 8388608 = a / 8388608 % 256 := by omega
  have hT : a / 8388608 % 256 < 256 := Nat.mod_lt _ (by decide)
  have hE : a % 2147483648 = a / 8388608 % 256 * 8388608 + a % 8388608 := by omega
  rw [hP, hQ, hE]
  generalize a / 8388608 % 256 = e at *
  have hF : a % 8388608 < 8388608 := Nat.mod_lt _ (by decide)
  generalize a % 8388608 = fr at *
  generalize decide (a / 2147483648 % 2 = 1) = s
  by_cases h1 : e = 255
  · subst h1
    refine Ev.pos rfl ?_
    refine Ev.step (fun _ => shape_Open.j0.eq_2 ..) ?_
    by_cases h2 : fr = 0
    · subst h2
      refine Ev.neg (by decide) (Ev.bs ones32 (Ev.pos rfl (Ev.out ?_)))
      rw [if_neg (by omega), if_neg (by omega), if_pos (by omega)]
    · refine Ev.pos (by simp; omega) (Ev.out ?_)
      rw [if_neg (by omega), if_neg (by omega), if_neg (by omega)]
  · refine Ev.neg (by omega) ?_
    refine Ev.step (fun _ => shape_Open.j0.eq_2 ..) ?_
    refine Ev.neg (by decide) (Ev.bs ones32 (Ev.neg (by omega) ?_))
    by_cases h2 : e = 0
    · subst h2
      refine Ev.pos rfl (Ev.step (fun _ => shape_Open.j1.eq_2 ..) ?_)
      by_cases h3 : fr = 0
      · subst h3
        refine Ev.pos (by decide) (Ev.out ?_)
        rw [Nat.zero_mul, Nat.zero_add, if_pos rfl]
      · refine Ev.neg (by simp; omega) (Ev.pos rfl (Ev.bs low32 (Ev.out ?_)))
        rw [if_neg (by omega), if_pos (by omega), if_pos (by omega), if_pos (by omega)]
        simp
    · refine Ev.neg (by omega) (Ev.step (fun _ => shape_Open.j1.eq_2 ..) ?_)
      refine Ev.neg (by decide) (Ev.neg (by omega) (Ev.bs low32 (Ev.pos (by decide) (Ev.out ?_))))
      rw [if_neg (by omega), if_pos (by omega), if_neg (by omega), if_neg (by omega)]
      rw [w64_id (n := ((e : Nat) : Int)) (by omega) (by omega), w64_id (n := (-149 : Int) + _) (by omega) (by omega), w64_id (by omega) (by omega)]
      have e4 : shl .u64 1 23 = ((8388608 : Nat) : Int) := by decide +kernel
      rw [e4, u64_or_nat _ _ (by decide) (by omega)]
      have h4 := or_pow fr 1 23 (by rw [show (2 : Nat) ^ 23 = 8388608 by decide]; exact hF)
      rw [Nat.one_mul, show (2 : Nat) ^ 23 = 8388608 by decide, Nat.or_comm] at h4
      rw [h4, Nat.add_comm fr]
      congr 2
      congr 1
      omega

theorem ones64 : shape_format_ones.f 11 52 = some 2047 := by decide +kernel
theorem low64 : shape_format_low.f 11 52 = some (-1074) := by decide +kernel
theorem inf64 : f64.inf = 9218868437227405312 := by decide
theorem sg64 (m : Nat) : f64.sg m = if m < 4503599627370496 then m else 4503599627370496 + m % 4503599627370496 := by
  unfold Fmt.sg; rw [show (2 : Nat) ^ f64.f = 4503599627370496 by decide]
theorem ex64 (m : Nat) : f64.ex m = if m < 4503599627370496 then (-1074 : Int) else ((m / 4503599627370496 : Nat) : Int) - 1 + (-1074) := by
  unfold Fmt.ex; rw [show (2 : Nat) ^ f64.f = 4503599627370496 by decide]; rfl
theorem opn64 (a : Nat) : opn 64 a = if a % 9223372036854775808 = 0 then (decide (a / 9223372036854775808 % 2 = 1), 0, 0, 0) else if a % 9223372036854775808 < 9218868437227405312 then (decide (a / 9223372036854775808 % 2 = 1), 1, (if a % 9223372036854775808 < 4503599627370496 then (-1074 : Int) else ((a % 9223372036854775808 / 4503599627370496 : Nat) : Int) - 1 + (-1074)), ((if a % 9223372036854775808 < 4503599627370496 then a % 9223372036854775808 else 4503599627370496 + a % 9223372036854775808 % 4503599627370496 : Nat) : Int))
    else if a % 9223372036854775808 = 9218868437227405312 then (decide (a / 9223372036854775808 % 2 = 1), 2, 0, 0) else (false, 3, 0, 0) := by
  unfold opn
  simp only [show fmt 64 = f64 from rfl, inf64, sg64, ex64, magN, sgB, show sb 64 = 9223372036854775808 by decide]
theorem split64 (a : Nat) (ha : a < 18446744073709551616) : shape_format_split.f 11 52 a = some (11, 52, decide (a / 9223372036854775808 % 2 = 1), ((a / 4503599627370496 % 2048 : Nat) : Int), ((a % 4503599627370496 : Nat) : Int)) := by
  unfold shape_format_split.f
  rw [show wrap64 (11 + 52) = 63 by decide +kernel, if_pos (by decide), if_pos (by decide), ones64, Option.bind_some]
  have e1 : shr .u64 (a : Int) 63 = ((a / 9223372036854775808 : Nat) : Int) := by
    unfold shr; rw [show min (63 : Int).toNat IntKind.u64.bits = 63 by decide, show (2 : Int) ^ 63 = 9223372036854775808 by decide]; omega
  have e2 : shr .u64 (a : Int) 52 = ((a / 4503599627370496 : Nat) : Int) := by
    unfold shr; rw [show min (52 : Int).toNat IntKind.u64.bits = 52 by decide, show (2 : Int) ^ 52 = 4503599627370496 by decide]; omega
  have e3 : IntKind.u64.wrap ((shl .u64 1 52) - 1) = ((4503599627370495 : Nat) : Int) := by decide +kernel
  rw [e1, e2, e3, show (1 : Int) = ((1 : Nat) : Int) from rfl, show (2047 : Int) = ((2047 : Nat) : Int) from rfl,
    u64_and_nat _ 1 (by omega) (by decide), u64_and_nat _ 2047 (by omega) (by decide), u64_and_nat a 4503599627370495 ha (by decide)]
  have h1 := and_low (a / 9223372036854775808) 1
  have h2 := and_low (a / 4503599627370496) 11
  have h3 := and_low a 52
  rw [show (2 : Nat) ^ 1 - 1 = 1 by decide, show (2 : Nat) ^ 1 = 2 by decide] at h1
  rw [show (2 : Nat) ^ 11 - 1 = 2047 by decide, show (2 : Nat) ^ 11 = 2048 by decide] at h2
  rw [show (2 : Nat) ^ 52 - 1 = 4503599627370495 by decide, show (2 : Nat) ^ 52 = 4503599627370496 by decide] at h3
  rw [h1, h2, h3]
  have hb : ((((a / 9223372036854775808 % 2 : Nat) : Int) == ((1 : Nat) : Int)) : Bool) = decide (a / 9223372036854775808 % 2 = 1) := by
    rw [Bool.eq_iff_iff]; simp; omega
  rw [hb]
theorem open64 (a : Nat) (ha : a < 18446744073709551616) : Ev (fun k => shape_Open.f k 64 a) (opn 64 a) := by
  rw [opn64]
  unfold shape_Open.f
  refine Ev.bs (show shape_of.f 64 = some (11, 52, true) by decide) (Ev.pos rfl (Ev.bs (split64 a ha) (Ev.bs ones64 ?_)))
  simp only
  have hP : a % 9223372036854775808 % 4503599627370496 = a % 4503599627370496 := by omega
  have hQ : a % 9223372036854775808 / 4503599627370496 = a / 4503599627370496 % 2048 := by omega
  have hT : a / 4503599627370496 % 2048 < 2048 := Nat.mod_lt _ (by decide)
  have hE : a % 9223372036854775808 = a / 4503599627370496 % 2048 * 4503599627370496 + a % 4503599627370496 := by omega
  rw [hP, hQ, hE]
  generalize a / 4503599627370496 % 2048 = e at *
  have hF : a % 4503599627370496 < 4503599627370496 := Nat.mod_lt _ (by decide)
  generalize a % 4503599627370496 = fr at *
  generalize decide (a / 9223372036854775808 % 2 = 1) = s
  by_cases h1 : e = 2047
  · subst h1
    refine Ev.pos rfl ?_
    refine Ev.step (fun _ => shape_Open.j0.eq_2 ..) ?_
    by_cases h2 : fr = 0
    · subst h2
      refine Ev.neg (by decide) (Ev.bs ones64 (Ev.pos rfl (Ev.out ?_)))
      rw [if_neg (by omega), if_neg (by omega), if_pos (by omega)]
    · refine Ev.pos (by simp; omega) (Ev.out ?_)
      rw [if_neg (by omega), if_neg (by omega), if_neg (by omega)]
  · refine Ev.neg (by omega) ?_
    refine Ev.step (fun _ => shape_Open.j0.eq_2 ..) ?_
    refine Ev.neg (by decide) (Ev.bs ones64 (Ev.neg (by omega) ?_))
    by_cases h2 : e = 0
    · subst h2
      refine Ev.pos rfl (Ev.step (fun _ => shape_Open.j1.eq_2 ..) ?_)
      by_cases h3 : fr = 0
      · subst h3
        refine Ev.pos (by decide) (Ev.out ?_)
        rw [Nat.zero_mul, Nat.zero_add, if_pos rfl]
      · refine Ev.neg (by simp; omega) (Ev.pos rfl (Ev.bs low64 (Ev.out ?_)))
        rw [if_neg (by omega), if_pos (by omega), if_pos (by omega), if_pos (by omega)]
        simp
    · refine Ev.neg (by omega) (Ev.step (fun _ => shape_Open.j1.eq_2 ..) ?_)
      refine Ev.neg (by decide) (Ev.neg (by omega) (Ev.bs low64 (Ev.pos (by decide) (Ev.out ?_))))
      rw [if_neg (by omega), if_pos (by omega), if_neg (by omega), if_neg (by omega)]
      rw [w64_id (n := ((e : Nat) : Int)) (by omega) (by omega), w64_id (n := (-1074 : Int) + _) (by omega) (by omega), w64_id (by omega) (by omega)]
      have e4 : shl .u64 1 52 = ((4503599627370496 : Nat) : Int) := by decide +kernel
      rw [e4, u64_or_nat _ _ (by decide) (by omega)]
      have h4 := or_pow fr 1 52 (by rw [show (2 : Nat) ^ 52 = 4503599627370496 by decide]; exact hF)
      rw [Nat.one_mul, show (2 : Nat) ^ 52 = 4503599627370496 by decide, Nat.or_comm] at h4
      rw [h4, Nat.add_comm fr]
      congr 2
      congr 1
      omega

theorem openS (w : Int) (hw : w = 32 ∨ w = 64) (a : Nat) (ha : a < 18446744073709551616) : Ev (fun k => shape_Open.f k w a) (opn w a) := by
  rcases hw with rfl | rfl
  · exact open32 a ha
  · exact open64 a ha
theorem two_i {n : Int} (m : Nat) (h : n = m) (hm : m < 64) : Ev (fun k => r2_Two.f k n) ((2 ^ m : Nat) : Int) := by subst h; exact two_f m hm

theorem r2E32 : r2_E.f 32 = some 8 := by decide +kernel
theorem r2F32 : r2_F.f 32 = some 23 := by decide +kernel
theorem r2B32 : r2_B.f 32 = some 127 := by decide +kernel
theorem r2Tf32 : Ev (fun k => r2_Two.f k 23) ((8388608 : Nat) : Int) := by have h := two_i (n := 23) 23 rfl (by decide); rw [show (2 : Nat) ^ 23 = 8388608 by decide] at h; exact h
theorem r2Te32 : Ev (fun k => r2_Two.f k 8) ((256 : Nat) : Int) := by have h := two_i (n := 8) 8 rfl (by decide); rw [show (2 : Nat) ^ 8 = 256 by decide] at h; exact h
theorem r2Exp32 (a : Nat) (ha : a < 18446744073709551616) : Ev (fun k => r2_Exp.f k 32 a) ((a / 8388608 % 256 : Nat) : Int) := by
  unfold r2_Exp.f
  refine Ev.bs (r2Cut 32 a (by decide)) (Ev.bs r2F32 (Ev.bind r2Tf32 (Ev.neg (by decide) (Ev.bs r2E32 (Ev.bind r2Te32 (Ev.neg (by decide) (Ev.out ?_)))))))
  have hc : cutN 32 a = a % 4294967296 := by unfold cutN; rw [if_pos rfl]
  rw [hc, Int.tdiv_eq_ediv_of_nonneg (by omega), u64_id (by omega) (by omega), Int.tmod_eq_emod_of_nonneg (by omega), w64_id (by omega) (by omega)]
  omega
theorem r2Frac32 (a : Nat) (ha : a < 18446744073709551616) : Ev (fun k => r2_Frac.f k 32 a) ((a % 8388608 : Nat) : Int) := by
  unfold r2_Frac.f
  refine Ev.bs r2F32 (Ev.bind r2Tf32 (Ev.neg (by decide) (Ev.out ?_)))
  rw [Int.tmod_eq_emod_of_nonneg (by omega)]; omega
theorem r2Top32 : Ev (fun k => r2_Top.f k 32) ((255 : Nat) : Int) := by
  unfold r2_Top.f
  exact Ev.bs r2E32 (Ev.bind r2Te32 (Ev.out (by decide +kernel)))
theorem r2Open32 (a : Nat) (ha : a < 18446744073709551616) : Ev (fun k => r2_Open.f k 32 a) (opn 32 a) := by
  rw [opn32]
  unfold r2_Open.f
  refine Ev.bind (r2Exp32 a ha) (Ev.bind (r2Frac32 a ha) (Ev.bind (r2Neg 32 (by decide) a ha) (Ev.bind r2Top32 ?_)))
  unfold sgB
  rw [show sb 32 = 2147483648 by decide]
  have hP : a % 2147483648 % 8388608 = a % 8388608 := by omega
  have hQ : a % 2147483648 / 8388608 = a / 8388608 % 256 := by omega
  have hT : a / 8388608 % 256 < 256 := Nat.mod_lt _ (by decide)
  have hE : a % 2147483648 = a / 8388608 % 256 * 8388608 + a % 8388608 := by omega
  rw [hP, hQ, hE]
  generalize a / 8388608 % 256 = e at *
  have hF : a % 8388608 < 8388608 := Nat.mod_lt _ (by decide)
  generalize a % 8388608 = fr at *
  generalize decide (a / 2147483648 % 2 = 1) = s
  by_cases h1 : e = 255
  · subst h1
    refine Ev.pos rfl ?_
    by_cases h2 : fr = 0
    · subst h2
      refine Ev.pos rfl (Ev.out ?_)
      rw [if_neg (by omega), if_neg (by omega), if_pos (by omega)]
    · refine Ev.neg (by omega) (Ev.out ?_)
      rw [if_neg (by omega), if_neg (by omega), if_neg (by omega)]
  · refine Ev.neg (by omega) ?_
    by_cases h2 : e = 0
    · subst h2
      refine Ev.pos rfl ?_
      by_cases h3 : fr = 0
      · subst h3
        refine Ev.pos rfl (Ev.out ?_)
        rw [Nat.zero_mul, Nat.zero_add, if_pos rfl]
      · refine Ev.neg (by omega) (Ev.bs r2B32 (Ev.bs r2F32 (Ev.out ?_)))
        rw [if_neg (by omega), if_pos (by omega), if_pos (by omega), if_pos (by omega), show wrap64 (wrap64 (1 - 127) - 23) = (-149 : Int) by decide +kernel]
        simp
    · refine Ev.neg (by omega) (Ev.bs r2B32 (Ev.bs r2F32 (Ev.bs r2F32 (Ev.bind r2Tf32 (Ev.out ?_)))))
      rw [if_neg (by omega), if_pos (by omega), if_neg (by omega), if_neg (by omega)]
      rw [w64_id (n := ((e : Nat) : Int) - 127) (by omega) (by omega), w64_id (by omega) (by omega), u64_id (by omega) (by omega)]
      congr 2
      congr 1
      omega

theorem r2E64 : r2_E.f 64 = some 11 := by decide +kernel
theorem r2F64 : r2_F.f 64 = some 52 := by decide +kernel
theorem r2B64 : r2_B.f 64 = some 1023 := by decide +kernel
theorem r2Tf64 : Ev (fun k => r2_Two.f k 52) ((4503599627370496 : Nat) : Int) := by have h := two_i (n := 52) 52 rfl (by decide); rw [show (2 : Nat) ^ 52 = 4503599627370496 by decide] at h; exact h
theorem r2Te64 : Ev (fun k => r2_Two.f k 11) ((2048 : Nat) : Int) := by have h := two_i (n := 11) 11 rfl (by decide); rw [show (2 : Nat) ^ 11 = 2048 by decide] at h; exact h
theorem r2Exp64 (a : Nat) (ha : a < 18446744073709551616) : Ev (fun k => r2_Exp.f k 64 a) ((a / 4503599627370496 % 2048 : Nat) : Int) := by
  unfold r2_Exp.f
  refine Ev.bs (r2Cut 64 a (by decide)) (Ev.bs r2F64 (Ev.bind r2Tf64 (Ev.neg (by decide) (Ev.bs r2E64 (Ev.bind r2Te64 (Ev.neg (by decide) (Ev.out ?_)))))))
  have hc : cutN 64 a = a % 18446744073709551616 := by unfold cutN; rw [if_neg (by decide), if_pos rfl]; omega
  rw [hc, Int.tdiv_eq_ediv_of_nonneg (by omega), u64_id (by omega) (by omega), Int.tmod_eq_emod_of_nonneg (by omega), w64_id (by omega) (by omega)]
  omega
theorem r2Frac64 (a : Nat) (ha : a < 18446744073709551616) : Ev (fun k => r2_Frac.f k 64 a) ((a % 4503599627370496 : Nat) : Int) := by
  unfold r2_Frac.f
  refine Ev.bs r2F64 (Ev.bind r2Tf64 (Ev.neg (by decide) (Ev.out ?_)))
  rw [Int.tmod_eq_emod_of_nonneg (by omega)]; omega
theorem r2Top64 : Ev (fun k => r2_Top.f k 64) ((2047 : Nat) : Int) := by
  unfold r2_Top.f
  exact Ev.bs r2E64 (Ev.bind r2Te64 (Ev.out (by decide +kernel)))
theorem r2Open64 (a : Nat) (ha : a < 18446744073709551616) : Ev (fun k => r2_Open.f k 64 a) (opn 64 a) := by
  rw [opn64]
  unfold r2_Open.f
  refine Ev.bind (r2Exp64 a ha) (Ev.bind (r2Frac64 a ha) (Ev.bind (r2Neg 64 (by decide) a ha) (Ev.bind r2Top64 ?_)))
  unfold sgB
  rw [show sb 64 = 9223372036854775808 by decide]
  have hP : a % 9223372036854775808 % 4503599627370496 = a % 4503599627370496 := by omega
  have hQ : a % 9223372036854775808 / 4503599627370496 = a / 4503599627370496 % 2048 := by omega
  have hT : a / 4503599627370496 % 2048 < 2048 := Nat.mod_lt _ (by decide)
  have hE : a % 9223372036854775808 = a / 4503599627370496 % 2048 * 4503599627370496 + a % 4503599627370496 := by omega
  rw [hP, hQ, hE]
  generalize a / 4503599627370496 % 2048 = e at *
  have hF : a % 4503599627370496 < 4503599627370496 := Nat.mod_lt _ (by decide)
  generalize a % 4503599627370496 = fr at *
  generalize decide (a / 9223372036854775808 % 2 = 1) = s
  by_cases h1 : e = 2047
  · subst h1
    refine Ev.pos rfl ?_
    by_cases h2 : fr = 0
    · subst h2
      refine Ev.pos rfl (Ev.out ?_)
      rw [if_neg (by omega), if_neg (by omega), if_pos (by omega)]
    · refine Ev.neg (by omega) (Ev.out ?_)
      rw [if_neg (by omega), if_neg (by omega), if_neg (by omega)]
  · refine Ev.neg (by omega) ?_
    by_cases h2 : e = 0
    · subst h2
      refine Ev.pos rfl ?_
      by_cases h3 : fr = 0
      · subst h3
        refine Ev.pos rfl (Ev.out ?_)
        rw [Nat.zero_mul, Nat.zero_add, if_pos rfl]
      · refine Ev.neg (by omega) (Ev.bs r2B64 (Ev.bs r2F64 (Ev.out ?_)))
        rw [if_neg (by omega), if_pos (by omega), if_pos (by omega), if_pos (by omega), show wrap64 (wrap64 (1 - 1023) - 52) = (-1074 : Int) by decide +kernel]
        simp
    · refine Ev.neg (by omega) (Ev.bs r2B64 (Ev.bs r2F64 (Ev.bs r2F64 (Ev.bind r2Tf64 (Ev.out ?_)))))
      rw [if_neg (by omega), if_pos (by omega), if_neg (by omega), if_neg (by omega)]
      rw [w64_id (n := ((e : Nat) : Int) - 1023) (by omega) (by omega), w64_id (by omega) (by omega), u64_id (by omega) (by omega)]
      congr 2
      congr 1
      omega
theorem r2Open (w : Int) (hw : w = 32 ∨ w = 64) (a : Nat) (ha : a < 18446744073709551616) : Ev (fun k => r2_Open.f k w a) (opn w a) := by
  rcases hw with rfl | rfl
  · exact r2Open32 a ha
  · exact r2Open64 a ha
def nn (w : Int) (a : Nat) : Bool := (opn w a).2.1 == 3
end Go.Proofs.Ytjjehbedpgdhgaa.Th
end
namespace Dig
def dgB (B n : Nat) : List Int := if _h : n = 0 ∨ B < 2 then [] else ((n % B : Nat) : Int) :: dgB B (n / B)
termination_by n
decreasing_by exact Nat.div_lt_self (by omega) (by omega)
def valB (B : Nat) : List Int → Nat
  | [] => 0
  | d :: l => d.toNat + B * valB B l
def OkB (B : Nat) (l : List Int) : Prop := ∀ d ∈ l, 0 ≤ d ∧ d < B
section
variable {B : Nat}
theorem dgB_zero : dgB B 0 = [] := by rw [dgB, dif_pos (.inl rfl)]
theorem dgB_pos (hB : 2 ≤ B) {n : Nat} (h : 0 < n) : dgB B n = ((n % B : Nat) : Int) :: dgB B (n / B) := by rw [dgB, dif_neg (by omega)]
theorem OkB.nil : OkB B [] := fun _ h => by cases h
theorem OkB.cons {d : Int} {l : List Int} (h : 0 ≤ d ∧ d < B) (k : OkB B l) : OkB B (d :: l) := fun x hx => by
  rcases List.mem_cons.1 hx with rfl | hx
  · exact h
  · exact k x hx
theorem OkB.snoc {d : Int} {l : List Int} (k : OkB B l) (h : 0 ≤ d ∧ d < B) : OkB B (l ++ [d]) := fun x hx => by
  rcases List.mem_append.1 hx with hx | hx
  · exact k x hx
  · rcases List.mem_singleton.1 hx with rfl; exact h
theorem OkB.head {d : Int} {l : List Int} (k : OkB B (d :: l)) : 0 ≤ d ∧ d < B := k d List.mem_cons_self
theorem OkB.tail {d : Int} {l : List Int} (k : OkB B (d :: l)) : OkB B l := fun x hx => k x (List.mem_cons_of_mem _ hx)
theorem OkB.take {l : List Int} (k : OkB B l) (i : Nat) : OkB B (l.take i) := fun x hx => k x (List.mem_of_mem_take hx)
theorem okB_dg (hB : 2 ≤ B) (n : Nat) : OkB B (dgB B n) := by
  induction n using Nat.strongRecOn with
  | _ n ih =>
    rcases Nat.eq_zero_or_pos n with h | h
    · subst h; rw [dgB_zero]; exact OkB.nil
    · rw [dgB_pos hB h]
      refine OkB.cons ⟨by omega, ?_⟩ (ih _ (Nat.div_lt_self h (by omega)))
      have := Nat.mod_lt n (show 0 < B by omega)
      omega
theorem valB_dg (hB : 2 ≤ B) (n : Nat) : valB B (dgB B n) = n := by
  induction n using Nat.strongRecOn with
  | _ n ih =>
    rcases Nat.eq_zero_or_pos n with h | h
    · subst h; rw [dgB_zero]; rfl
    · rw [dgB_pos hB h, valB, ih _ (Nat.div_lt_self h (by omega)), Int.toNat_natCast]
      exact Nat.mod_add_div n B
theorem valB_append (l m : List Int) : valB B (l ++ m) = valB B l + B ^ l.length * valB B m := by
  induction l with
  | nil => simp [valB]
  | cons d l ih =>
    simp only [List.cons_append, valB, ih, List.length_cons, Nat.pow_succ, Nat.mul_add]
    rw [Nat.add_assoc, Nat.mul_comm (B ^ l.length) B, Nat.mul_assoc]
theorem valB_snoc (l : List Int) (d : Int) : valB B (l ++ [d]) = valB B l + B ^ l.length * d.toNat := by rw [valB_append]; simp [valB]
theorem valB_lt {l : List Int} (h : OkB B l) : valB B l < B ^ l.length := by
  induction l with
  | nil => simp [valB]
  | cons d l ih =>
    have h1 := ih h.tail
    have h2 := h.head
    simp only [valB, List.length_cons, Nat.pow_succ]
    have h4 : B * (valB B l + 1) ≤ B * B ^ l.length := Nat.mul_le_mul_left _ h1
    rw [Nat.mul_add, Nat.mul_one, Nat.mul_comm B (B ^ l.length)] at h4
    have : d.toNat < B := by omega
    omega
theorem valB_zeros (n : Nat) : valB B (List.replicate n 0) = 0 := by
  induction n with
  | zero => rfl
  | succ n ih => rw [List.replicate_succ, valB, ih]; simp
theorem okB_zeros (hB : 2 ≤ B) (n : Nat) : OkB B (List.replicate n 0) := fun x hx => by
  rw [List.eq_of_mem_replicate hx]; omega
theorem atB_val (hB : 2 ≤ B) {l : List Int} (h : OkB B l) (i : Nat) : (l.getD i 0).toNat = valB B l / B ^ i % B := by
  induction l generalizing i with
  | nil => simp [valB]
  | cons d l ih =>
    have h2 := h.head
    have h3 : d.toNat < B := by omega
    cases i with
    | zero =>
      simp only [List.getD_cons_zero, valB, Nat.pow_zero, Nat.div_one, Nat.add_mul_mod_self_left]
      rw [Nat.mod_eq_of_lt h3]
    | succ i =>
      simp only [List.getD_cons_succ, valB]
      rw [ih h.tail, Nat.pow_succ, Nat.mul_comm (B ^ i) B, ← Nat.div_div_eq_div_mul, Nat.add_mul_div_left _ _ (show 0 < B by omega), Nat.div_eq_of_lt h3, Nat.zero_add]
theorem okB_getD (hB : 2 ≤ B) {l : List Int} (h : OkB B l) (i : Nat) : 0 ≤ l.getD i 0 ∧ l.getD i 0 < B := by
  rcases Nat.lt_or_ge i l.length with hi | hi
  · rw [List.getD_eq_getElem?_getD, List.getElem?_eq_getElem hi]; exact h _ (List.getElem_mem hi)
  · rw [List.getD_eq_getElem?_getD, List.getElem?_eq_none hi]; simp; omega
theorem getDB_val (hB : 2 ≤ B) {l : List Int} (h : OkB B l) (i : Nat) : l.getD i 0 = ((valB B l / B ^ i % B : Nat) : Int) := by
  have h1 := atB_val hB h i
  have h2 := okB_getD hB h i
  rw [← h1]; omega
theorem lengthB_le (hB : 2 ≤ B) {n k : Nat} (h : n < B ^ k) : (dgB B n).length ≤ k := by
  induction k generalizing n with
  | zero => obtain rfl : n = 0 := by simpa using h
            rw [dgB_zero]; simp
  | succ k ih =>
    rcases Nat.eq_zero_or_pos n with h0 | h0
    · subst h0; rw [dgB_zero]; simp
    · rw [dgB_pos hB h0, List.length_cons]
      have : n / B < B ^ k := by rw [Nat.div_lt_iff_lt_mul (by omega)]; rwa [Nat.pow_succ] at h
      have := ih this
      omega
theorem dgB_val (hB : 2 ≤ B) {l : List Int} (h : OkB B l) (h0 : ∀ d, l.getLast? = some d → d ≠ 0) : dgB B (valB B l) = l := by
  induction l with
  | nil => rw [valB, dgB_zero]
  | cons d l ih =>
    have h2 := h.head
    have h4 : d.toNat < B := by omega
    have h3 : dgB B (valB B l) = l := by
      refine ih h.tail fun e he => ?_
      cases l with
      | nil => cases he
      | cons e' l' => exact h0 e (by rwa [List.getLast?_cons_cons])
    have hp : 0 < valB B (d :: l) := by
      rw [valB]
      rcases Nat.eq_zero_or_pos (valB B l) with hv | hv
      · rw [hv, dgB_zero] at h3
        subst h3
        have := h0 d rfl
        omega
      · have : 1 ≤ B * valB B l := Nat.mul_pos (by omega) hv
        omega
    rw [dgB_pos hB hp, valB, Nat.add_mul_mod_self_left, Nat.add_mul_div_left _ _ (by omega), Nat.mod_eq_of_lt h4, Nat.div_eq_of_lt h4, Nat.zero_add, h3, Int.toNat_of_nonneg h2.1]
theorem modB_succ (n i : Nat) : n % B ^ (i + 1) = n % B ^ i + B ^ i * (n / B ^ i % B) := by
  rw [Nat.pow_succ, Nat.mod_mul]
theorem divB_step (n i : Nat) : n / B ^ i = n / B ^ (i + 1) * B + n / B ^ i % B := by
  rw [Nat.pow_succ, ← Nat.div_div_eq_div_mul]
  have := Nat.div_add_mod (n / B ^ i) B
  rw [Nat.mul_comm] at this
  omega
end
theorem W2 : 2 ≤ 4294967296 := by decide
def dg (n : Nat) : List Int := dgB 4294967296 n
def val (l : List Int) : Nat := valB 4294967296 l
def Ok (l : List Int) : Prop := ∀ d ∈ l, 0 ≤ d ∧ d < 4294967296
theorem Ok.up {l : List Int} (h : Ok l) : OkB 4294967296 l := h
theorem Ok.nil : Ok [] := fun _ h => by cases h
theorem Ok.cons {d : Int} {l : List Int} (h : 0 ≤ d ∧ d < 4294967296) (k : Ok l) : Ok (d :: l) := OkB.cons (B := 4294967296) h k
theorem Ok.snoc {d : Int} {l : List Int} (k : Ok l) (h : 0 ≤ d ∧ d < 4294967296) : Ok (l ++ [d]) := OkB.snoc (B := 4294967296) k h
theorem Ok.take {l : List Int} (k : Ok l) (i : Nat) : Ok (l.take i) := OkB.take (B := 4294967296) k i
theorem ok_zeros (n : Nat) : Ok (List.replicate n 0) := okB_zeros W2 n
theorem ok_dg (n : Nat) : Ok (dg n) := okB_dg W2 n
theorem dg_zero : dg 0 = [] := dgB_zero
theorem val_dg (n : Nat) : val (dg n) = n := valB_dg W2 n
theorem val_nil : val [] = 0 := rfl
theorem val_cons (d : Int) (l : List Int) : val (d :: l) = d.toNat + 4294967296 * val l := rfl
theorem val_snoc (l : List Int) (d : Int) : val (l ++ [d]) = val l + 4294967296 ^ l.length * d.toNat := valB_snoc l d
theorem val_lt {l : List Int} (h : Ok l) : val l < 4294967296 ^ l.length := valB_lt h
theorem val_zeros (n : Nat) : val (List.replicate n 0) = 0 := valB_zeros n
theorem dg_val {l : List Int} (h : Ok l) (h0 : ∀ d, l.getLast? = some d → d ≠ 0) : dg (val l) = l := dgB_val W2 h h0
theorem getD_val {l : List Int} (h : Ok l) (i : Nat) : l.getD i 0 = ((val l / 4294967296 ^ i % 4294967296 : Nat) : Int) := getDB_val W2 h i
theorem getD_dg (n i : Nat) : (dg n).getD i 0 = ((n / 4294967296 ^ i % 4294967296 : Nat) : Int) := by rw [getD_val (ok_dg n), val_dg]
theorem len_le {n k : Nat} (h : n < 4294967296 ^ k) : (dg n).length ≤ k := lengthB_le W2 h
theorem lt_len (n : Nat) : n < 4294967296 ^ (dg n).length := by
  have := val_lt (ok_dg n); rwa [val_dg] at this
theorem lt_of_len {n i : Nat} (h : (dg n).length ≤ i) : n < 4294967296 ^ i := Nat.lt_of_lt_of_le (lt_len n) (Nat.pow_le_pow_right (by decide) h)
theorem len_pos {n : Nat} : 0 < (dg n).length ↔ 0 < n := by
  rcases Nat.eq_zero_or_pos n with h | h
  · subst h; rw [dg_zero]; simp
  · unfold dg; rw [dgB_pos W2 h]; simp [h]
theorem mod_len {n i : Nat} (h : (dg n).length ≤ i) : n % 4294967296 ^ i = n := Nat.mod_eq_of_lt (lt_of_len h)
theorem mod_succ (n i : Nat) : n % 4294967296 ^ (i + 1) = n % 4294967296 ^ i + 4294967296 ^ i * (n / 4294967296 ^ i % 4294967296) := modB_succ n i
theorem div_step (n i : Nat) : n / 4294967296 ^ i = n / 4294967296 ^ (i + 1) * 4294967296 + n / 4294967296 ^ i % 4294967296 := divB_step n i
theorem word_lt (n i : Nat) : n / 4294967296 ^ i % 4294967296 < 4294967296 := Nat.mod_lt _ (by decide)
end Dig
section
set_option linter.unusedVariables false
set_option linter.unusedSimpArgs false
namespace Go.Proofs.Ytjjehbedpgdhgaa.Th
open Go.RowKit Go.Proofs.YtjjehbedpgdhgaaW.PrintWords Go.Proofs.YtjjehbedpgdhgaaW.PrintLast Go.Proofs.YtjjehbedpgdhgaaW.PrintMore Go.Proofs.Ytjjehbedpgdhgaa.PA Dig

theorem at_dg (n i : Nat) : r1_at.f (dg n) i = some ((n / 4294967296 ^ i % 4294967296 : Nat) : Int) := by
  unfold r1_at.f
  by_cases h : (i : Int) < ((dg n).length : Int)
  · rw [if_pos h, if_pos (by omega)]
    unfold rd
    rw [Int.toNat_natCast, getD_dg]
  · rw [if_neg h]
    have h1 : n / 4294967296 ^ i = 0 := by
      refine Nat.div_eq_of_lt ?_
      have h1 := val_lt (ok_dg n)
      rw [val_dg] at h1
      exact Nat.lt_of_lt_of_le h1 (Nat.pow_le_pow_right (by decide) (by omega))
    rw [h1]; rfl
theorem trim_from (l : List Int) (hl : Ok l) (hn : l.length < 4611686018427387904) (i : Nat) : i ≤ l.length → val (l.take i) = val l → Ev (fun k => r1_trim.l0 k l i) (dg (val l)) := by
  induction i with
  | zero =>
    intro _ hv
    refine Ev.step (fun _ => r1_trim.l0.eq_2 ..) ?_
    refine Ev.neg (by omega) (Ev.pos (by omega) (Ev.pos (by omega) (Ev.out ?_)))
    rw [← hv]
    simp [val_nil, dg_zero]
  | succ i ih =>
    intro hi hv
    refine Ev.step (fun _ => r1_trim.l0.eq_2 ..) ?_
    have e : wrap64 (((i + 1 : Nat) : Int) - 1) = i := by rw [w64_id (by omega) (by omega)]; omega
    rw [e]
    refine Ev.pos (by omega) (Ev.pos (by omega) (Ev.pos (by omega) ?_))
    have er : rd l (i : Int) = l.getD i 0 := by unfold rd; rw [Int.toNat_natCast]
    rw [er]
    have et : l.take (i + 1) = l.take i ++ [l.getD i 0] := by
      rw [List.take_succ_eq_append_getElem (by omega), List.getD_eq_getElem?_getD, List.getElem?_eq_getElem (by omega)]; rfl
    by_cases h : l.getD i 0 = 0
    · refine Ev.pos h (ih (by omega) ?_)
      rw [et, val_snoc, h] at hv
      simpa using hv
    · refine Ev.neg h (Ev.pos (by omega) (Ev.pos (by omega) (Ev.out ?_)))
      rw [← hv, Int.toNat_natCast]
      refine (dg_val (hl.take _) fun d hd => ?_).symm
      rw [et, List.getLast?_concat] at hd
      injection hd with hd
      rw [← hd]; exact h
theorem trim_val (l : List Int) (hl : Ok l) (hn : l.length < 4611686018427387904) : Ev (fun k => r1_trim.f k l) (dg (val l)) :=
  trim_from l hl hn l.length (Nat.le_refl _) (by rw [List.take_length])

theorem of_dg (n : Nat) (hn : n < 18446744073709551616) : Ev (fun k => r1_Of.f k n) (dg n) := by
  unfold r1_Of.f
  have e1 : Int.tmod (n : Int) 4294967296 = ((n % 4294967296 : Nat) : Int) := by rw [Int.tmod_eq_emod_of_nonneg (by omega)]; omega
  have e2 : IntKind.u64.wrap (Int.tdiv (n : Int) 4294967296) = ((n / 4294967296 : Nat) : Int) := by
    rw [Int.tdiv_eq_ediv_of_nonneg (by omega), u64_id (by omega) (by omega)]; omega
  rw [e1, e2]
  refine Ev.bind (trim_val _ (Ok.cons (by omega) (Ok.cons (by omega) Ok.nil)) (by simp)) (Ev.out ?_)
  congr 1
  simp only [val_cons, val_nil, Int.toNat_natCast]
  omega

theorem add_loop (m n : Nat) (hm : (dg m).length < 1000000000000) (hn : (dg n).length < 1000000000000) (d : Nat) : ∀ (x : List Int) (c i : Nat), Ok x → x.length = i → c ≤ 1 → i ≤ max (dg m).length (dg n).length + 1 →
    val x + c * 4294967296 ^ i = m % 4294967296 ^ i + n % 4294967296 ^ i → max (dg m).length (dg n).length + 1 - i = d →
    Ev (fun k => r1_Add.l0 k x c i (dg m) (dg n)) (dg (m + n)) := by
  induction d with
  | zero =>
    intro x c i hx hl hc hi hv hd
    have h1 := mod_len (n := m) (i := i) (by omega)
    have h2 := mod_len (n := n) (i := i) (by omega)
    rw [h1, h2] at hv
    refine Ev.step (fun _ => r1_Add.l0.eq_2 ..) ?_
    have hm' : m < 4294967296 ^ (i - 1) := by
      have h1 := val_lt (ok_dg m)
      rw [val_dg] at h1
      exact Nat.lt_of_lt_of_le h1 (Nat.pow_le_pow_right (by decide) (by omega))
    have hn' : n < 4294967296 ^ (i - 1) := by
      have h1 := val_lt (ok_dg n)
      rw [val_dg] at h1
      exact Nat.lt_of_lt_of_le h1 (Nat.pow_le_pow_right (by decide) (by omega))
    have e : 4294967296 ^ i = 4294967296 ^ (i - 1) * 4294967296 := by rw [← Nat.pow_succ]; congr 1; omega
    have hc0 : c = 0 := by
      rcases Nat.eq_zero_or_pos c with h | h
      · exact h
      · obtain rfl : c = 1 := by omega
        rw [e] at hv
        omega
    subst hc0
    have hmx : mx ((dg m).length : Int) ((dg n).length : Int) = ((max (dg m).length (dg n).length : Nat) : Int) := by unfold mx; split <;> omega
    rw [hmx]
    refine Ev.neg (by omega) ?_
    refine Ev.step (fun _ => r1_Add.j1.eq_2 ..) ?_
    refine Ev.neg (by simp) (Ev.bind (trim_val x hx (by omega)) (Ev.out ?_))
    congr 1
    omega
  | succ d ih =>
    intro x c i hx hl hc hi hv hd
    refine Ev.step (fun _ => r1_Add.l0.eq_2 ..) ?_
    have hmx : mx ((dg m).length : Int) ((dg n).length : Int) = ((max (dg m).length (dg n).length : Nat) : Int) := by unfold mx; split <;> omega
    rw [hmx]
    -- the round
    have round : Ev (fun k => r1_Add.j1 k x c i true (dg m) (dg n)) (dg (m + n)) := by
      refine Ev.step (fun _ => r1_Add.j1.eq_2 ..) ?_
      refine Ev.pos rfl (Ev.bs (at_dg m i) (Ev.bs (at_dg n i) (Ev.pos (by omega) ?_)))
      have h1 := word_lt m i
      have h2 := word_lt n i
      have s1 := mod_succ m i
      have s2 := mod_succ n i
      generalize m / 4294967296 ^ i % 4294967296 = A at *
      generalize n / 4294967296 ^ i % 4294967296 = A' at *
      rw [u64_id (n := (A : Int) + A') (by omega) (by omega), u64_id (by omega) (by omega), Int.tmod_eq_emod_of_nonneg (by omega), Int.tdiv_eq_ediv_of_nonneg (by omega), u64_id (by omega) (by omega), w64_id (by omega) (by omega)]
      rw [show ((A : Int) + A' + c) % 4294967296 = (((A + A' + c) % 4294967296 : Nat) : Int) by omega, show ((A : Int) + A' + c) / 4294967296 = (((A + A' + c) / 4294967296 : Nat) : Int) by omega, show (i : Int) + 1 = ((i + 1 : Nat) : Int) by omega]
      refine ih (x ++ [(((A + A' + c) % 4294967296 : Nat) : Int)]) ((A + A' + c) / 4294967296) (i + 1) (hx.snoc (by omega)) (by simp [hl]) (by omega) (by omega) ?_ (by omega)
      rw [val_snoc, hl, s1, s2, Int.toNat_natCast, Nat.pow_succ]
      have h4 : 4294967296 ^ i * ((A + A' + c) % 4294967296) + (A + A' + c) / 4294967296 * (4294967296 ^ i * 4294967296) = 4294967296 ^ i * A + 4294967296 ^ i * A' + c * 4294967296 ^ i := by
        have h5 := Nat.mod_add_div (A + A' + c) 4294967296
        have h6 := congrArg (4294967296 ^ i * ·) h5
        simp only [Nat.mul_add] at h6
        rw [Nat.mul_comm c, ← h6]
        congr 1
        rw [Nat.mul_comm ((A + A' + c) / 4294967296), Nat.mul_assoc]
      omega
    by_cases h : (i : Int) < ((max (dg m).length (dg n).length : Nat) : Int)
    · exact Ev.pos h round
    · refine Ev.neg h ?_
      by_cases h0 : c = 0
      · subst h0
        have h1 := mod_len (n := m) (i := i) (by omega)
        have h2 := mod_len (n := n) (i := i) (by omega)
        rw [h1, h2] at hv
        refine Ev.step (fun _ => r1_Add.j1.eq_2 ..) ?_
        refine Ev.neg (by simp) (Ev.bind (trim_val x hx (by omega)) (Ev.out ?_))
        congr 1
        omega
      · have : decide ((c : Int) > 0) = true := by simp; omega
        rw [this]; exact round
theorem add_dg (m n : Nat) (hm : (dg m).length < 1000000000000) (hn : (dg n).length < 1000000000000) : Ev (fun k => r1_Add.f k (dg m) (dg n)) (dg (m + n)) := by
  have h := add_loop m n hm hn _ [] 0 0 Ok.nil rfl (by omega) (by omega) (by simp [val_nil, Nat.mod_one]) rfl
  exact h
end Go.Proofs.Ytjjehbedpgdhgaa.Th
end
