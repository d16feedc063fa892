/- What the Go functions that the statement TopRoots reaches compute, and the mathematics on it, in the order in which one leans on the other; for every input. -/
import Derived.Test.YtnmlmgmljoncoaaGreatDoorVTopRoots1
import Derived.Test.YtnmlmgmljoncoaaGreatDoorMTopRoots0
import Derived.Test.YtnmlmgmljoncoaaGreatDoorMTopRoots9
import Derived.Test.YtnmlmgmljoncoaaGreatDoorMTopRoots3
import Derived.Test.YtnmlmgmljoncoaaGreatDoorMTopRoots7
import Derived.Test.YtnmlmgmljoncoaaGreatDoorMTopRoots5
import Derived.Test.YtnmlmgmljoncoaaGreatDoorMTopRoots1
import Derived.Deep.RegionHeld3
import Derived.Test.YtnmlmgmljoncoaaGreatDoorMTopRoots2
import Derived.Test.YtnmlmgmljoncoaaGreatDoorMTopRoots4
import Derived.Test.YtnmlmgmljoncoaaGreatDoorMTopRoots6
import Derived.Test.YtnmlmgmljoncoaaGreatDoorMTopRoots8
import Derived.Test.YtnmlmgmljoncoaaGreatDoorRows
import Derived.ProofKit
import Derived.JoinedOf
import Derived.KernelRfl
/- trunniontop.TopRoots, whose literal reads a local. -/
namespace Go.Proofs.YtnmlmgmljoncoaaGreatDoor.PA
open Go.RowKit Go.Proofs.YtnmlmgmljoncoaaGreatDoorW.PrintWords Go.Proofs.YtnmlmgmljoncoaaGreatDoorW.PrintLast Go.Proofs.YtnmlmgmljoncoaaGreatDoorW.PrintMore
attribute [local go_sem] max2_int min2_int max_two min_two max_three min_three max_four min_four   -- for this text's walks alone
set_option linter.unusedVariables false
set_option linter.unusedSimpArgs false
theorem tpOf (k : Nat) (a0 : Int) (l : List Int) (w : World) (h : r1_Of.f k a0 = some l) : Calls Tryz.prog 13 #[.int .u64 a0] w fun e w' => ∃ A c, e = .returned (.agg #[.slice A l.length c]) ∧ Nr.Nr w' (.slice A l.length c) l ∧ Below w.heap.size w w' := by
  refine (r1_Of.calls k a0 l w h).mono ?_
  rintro e w' ⟨v, he, hR, hb⟩
  obtain ⟨A', c', rfl, hl, hC'⟩ := Nr.Nr.of_R hR
  exact ⟨A', c', he, ⟨A', c', rfl, hl, hC'⟩, hb⟩
theorem tpMul (k : Nat) (v u : Value) (l m r : List Int) (w : World) (n : Nr.Nr w v l) (n1 : Nr.Nr w u m) (h : r1_Mul.f k l m = some r) : Calls Tryz.prog 12 #[.agg #[v], .agg #[u]] w fun e w' => ∃ A c, e = .returned (.agg #[.slice A r.length c]) ∧ Nr.Nr w' (.slice A r.length c) r ∧ Below w.heap.size w w' := by
  obtain ⟨A, c, rfl, hc, hC⟩ := n
  obtain ⟨A1, c1, rfl, hc1, hC1⟩ := n1
  refine (r1_Mul.calls k A c l A1 c1 m r w hC hc hC1 hc1 h).mono ?_
  rintro e w' ⟨v, he, hR, hb⟩
  obtain ⟨A', c', rfl, hl, hC'⟩ := Nr.Nr.of_R hR
  exact ⟨A', c', he, ⟨A', c', rfl, hl, hC'⟩, hb⟩
theorem tpCmp (k : Nat) (v u : Value) (l m : List Int) (e0 a1 a2 r : Int) (w : World) (n : Nr.Nr w v l) (n1 : Nr.Nr w u m) (h : trunniontop_real_cmp.f k l m e0 a1 a2 = some r) : Calls Tryz.prog 14 #[.agg #[v, u, .int .i64 e0], .int .u64 a1, .int .i64 a2] w fun e w' => e = .returned (.int .i64 r) ∧ Below w.heap.size w w' := by
  obtain ⟨A, c, rfl, hc, hC⟩ := n
  obtain ⟨A1, c1, rfl, hc1, hC1⟩ := n1
  exact trunniontop_real_cmp.calls k A c l A1 c1 m e0 a1 a2 r w hC hc hC1 hc1 h
theorem tpLift {w w' : World} {b o : Nat} {v : Value} (hb : Below w.heap.size w w') (z : b < w.heap.size) (q : w.cell? ⟨b, o, none⟩ = some v) : w'.cell? ⟨b, o, none⟩ = some v := ((Nr.bcell hb).1 _ _ z).trans q
theorem tpLiftA {w w' : World} {x : Obj} {b o : Nat} {v : Value} (hb : Below (w.alloc x).heap.size (w.alloc x) w') (z : b < w.heap.size) (q : w.cell? ⟨b, o, none⟩ = some v) : w'.cell? ⟨b, o, none⟩ = some v := ((Nr.bcell hb).1 _ _ (Nr.lt_al z)).trans ((Nr.al z o x).trans q)
theorem tpBox {w w1 : World} {x0 x1 x2 x3 : Value} {ty : Nat} (h : Below (w.alloc (.cells #[x0, x1, x2, x3] ty)).heap.size (w.alloc (.cells #[x0, x1, x2, x3] ty)) w1) :
    w1.cell? ⟨w.heap.size, 0, none⟩ = some x0 ∧ w1.cell? ⟨w.heap.size, 1, none⟩ = some x1 ∧ w1.cell? ⟨w.heap.size, 2, none⟩ = some x2 ∧ w1.cell? ⟨w.heap.size, 3, none⟩ = some x3 ∧ w.heap.size < w1.heap.size := by
  have b := Nr.bcell h
  have z : w.heap.size < (w.alloc (.cells #[x0, x1, x2, x3] ty)).heap.size := by simp
  refine ⟨?_, ?_, ?_, ?_, Nat.lt_of_lt_of_le z h.size⟩ <;> (rw [b.1 _ _ z]; simp [go_sem])
def tpSqF (k : Nat) (m j e g : Int) : Option Int := (r1_Of.f k m).bind fun l => (r1_Mul.f k l l).bind fun q => (r1_Of.f k 1).bind fun o => trunniontop_real_cmp.f k q o (wrap64 (2 * j)) g e
set_option maxHeartbeats 8000000 in
set_option maxRecDepth 100000 in
theorem tpSq (k : Nat) (m j e g r : Int) (B : Nat) (w : World) (h : tpSqF k m j e g = some r) (q2 : w.cell? ⟨B, 2, none⟩ = some (.int .i64 e)) (q3 : w.cell? ⟨B, 3, none⟩ = some (.int .u64 g)) (z : B < w.heap.size) :
    Calls Tryz.prog 11 #[.int .u64 m, .int .i64 j, .pointer (some ⟨B, 0, none⟩)] w fun e w' => e = .returned (.int .i64 r) ∧ Below w.heap.size w w' := by
  unfold tpSqF at h
  obtain ⟨l, B0, h⟩ := Option.bind_eq_some_iff.mp h
  obtain ⟨q, B1, h⟩ := Option.bind_eq_some_iff.mp h
  obtain ⟨o, B2, h⟩ := Option.bind_eq_some_iff.mp h
  obtain ⟨y, hy⟩ : ∃ y : Int, wrap64 (2 * j) = y := ⟨_, rfl⟩
  rw [hy] at h
  have ey : IntKind.i64.wrap (2 * j) = y := (i64_w _).trans hy
  have T0 := Aside0.mk B0
  have T1 := Aside0.mk B1
  have T2 := Aside0.mk B2
  have T3 := Aside0.mk h
  clear h B0 B1 B2 hy
  have hu1 := Tryz.underlying35
  have hu2 := Tryz.underlying31
  have hu3 := Tryz.underlying27
  go_enter Tryz.func11, Tryz.ntmps11
  go_wp2_with (first
    | (go_at_call 13; (fail_if_success (have := n1)); with_reducible refine (tpOf k m l _ T0.out).mono ?_; rintro e w1 ⟨A1, c1_, rfl, hn, hb⟩; have n1 := Aside0.mk hn; have HB := Aside0.mk hb; have c2 := tpLift hb z q2; have c3 := tpLift hb z q3; have zz := Nat.lt_of_lt_of_le z hb.size; clear hn hb)
    | (go_at_call 13; (fail_if_success (have := n2)); with_reducible refine (tpOf k m l _ T0.out).mono ?_; rintro e w2 ⟨A2, c2_, rfl, hn, hb⟩; have n2 := Aside0.mk hn; replace n1 := Aside0.mk (n1.out.below hb); replace HB := Aside0.mk (below_step HB.out hb); replace c2 := tpLift hb zz c2; replace c3 := tpLift hb zz c3; replace zz := Nat.lt_of_lt_of_le zz hb.size; clear hn hb)
    | (go_at_call 12; with_reducible refine (tpMul k _ _ l l q _ n1.out n2.out T1.out).mono ?_; rintro e w3 ⟨A3, c3_, rfl, hn, hb⟩; have n3 := Aside0.mk hn; replace HB := Aside0.mk (below_step HB.out hb); replace c2 := tpLift hb zz c2; replace c3 := tpLift hb zz c3; replace zz := Nat.lt_of_lt_of_le zz hb.size; clear hn hb)
    | (go_at_call 13; with_reducible refine (tpOf k 1 o _ T2.out).mono ?_; rintro e w4 ⟨A4, c4_, rfl, hn, hb⟩; have n4 := Aside0.mk hn; replace n3 := Aside0.mk (n3.out.below hb); replace HB := Aside0.mk (below_step HB.out hb); replace c2 := tpLift hb zz c2; replace c3 := tpLift hb zz c3; replace zz := Nat.lt_of_lt_of_le zz hb.size; clear hn hb)
    | (go_at_call 14; with_reducible refine (tpCmp k _ _ q o y g e r _ (by repeat (first | exact n3.out | apply Nr.Nr.alloc | apply Nr.Nr.drew)) (by repeat (first | exact n4.out | apply Nr.Nr.alloc | apply Nr.Nr.drew)) T3.out).mono ?_; rintro e w5 ⟨rfl, hb⟩; replace HB := Aside0.mk (below_step (by repeat (first | exact HB.out | apply below_alloc | apply below_drew1)) hb); clear hb))
  exact ⟨rfl, _, by simp [results, Tryz.results11, go_sem], rfl, HB.out⟩
set_option maxHeartbeats 8000000 in
set_option maxRecDepth 100000 in
theorem tpNo (k : Nat) (a0 a1 : Int) (w : World) (TA : Aside0 (numeric_Apply.f k 145 1082130432 0 = some (1073741824, 0))) (h1 : (a0 != 32) = true) (h2 : (a0 != 64) = true) :
    Calls Tryz.prog 3 #[.int .i64 a0, .int .u64 a1] w fun e w' => e = .returned (.bool true) ∧ Below w.heap.size w w' := by
  go_enter Tryz.func3, Tryz.ntmps3
  go_wp2_with (first | (go_at_call 9; (fail_if_success (have := aw)); with_reducible refine (numeric_Apply.calls k 145 1082130432 0 1073741824 0 _ TA.out).mono ?_; rintro e w1 ⟨rfl, hb⟩; have aw := True.intro; have HB := Aside0.mk hb; clear hb))
  exact ⟨rfl, .bool true, by simp [results, Tryz.results3, go_sem], rfl, by repeat (first | exact HB.out | apply below_alloc | apply below_drew1)⟩
set_option maxHeartbeats 8000000 in
set_option maxRecDepth 100000 in
theorem tpKindN (k : Nat) (a0 a1 : Int) (xs : Bool) (xk xe xg : Int) (w : World) (TA : Aside0 (numeric_Apply.f k 145 1082130432 0 = some (1073741824, 0))) (hw : a0 = 32 ∨ a0 = 64) (TX : Aside0 (shape_Open.f k a0 a1 = some (xs, xk, xe, xg))) (h3 : (xk != 1) = true) :
    Calls Tryz.prog 3 #[.int .i64 a0, .int .u64 a1] w fun e w' => e = .returned (.bool true) ∧ Below w.heap.size w w' := by
  have hu3 := Tryz.underlying27
  rcases hw with rfl | rfl
  all_goals (
    go_enter Tryz.func3, Tryz.ntmps3
    go_wp2_with (first | (go_at_call 9; (fail_if_success (have := aw)); with_reducible refine (numeric_Apply.calls k 145 1082130432 0 1073741824 0 _ TA.out).mono ?_; rintro e w1 ⟨rfl, hb⟩; have aw := True.intro; have HB := Aside0.mk hb; clear hb) | (go_at_call 10; (fail_if_success (have := ox)); with_reducible refine (shape_Open.calls k _ a1 _ xk xe xg _ TX.out).mono ?_; rintro e w2 ⟨rfl, hb⟩; have ox := True.intro; replace HB := Aside0.mk (below_step HB.out hb); clear hb))
    exact ⟨rfl, .bool true, by simp [results, Tryz.results3, go_sem], rfl, by repeat (first | exact HB.out | apply below_alloc | apply below_drew1)⟩)
set_option maxHeartbeats 8000000 in
set_option maxRecDepth 100000 in
theorem tpKindS (k : Nat) (a0 a1 : Int) (xs : Bool) (xk xe xg : Int) (w : World) (TA : Aside0 (numeric_Apply.f k 145 1082130432 0 = some (1073741824, 0))) (hw : a0 = 32 ∨ a0 = 64) (TX : Aside0 (shape_Open.f k a0 a1 = some (xs, xk, xe, xg))) (h3 : (xk != 1) = false) (h4 : xs = true) :
    Calls Tryz.prog 3 #[.int .i64 a0, .int .u64 a1] w fun e w' => e = .returned (.bool true) ∧ Below w.heap.size w w' := by
  subst h4
  have hu3 := Tryz.underlying27
  rcases hw with rfl | rfl
  all_goals (
    go_enter Tryz.func3, Tryz.ntmps3
    go_wp2_with (first | (go_at_call 9; (fail_if_success (have := aw)); with_reducible refine (numeric_Apply.calls k 145 1082130432 0 1073741824 0 _ TA.out).mono ?_; rintro e w1 ⟨rfl, hb⟩; have aw := True.intro; have HB := Aside0.mk hb; clear hb) | (go_at_call 10; (fail_if_success (have := ox)); with_reducible refine (shape_Open.calls k _ a1 _ xk xe xg _ TX.out).mono ?_; rintro e w2 ⟨rfl, hb⟩; have ox := True.intro; replace HB := Aside0.mk (below_step HB.out hb); clear hb))
    exact ⟨rfl, .bool true, by simp [results, Tryz.results3, go_sem], rfl, by repeat (first | exact HB.out | apply below_alloc | apply below_drew1)⟩)
set_option maxHeartbeats 16000000 in
set_option maxRecDepth 100000 in
theorem tpMain32f (k : Nat) (a1 xe xg n pe pg G2 M1 M2 G4 M4 K1 K2 d1 d4 u : Int) (w : World) (TA : Aside0 (numeric_Apply.f k 145 1082130432 0 = some (1073741824, 0))) (TX : Aside0 (shape_Open.f k 32 a1 = some (false, 1, xe, xg)))
    (TP : Aside0 (numeric_Apply.f k 145 a1 0 = some (n, 0))) (TN : Aside0 (shape_Open.f k 32 n = some (false, 1, pe, pg))) (fl : (pg == 8388608) = false)
    (e2 : IntKind.u64.wrap (2 * pg) = G2) (e3 : IntKind.u64.wrap (G2 - 1) = M1) (e4 : IntKind.u64.wrap (G2 + 1) = M2) (e5 : IntKind.u64.wrap (4 * pg) = G4) (e6 : IntKind.u64.wrap (G4 - 1) = M4) (e7 : IntKind.i64.wrap (pe - 1) = K1) (e8 : IntKind.i64.wrap (pe - 2) = K2)
    (S1 : Aside0 (tpSqF k M1 K1 xe xg = some d1)) (S2 : Aside0 (tpSqF k M2 K1 xe xg = some u)) (S4 : Aside0 (tpSqF k M4 K2 xe xg = some d4)) (hu : Aside0 (u = 1 ∨ u = 0 ∧ Int.tmod pg 2 = 0)) (hd : Aside0 (d1 = -1 ∨ d1 = 0 ∧ Int.tmod pg 2 = 0)) :
    Calls Tryz.prog 3 #[.int .i64 32, .int .u64 a1] w fun e w' => e = .returned (.bool true) ∧ Below w.heap.size w w' := by
  have hu3 := Tryz.underlying27
  have TF := Aside0.mk (show shape_Fields.f 32 = some (8, 23) from by decide +kernel)
  have sh : IntKind.u64.wrap 8388608 = 8388608 := by decide +kernel
  go_enter Tryz.func3, Tryz.ntmps3
  go_upto_region 19 with (first
    | (go_at_call 9; (fail_if_success (have := aw)); with_reducible refine (numeric_Apply.calls k 145 1082130432 0 1073741824 0 _ TA.out).mono ?_; rintro e w1 ⟨rfl, hb⟩; have aw := True.intro; have HB := Aside0.mk hb; clear hb)
    | (go_at_call 10; (fail_if_success (have := ox)); with_reducible refine (shape_Open.calls k 32 a1 false 1 xe xg _ TX.out).mono ?_; rintro e w2 ⟨rfl, hb⟩; have ox := True.intro; replace HB := Aside0.mk (below_step HB.out hb); clear hb)
    | (go_at_call 9; with_reducible refine (numeric_Apply.calls k 145 a1 0 n 0 _ TP.out).mono ?_; rintro e w3 ⟨rfl, hb⟩; have X := tpBox hb; obtain ⟨_, _, x2, x3, xl⟩ := X; replace HB := Aside0.mk (below_step (by repeat (first | exact HB.out | apply below_alloc | apply below_drew1)) hb); clear hb)
    | (go_at_call 10; with_reducible refine (shape_Open.calls k 32 n false 1 pe pg _ TN.out).mono ?_; rintro e w4 ⟨rfl, hb⟩; replace x2 := tpLift hb xl x2; replace x3 := tpLift hb xl x3; replace xl := Nat.lt_of_lt_of_le xl hb.size; replace HB := Aside0.mk (below_step HB.out hb); clear hb)
    | (go_at_call 15; with_reducible refine (shape_Fields.calls 32 8 23 _ TF.out).mono ?_; rintro e w5 ⟨rfl, hb⟩; have Y := tpBox hb; obtain ⟨_, _, y2, y3, yl⟩ := Y; replace x2 := tpLiftA hb xl x2; replace x3 := tpLiftA hb xl x3; replace xl := Nat.lt_of_lt_of_le (Nr.lt_al xl) hb.size; replace HB := Aside0.mk (below_step (by repeat (first | exact HB.out | apply below_alloc | apply below_drew1)) hb); clear hb)
    | (go_at_call 11; with_reducible refine (tpSq k M1 K1 xe xg d1 _ _ S1.out x2 x3 xl).mono ?_; rintro e w6 ⟨rfl, hb⟩; replace x2 := tpLift hb xl x2; replace x3 := tpLift hb xl x3; replace xl := Nat.lt_of_lt_of_le xl hb.size; replace y2 := tpLift hb yl y2; replace y3 := tpLift hb yl y3; replace yl := Nat.lt_of_lt_of_le yl hb.size; replace HB := Aside0.mk (below_step HB.out hb); clear hb))
  have h6 := HB.out
  clear TA TX TP TN TF S1 HB
  go_cut [85] (fun s85 wx => s85 = .bool false ∧ wx.cell? ⟨w2.heap.size, 2, none⟩ = some (.int .i64 xe) ∧ wx.cell? ⟨w2.heap.size, 3, none⟩ = some (.int .u64 xg) ∧ wx.cell? ⟨w4.heap.size, 2, none⟩ = some (.int .i64 pe) ∧ wx.cell? ⟨w4.heap.size, 3, none⟩ = some (.int .u64 pg) ∧ w2.heap.size < wx.heap.size ∧ w4.heap.size < wx.heap.size ∧ Below w.heap.size w wx)
  case first =>
    go_region_held3 (fun w' => w'.cell? ⟨w4.heap.size, 3, none⟩ = some (.int .u64 pg) ∧ Below w6.heap.size w6 w')
      (((try go_split_ands); (try dsimp only); exact ⟨tpLift (by repeat (first | exact Below.refl _ _ | assumption | apply below_drew1)) yl y3, by repeat (first | exact Below.refl _ _ | assumption | apply below_drew1)⟩))
      (first | fail)
    all_goals (go_wp2_with fail; go_meet)
    all_goals (
      have hb := below_drew1 (Below.refl w6.heap.size w6)
      refine ⟨?_, tpLift hb xl x2, tpLift hb xl x3, tpLift hb yl y2, tpLift hb yl y3, Nat.lt_of_lt_of_le xl hb.size, Nat.lt_of_lt_of_le yl hb.size, below_step h6 hb⟩
      first | rfl | (rw [fl]; done) | (simp [fl]; done))
  case rest =>
    clear x2 x3 y2 y3 xl yl h6 sh
    obtain ⟨rfl, x2, x3, y2, y3, xl, yl, hB6⟩ := hcut
    have HB := Aside0.mk hB6
    clear hB6
    go_step
    go_upto_region 22 with (first | (go_at_call 11; with_reducible refine (tpSq k M2 K1 xe xg u _ _ S2.out x2 x3 xl).mono ?_; rintro e w8 ⟨rfl, hb⟩; replace x2 := tpLift hb xl x2; replace x3 := tpLift hb xl x3; replace xl := Nat.lt_of_lt_of_le xl hb.size; replace y2 := tpLift hb yl y2; replace y3 := tpLift hb yl y3; replace yl := Nat.lt_of_lt_of_le yl hb.size; replace HB := Aside0.mk (below_step HB.out hb); clear hb))
    have hu' := hu.out
    have hd' := hd.out
    clear hu hd
    rcases hu' with rfl | ⟨rfl, ev⟩ <;> rcases hd' with rfl | ⟨rfl, ev'⟩
    all_goals (
      (try have evb : (Int.tmod pg 2 == 0) = true := beq_iff_eq.mpr ev)
      (try have evb : (Int.tmod pg 2 == 0) = true := beq_iff_eq.mpr ev')
      go_wp2_with fail
      exact ⟨rfl, .bool true, by simp [results, Tryz.results3, go_sem], rfl, by repeat (first | exact HB.out | apply below_alloc | apply below_drew1)⟩)
set_option maxHeartbeats 16000000 in
set_option maxRecDepth 100000 in
theorem tpMain32t (k : Nat) (a1 xe xg n pe pg G2 M1 M2 G4 M4 K1 K2 d1 d4 u : Int) (w : World) (TA : Aside0 (numeric_Apply.f k 145 1082130432 0 = some (1073741824, 0))) (TX : Aside0 (shape_Open.f k 32 a1 = some (false, 1, xe, xg)))
    (TP : Aside0 (numeric_Apply.f k 145 a1 0 = some (n, 0))) (TN : Aside0 (shape_Open.f k 32 n = some (false, 1, pe, pg))) (fl : (pg == 8388608) = true)
    (e2 : IntKind.u64.wrap (2 * pg) = G2) (e3 : IntKind.u64.wrap (G2 - 1) = M1) (e4 : IntKind.u64.wrap (G2 + 1) = M2) (e5 : IntKind.u64.wrap (4 * pg) = G4) (e6 : IntKind.u64.wrap (G4 - 1) = M4) (e7 : IntKind.i64.wrap (pe - 1) = K1) (e8 : IntKind.i64.wrap (pe - 2) = K2)
    (S1 : Aside0 (tpSqF k M1 K1 xe xg = some d1)) (S2 : Aside0 (tpSqF k M2 K1 xe xg = some u)) (S4 : Aside0 (tpSqF k M4 K2 xe xg = some d4)) (hu : Aside0 (u = 1 ∨ u = 0 ∧ Int.tmod pg 2 = 0)) (hd : Aside0 (d4 = -1 ∨ d4 = 0 ∧ Int.tmod pg 2 = 0)) :
    Calls Tryz.prog 3 #[.int .i64 32, .int .u64 a1] w fun e w' => e = .returned (.bool true) ∧ Below w.heap.size w w' := by
  have hu3 := Tryz.underlying27
  have TF := Aside0.mk (show shape_Fields.f 32 = some (8, 23) from by decide +kernel)
  have sh : IntKind.u64.wrap 8388608 = 8388608 := by decide +kernel
  go_enter Tryz.func3, Tryz.ntmps3
  go_upto_region 19 with (first
    | (go_at_call 9; (fail_if_success (have := aw)); with_reducible refine (numeric_Apply.calls k 145 1082130432 0 1073741824 0 _ TA.out).mono ?_; rintro e w1 ⟨rfl, hb⟩; have aw := True.intro; have HB := Aside0.mk hb; clear hb)
    | (go_at_call 10; (fail_if_success (have := ox)); with_reducible refine (shape_Open.calls k 32 a1 false 1 xe xg _ TX.out).mono ?_; rintro e w2 ⟨rfl, hb⟩; have ox := True.intro; replace HB := Aside0.mk (below_step HB.out hb); clear hb)
    | (go_at_call 9; with_reducible refine (numeric_Apply.calls k 145 a1 0 n 0 _ TP.out).mono ?_; rintro e w3 ⟨rfl, hb⟩; have X := tpBox hb; obtain ⟨_, _, x2, x3, xl⟩ := X; replace HB := Aside0.mk (below_step (by repeat (first | exact HB.out | apply below_alloc | apply below_drew1)) hb); clear hb)
    | (go_at_call 10; with_reducible refine (shape_Open.calls k 32 n false 1 pe pg _ TN.out).mono ?_; rintro e w4 ⟨rfl, hb⟩; replace x2 := tpLift hb xl x2; replace x3 := tpLift hb xl x3; replace xl := Nat.lt_of_lt_of_le xl hb.size; replace HB := Aside0.mk (below_step HB.out hb); clear hb)
    | (go_at_call 15; with_reducible refine (shape_Fields.calls 32 8 23 _ TF.out).mono ?_; rintro e w5 ⟨rfl, hb⟩; have Y := tpBox hb; obtain ⟨_, _, y2, y3, yl⟩ := Y; replace x2 := tpLiftA hb xl x2; replace x3 := tpLiftA hb xl x3; replace xl := Nat.lt_of_lt_of_le (Nr.lt_al xl) hb.size; replace HB := Aside0.mk (below_step (by repeat (first | exact HB.out | apply below_alloc | apply below_drew1)) hb); clear hb)
    | (go_at_call 11; with_reducible refine (tpSq k M1 K1 xe xg d1 _ _ S1.out x2 x3 xl).mono ?_; rintro e w6 ⟨rfl, hb⟩; replace x2 := tpLift hb xl x2; replace x3 := tpLift hb xl x3; replace xl := Nat.lt_of_lt_of_le xl hb.size; replace y2 := tpLift hb yl y2; replace y3 := tpLift hb yl y3; replace yl := Nat.lt_of_lt_of_le yl hb.size; replace HB := Aside0.mk (below_step HB.out hb); clear hb))
  have h6 := HB.out
  clear TA TX TP TN TF S1 HB
  go_cut [85] (fun s85 wx => s85 = .bool true ∧ wx.cell? ⟨w2.heap.size, 2, none⟩ = some (.int .i64 xe) ∧ wx.cell? ⟨w2.heap.size, 3, none⟩ = some (.int .u64 xg) ∧ wx.cell? ⟨w4.heap.size, 2, none⟩ = some (.int .i64 pe) ∧ wx.cell? ⟨w4.heap.size, 3, none⟩ = some (.int .u64 pg) ∧ w2.heap.size < wx.heap.size ∧ w4.heap.size < wx.heap.size ∧ Below w.heap.size w wx)
  case first =>
    go_region_held3 (fun w' => w'.cell? ⟨w4.heap.size, 3, none⟩ = some (.int .u64 pg) ∧ Below w6.heap.size w6 w')
      (((try go_split_ands); (try dsimp only); exact ⟨tpLift (by repeat (first | exact Below.refl _ _ | assumption | apply below_drew1)) yl y3, by repeat (first | exact Below.refl _ _ | assumption | apply below_drew1)⟩))
      (first | fail)
    all_goals (go_wp2_with fail; go_meet)
    all_goals (
      have hb := below_drew1 (Below.refl w6.heap.size w6)
      refine ⟨?_, tpLift hb xl x2, tpLift hb xl x3, tpLift hb yl y2, tpLift hb yl y3, Nat.lt_of_lt_of_le xl hb.size, Nat.lt_of_lt_of_le yl hb.size, below_step h6 hb⟩
      first | rfl | (rw [fl]; done) | (simp [fl]; done))
  case rest =>
    clear x2 x3 y2 y3 xl yl h6 sh
    obtain ⟨rfl, x2, x3, y2, y3, xl, yl, hB6⟩ := hcut
    have HB := Aside0.mk hB6
    clear hB6
    go_step
    go_upto_region 22 with (first | (go_at_call 11; with_reducible refine (tpSq k M4 K2 xe xg d4 _ _ S4.out x2 x3 xl).mono ?_; rintro e w8 ⟨rfl, hb⟩; replace x2 := tpLift hb xl x2; replace x3 := tpLift hb xl x3; replace xl := Nat.lt_of_lt_of_le xl hb.size; replace y2 := tpLift hb yl y2; replace y3 := tpLift hb yl y3; replace yl := Nat.lt_of_lt_of_le yl hb.size; replace HB := Aside0.mk (below_step HB.out hb); clear hb) | (go_at_call 11; with_reducible refine (tpSq k M2 K1 xe xg u _ _ S2.out x2 x3 xl).mono ?_; rintro e w8 ⟨rfl, hb⟩; replace x2 := tpLift hb xl x2; replace x3 := tpLift hb xl x3; replace xl := Nat.lt_of_lt_of_le xl hb.size; replace y2 := tpLift hb yl y2; replace y3 := tpLift hb yl y3; replace yl := Nat.lt_of_lt_of_le yl hb.size; replace HB := Aside0.mk (below_step HB.out hb); clear hb))
    have hu' := hu.out
    have hd' := hd.out
    clear hu hd
    rcases hu' with rfl | ⟨rfl, ev⟩ <;> rcases hd' with rfl | ⟨rfl, ev'⟩
    all_goals (
      (try have evb : (Int.tmod pg 2 == 0) = true := beq_iff_eq.mpr ev)
      (try have evb : (Int.tmod pg 2 == 0) = true := beq_iff_eq.mpr ev')
      go_wp2_with fail
      exact ⟨rfl, .bool true, by simp [results, Tryz.results3, go_sem], rfl, by repeat (first | exact HB.out | apply below_alloc | apply below_drew1)⟩)
set_option maxHeartbeats 16000000 in
set_option maxRecDepth 100000 in
theorem tpMain64f (k : Nat) (a1 xe xg n pe pg G2 M1 M2 G4 M4 K1 K2 d1 d4 u : Int) (w : World) (TA : Aside0 (numeric_Apply.f k 145 1082130432 0 = some (1073741824, 0))) (TX : Aside0 (shape_Open.f k 64 a1 = some (false, 1, xe, xg)))
    (TP : Aside0 (numeric_Apply.f k 159 a1 0 = some (n, 0))) (TN : Aside0 (shape_Open.f k 64 n = some (false, 1, pe, pg))) (fl : (pg == 4503599627370496) = false)
    (e2 : IntKind.u64.wrap (2 * pg) = G2) (e3 : IntKind.u64.wrap (G2 - 1) = M1) (e4 : IntKind.u64.wrap (G2 + 1) = M2) (e5 : IntKind.u64.wrap (4 * pg) = G4) (e6 : IntKind.u64.wrap (G4 - 1) = M4) (e7 : IntKind.i64.wrap (pe - 1) = K1) (e8 : IntKind.i64.wrap (pe - 2) = K2)
    (S1 : Aside0 (tpSqF k M1 K1 xe xg = some d1)) (S2 : Aside0 (tpSqF k M2 K1 xe xg = some u)) (S4 : Aside0 (tpSqF k M4 K2 xe xg = some d4)) (hu : Aside0 (u = 1 ∨ u = 0 ∧ Int.tmod pg 2 = 0)) (hd : Aside0 (d1 = -1 ∨ d1 = 0 ∧ Int.tmod pg 2 = 0)) :
    Calls Tryz.prog 3 #[.int .i64 64, .int .u64 a1] w fun e w' => e = .returned (.bool true) ∧ Below w.heap.size w w' := by
  have hu3 := Tryz.underlying27
  have TF := Aside0.mk (show shape_Fields.f 64 = some (11, 52) from by decide +kernel)
  have sh : IntKind.u64.wrap 4503599627370496 = 4503599627370496 := by decide +kernel
  go_enter Tryz.func3, Tryz.ntmps3
  go_upto_region 19 with (first
    | (go_at_call 9; (fail_if_success (have := aw)); with_reducible refine (numeric_Apply.calls k 145 1082130432 0 1073741824 0 _ TA.out).mono ?_; rintro e w1 ⟨rfl, hb⟩; have aw := True.intro; have HB := Aside0.mk hb; clear hb)
    | (go_at_call 10; (fail_if_success (have := ox)); with_reducible refine (shape_Open.calls k 64 a1 false 1 xe xg _ TX.out).mono ?_; rintro e w2 ⟨rfl, hb⟩; have ox := True.intro; replace HB := Aside0.mk (below_step HB.out hb); clear hb)
    | (go_at_call 9; with_reducible refine (numeric_Apply.calls k 159 a1 0 n 0 _ TP.out).mono ?_; rintro e w3 ⟨rfl, hb⟩; have X := tpBox hb; obtain ⟨_, _, x2, x3, xl⟩ := X; replace HB := Aside0.mk (below_step (by repeat (first | exact HB.out | apply below_alloc | apply below_drew1)) hb); clear hb)
    | (go_at_call 10; with_reducible refine (shape_Open.calls k 64 n false 1 pe pg _ TN.out).mono ?_; rintro e w4 ⟨rfl, hb⟩; replace x2 := tpLift hb xl x2; replace x3 := tpLift hb xl x3; replace xl := Nat.lt_of_lt_of_le xl hb.size; replace HB := Aside0.mk (below_step HB.out hb); clear hb)
    | (go_at_call 15; with_reducible refine (shape_Fields.calls 64 11 52 _ TF.out).mono ?_; rintro e w5 ⟨rfl, hb⟩; have Y := tpBox hb; obtain ⟨_, _, y2, y3, yl⟩ := Y; replace x2 := tpLiftA hb xl x2; replace x3 := tpLiftA hb xl x3; replace xl := Nat.lt_of_lt_of_le (Nr.lt_al xl) hb.size; replace HB := Aside0.mk (below_step (by repeat (first | exact HB.out | apply below_alloc | apply below_drew1)) hb); clear hb)
    | (go_at_call 11; with_reducible refine (tpSq k M1 K1 xe xg d1 _ _ S1.out x2 x3 xl).mono ?_; rintro e w6 ⟨rfl, hb⟩; replace x2 := tpLift hb xl x2; replace x3 := tpLift hb xl x3; replace xl := Nat.lt_of_lt_of_le xl hb.size; replace y2 := tpLift hb yl y2; replace y3 := tpLift hb yl y3; replace yl := Nat.lt_of_lt_of_le yl hb.size; replace HB := Aside0.mk (below_step HB.out hb); clear hb))
  have h6 := HB.out
  clear TA TX TP TN TF S1 HB
  go_cut [85] (fun s85 wx => s85 = .bool false ∧ wx.cell? ⟨w2.heap.size, 2, none⟩ = some (.int .i64 xe) ∧ wx.cell? ⟨w2.heap.size, 3, none⟩ = some (.int .u64 xg) ∧ wx.cell? ⟨w4.heap.size, 2, none⟩ = some (.int .i64 pe) ∧ wx.cell? ⟨w4.heap.size, 3, none⟩ = some (.int .u64 pg) ∧ w2.heap.size < wx.heap.size ∧ w4.heap.size < wx.heap.size ∧ Below w.heap.size w wx)
  case first =>
    go_region_held3 (fun w' => w'.cell? ⟨w4.heap.size, 3, none⟩ = some (.int .u64 pg) ∧ Below w6.heap.size w6 w')
      (((try go_split_ands); (try dsimp only); exact ⟨tpLift (by repeat (first | exact Below.refl _ _ | assumption | apply below_drew1)) yl y3, by repeat (first | exact Below.refl _ _ | assumption | apply below_drew1)⟩))
      (first | fail)
    all_goals (go_wp2_with fail; go_meet)
    all_goals (
      have hb := below_drew1 (Below.refl w6.heap.size w6)
      refine ⟨?_, tpLift hb xl x2, tpLift hb xl x3, tpLift hb yl y2, tpLift hb yl y3, Nat.lt_of_lt_of_le xl hb.size, Nat.lt_of_lt_of_le yl hb.size, below_step h6 hb⟩
      first | rfl | (rw [fl]; done) | (simp [fl]; done))
  case rest =>
    clear x2 x3 y2 y3 xl yl h6 sh
    obtain ⟨rfl, x2, x3, y2, y3, xl, yl, hB6⟩ := hcut
    have HB := Aside0.mk hB6
    clear hB6
    go_step
    go_upto_region 22 with (first | (go_at_call 11; with_reducible refine (tpSq k M2 K1 xe xg u _ _ S2.out x2 x3 xl).mono ?_; rintro e w8 ⟨rfl, hb⟩; replace x2 := tpLift hb xl x2; replace x3 := tpLift hb xl x3; replace xl := Nat.lt_of_lt_of_le xl hb.size; replace y2 := tpLift hb yl y2; replace y3 := tpLift hb yl y3; replace yl := Nat.lt_of_lt_of_le yl hb.size; replace HB := Aside0.mk (below_step HB.out hb); clear hb))
    have hu' := hu.out
    have hd' := hd.out
    clear hu hd
    rcases hu' with rfl | ⟨rfl, ev⟩ <;> rcases hd' with rfl | ⟨rfl, ev'⟩
    all_goals (
      (try have evb : (Int.tmod pg 2 == 0) = true := beq_iff_eq.mpr ev)
      (try have evb : (Int.tmod pg 2 == 0) = true := beq_iff_eq.mpr ev')
      go_wp2_with fail
      exact ⟨rfl, .bool true, by simp [results, Tryz.results3, go_sem], rfl, by repeat (first | exact HB.out | apply below_alloc | apply below_drew1)⟩)
set_option maxHeartbeats 16000000 in
set_option maxRecDepth 100000 in
theorem tpMain64t (k : Nat) (a1 xe xg n pe pg G2 M1 M2 G4 M4 K1 K2 d1 d4 u : Int) (w : World) (TA : Aside0 (numeric_Apply.f k 145 1082130432 0 = some (1073741824, 0))) (TX : Aside0 (shape_Open.f k 64 a1 = some (false, 1, xe, xg)))
    (TP : Aside0 (numeric_Apply.f k 159 a1 0 = some (n, 0))) (TN : Aside0 (shape_Open.f k 64 n = some (false, 1, pe, pg))) (fl : (pg == 4503599627370496) = true)
    (e2 : IntKind.u64.wrap (2 * pg) = G2) (e3 : IntKind.u64.wrap (G2 - 1) = M1) (e4 : IntKind.u64.wrap (G2 + 1) = M2) (e5 : IntKind.u64.wrap (4 * pg) = G4) (e6 : IntKind.u64.wrap (G4 - 1) = M4) (e7 : IntKind.i64.wrap (pe - 1) = K1) (e8 : IntKind.i64.wrap (pe - 2) = K2)
    (S1 : Aside0 (tpSqF k M1 K1 xe xg = some d1)) (S2 : Aside0 (tpSqF k M2 K1 xe xg = some u)) (S4 : Aside0 (tpSqF k M4 K2 xe xg = some d4)) (hu : Aside0 (u = 1 ∨ u = 0 ∧ Int.tmod pg 2 = 0)) (hd : Aside0 (d4 = -1 ∨ d4 = 0 ∧ Int.tmod pg 2 = 0)) :
    Calls Tryz.prog 3 #[.int .i64 64, .int .u64 a1] w fun e w' => e = .returned (.bool true) ∧ Below w.heap.size w w' := by
  have hu3 := Tryz.underlying27
  have TF := Aside0.mk (show shape_Fields.f 64 = some (11, 52) from by decide +kernel)
  have sh : IntKind.u64.wrap 4503599627370496 = 4503599627370496 := by decide +kernel
  go_enter Tryz.func3, Tryz.ntmps3
  go_upto_region 19 with (first
    | (go_at_call 9; (fail_if_success (have := aw)); with_reducible refine (numeric_Apply.calls k 145 1082130432 0 1073741824 0 _ TA.out).mono ?_; rintro e w1 ⟨rfl, hb⟩; have aw := True.intro; have HB := Aside0.mk hb; clear hb)
    | (go_at_call 10; (fail_if_success (have := ox)); with_reducible refine (shape_Open.calls k 64 a1 false 1 xe xg _ TX.out).mono ?_; rintro e w2 ⟨rfl, hb⟩; have ox := True.intro; replace HB := Aside0.mk (below_step HB.out hb); clear hb)
    | (go_at_call 9; with_reducible refine (numeric_Apply.calls k 159 a1 0 n 0 _ TP.out).mono ?_; rintro e w3 ⟨rfl, hb⟩; have X := tpBox hb; obtain ⟨_, _, x2, x3, xl⟩ := X; replace HB := Aside0.mk (below_step (by repeat (first | exact HB.out | apply below_alloc | apply below_drew1)) hb); clear hb)
    | (go_at_call 10; with_reducible refine (shape_Open.calls k 64 n false 1 pe pg _ TN.out).mono ?_; rintro e w4 ⟨rfl, hb⟩; replace x2 := tpLift hb xl x2; replace x3 := tpLift hb xl x3; replace xl := Nat.lt_of_lt_of_le xl hb.size; replace HB := Aside0.mk (below_step HB.out hb); clear hb)
    | (go_at_call 15; with_reducible refine (shape_Fields.calls 64 11 52 _ TF.out).mono ?_; rintro e w5 ⟨rfl, hb⟩; have Y := tpBox hb; obtain ⟨_, _, y2, y3, yl⟩ := Y; replace x2 := tpLiftA hb xl x2; replace x3 := tpLiftA hb xl x3; replace xl := Nat.lt_of_lt_of_le (Nr.lt_al xl) hb.size; replace HB := Aside0.mk (below_step (by repeat (first | exact HB.out | apply below_alloc | apply below_drew1)) hb); clear hb)
    | (go_at_call 11; with_reducible refine (tpSq k M1 K1 xe xg d1 _ _ S1.out x2 x3 xl).mono ?_; rintro e w6 ⟨rfl, hb⟩; replace x2 := tpLift hb xl x2; replace x3 := tpLift hb xl x3; replace xl := Nat.lt_of_lt_of_le xl hb.size; replace y2 := tpLift hb yl y2; replace y3 := tpLift hb yl y3; replace yl := Nat.lt_of_lt_of_le yl hb.size; replace HB := Aside0.mk (below_step HB.out hb); clear hb))
  have h6 := HB.out
  clear TA TX TP TN TF S1 HB
  go_cut [85] (fun s85 wx => s85 = .bool true ∧ wx.cell? ⟨w2.heap.size, 2, none⟩ = some (.int .i64 xe) ∧ wx.cell? ⟨w2.heap.size, 3, none⟩ = some (.int .u64 xg) ∧ wx.cell? ⟨w4.heap.size, 2, none⟩ = some (.int .i64 pe) ∧ wx.cell? ⟨w4.heap.size, 3, none⟩ = some (.int .u64 pg) ∧ w2.heap.size < wx.heap.size ∧ w4.heap.size < wx.heap.size ∧ Below w.heap.size w wx)
  case first =>
    go_region_held3 (fun w' => w'.cell? ⟨w4.heap.size, 3, none⟩ = some (.int .u64 pg) ∧ Below w6.heap.size w6 w')
      (((try go_split_ands); (try dsimp only); exact ⟨tpLift (by repeat (first | exact Below.refl _ _ | assumption | apply below_drew1)) yl y3, by repeat (first | exact Below.refl _ _ | assumption | apply below_drew1)⟩))
      (first | fail)
    all_goals (go_wp2_with fail; go_meet)
    all_goals (
      have hb := below_drew1 (Below.refl w6.heap.size w6)
      refine ⟨?_, tpLift hb xl x2, tpLift hb xl x3, tpLift hb yl y2, tpLift hb yl y3, Nat.lt_of_lt_of_le xl hb.size, Nat.lt_of_lt_of_le yl hb.size, below_step h6 hb⟩
      first | rfl | (rw [fl]; done) | (simp [fl]; done))
  case rest =>
    clear x2 x3 y2 y3 xl yl h6 sh
    obtain ⟨rfl, x2, x3, y2, y3, xl, yl, hB6⟩ := hcut
    have HB := Aside0.mk hB6
    clear hB6
    go_step
    go_upto_region 22 with (first | (go_at_call 11; with_reducible refine (tpSq k M4 K2 xe xg d4 _ _ S4.out x2 x3 xl).mono ?_; rintro e w8 ⟨rfl, hb⟩; replace x2 := tpLift hb xl x2; replace x3 := tpLift hb xl x3; replace xl := Nat.lt_of_lt_of_le xl hb.size; replace y2 := tpLift hb yl y2; replace y3 := tpLift hb yl y3; replace yl := Nat.lt_of_lt_of_le yl hb.size; replace HB := Aside0.mk (below_step HB.out hb); clear hb) | (go_at_call 11; with_reducible refine (tpSq k M2 K1 xe xg u _ _ S2.out x2 x3 xl).mono ?_; rintro e w8 ⟨rfl, hb⟩; replace x2 := tpLift hb xl x2; replace x3 := tpLift hb xl x3; replace xl := Nat.lt_of_lt_of_le xl hb.size; replace y2 := tpLift hb yl y2; replace y3 := tpLift hb yl y3; replace yl := Nat.lt_of_lt_of_le yl hb.size; replace HB := Aside0.mk (below_step HB.out hb); clear hb))
    have hu' := hu.out
    have hd' := hd.out
    clear hu hd
    rcases hu' with rfl | ⟨rfl, ev⟩ <;> rcases hd' with rfl | ⟨rfl, ev'⟩
    all_goals (
      (try have evb : (Int.tmod pg 2 == 0) = true := beq_iff_eq.mpr ev)
      (try have evb : (Int.tmod pg 2 == 0) = true := beq_iff_eq.mpr ev')
      go_wp2_with fail
      exact ⟨rfl, .bool true, by simp [results, Tryz.results3, go_sem], rfl, by repeat (first | exact HB.out | apply below_alloc | apply below_drew1)⟩)
def tpRow (k : Nat) (w a1 xe xg op pow : Int) : Prop := ∃ n pe pg G2 M1 M2 G4 M4 K1 K2 d1 d4 u : Int, numeric_Apply.f k op a1 0 = some (n, 0) ∧ shape_Open.f k w n = some (false, 1, pe, pg) ∧
    IntKind.u64.wrap (2 * pg) = G2 ∧ IntKind.u64.wrap (G2 - 1) = M1 ∧ IntKind.u64.wrap (G2 + 1) = M2 ∧ IntKind.u64.wrap (4 * pg) = G4 ∧ IntKind.u64.wrap (G4 - 1) = M4 ∧ IntKind.i64.wrap (pe - 1) = K1 ∧ IntKind.i64.wrap (pe - 2) = K2 ∧
    tpSqF k M1 K1 xe xg = some d1 ∧ tpSqF k M2 K1 xe xg = some u ∧ tpSqF k M4 K2 xe xg = some d4 ∧ (u = 1 ∨ u = 0 ∧ Int.tmod pg 2 = 0) ∧
    ((pg == pow) = false → d1 = -1 ∨ d1 = 0 ∧ Int.tmod pg 2 = 0) ∧ ((pg == pow) = true → d4 = -1 ∨ d4 = 0 ∧ Int.tmod pg 2 = 0)
def tpOk (k : Nat) (a0 a1 : Int) : Prop := numeric_Apply.f k 145 1082130432 0 = some (1073741824, 0) ∧ (¬ (a0 = 32 ∨ a0 = 64) ∨ ((a0 = 32 ∨ a0 = 64) ∧ ∃ (xs : Bool) (xk xe xg : Int), shape_Open.f k a0 a1 = some (xs, xk, xe, xg) ∧ (xk ≠ 1 ∨ (xk = 1 ∧ xs = true) ∨
    (xk = 1 ∧ xs = false ∧ ((a0 = 32 → tpRow k 32 a1 xe xg 145 8388608) ∧ (a0 = 64 → tpRow k 64 a1 xe xg 159 4503599627370496))))))
def trunniontop_TopRoots.Pure : Prop := ∀ (a0 : Int) (a1 : Int), (Lit.int .i64 a0).wf = true → (Lit.int .u64 a1).wf = true → ∃ k, tpOk k a0 a1
theorem trunniontop_TopRoots.walk (P : trunniontop_TopRoots.Pure) (a0 : Int) (a1 : Int) (w : World) (w0 : (Lit.int .i64 a0).wf = true) (w1 : (Lit.int .u64 a1).wf = true) :
    Calls Tryz.prog 3 #[.int .i64 a0, .int .u64 a1] w fun e w' => e = .returned (.bool true) ∧ Below w.heap.size w w' := by
  obtain ⟨k, hA, h⟩ := P a0 a1 w0 w1
  rcases h with h | ⟨hw, xs, xk, xe, xg, hX, h⟩
  · exact tpNo k a0 a1 w ⟨hA⟩ (bne_iff_ne.mpr (by omega)) (bne_iff_ne.mpr (by omega))
  · rcases h with h | ⟨rfl, h⟩ | ⟨rfl, rfl, h1, h2⟩
    · exact tpKindN k a0 a1 xs xk xe xg w ⟨hA⟩ hw ⟨hX⟩ (bne_iff_ne.mpr h)
    · exact tpKindS k a0 a1 xs 1 xe xg w ⟨hA⟩ hw ⟨hX⟩ rfl h
    · rcases hw with rfl | rfl
      · obtain ⟨n, pe, pg, G2, M1, M2, G4, M4, K1, K2, d1, d4, u, r1, r2, r3, r4, r5, r6, r7, r8, r9, r10, r11, r12, r13, r14, r15⟩ := h1 rfl
        cases fl : (pg == 8388608)
        · exact tpMain32f k a1 xe xg n pe pg G2 M1 M2 G4 M4 K1 K2 d1 d4 u w ⟨hA⟩ ⟨hX⟩ ⟨r1⟩ ⟨r2⟩ fl r3 r4 r5 r6 r7 r8 r9 ⟨r10⟩ ⟨r11⟩ ⟨r12⟩ ⟨r13⟩ ⟨r14 fl⟩
        · exact tpMain32t k a1 xe xg n pe pg G2 M1 M2 G4 M4 K1 K2 d1 d4 u w ⟨hA⟩ ⟨hX⟩ ⟨r1⟩ ⟨r2⟩ fl r3 r4 r5 r6 r7 r8 r9 ⟨r10⟩ ⟨r11⟩ ⟨r12⟩ ⟨r13⟩ ⟨r15 fl⟩
      · obtain ⟨n, pe, pg, G2, M1, M2, G4, M4, K1, K2, d1, d4, u, r1, r2, r3, r4, r5, r6, r7, r8, r9, r10, r11, r12, r13, r14, r15⟩ := h2 rfl
        cases fl : (pg == 4503599627370496)
        · exact tpMain64f k a1 xe xg n pe pg G2 M1 M2 G4 M4 K1 K2 d1 d4 u w ⟨hA⟩ ⟨hX⟩ ⟨r1⟩ ⟨r2⟩ fl r3 r4 r5 r6 r7 r8 r9 ⟨r10⟩ ⟨r11⟩ ⟨r12⟩ ⟨r13⟩ ⟨r14 fl⟩
        · exact tpMain64t k a1 xe xg n pe pg G2 M1 M2 G4 M4 K1 K2 d1 d4 u w ⟨hA⟩ ⟨hX⟩ ⟨r1⟩ ⟨r2⟩ fl r3 r4 r5 r6 r7 r8 r9 ⟨r10⟩ ⟨r11⟩ ⟨r12⟩ ⟨r13⟩ ⟨r15 fl⟩
end Go.Proofs.YtnmlmgmljoncoaaGreatDoor.PA
section
set_option linter.unusedVariables false
set_option linter.unusedSimpArgs false
namespace Go.Proofs.YtnmlmgmljoncoaaGreatDoor.Th
open Go.RowKit Go.Proofs.YtnmlmgmljoncoaaGreatDoorW.PrintWords Go.Proofs.YtnmlmgmljoncoaaGreatDoorW.PrintLast Go.Proofs.YtnmlmgmljoncoaaGreatDoorW.PrintMore Go.Proofs.YtnmlmgmljoncoaaGreatDoor.PA Bit Flo
theorem opn_mk (w : Int) (hw : w = 32 ∨ w = 64) (m : Nat) (s : Bool) (h : m < sb w) : opn w (mkN w m s) = if m = 0 then (s, 0, 0, 0) else if m < (fmt w).inf then (s, 1, (fmt w).ex m, ((fmt w).sg m : Int)) else if m = (fmt w).inf then (s, 2, 0, 0) else (false, 3, 0, 0) := by
  unfold opn; simp only [sg_mk w hw m s h, mag_mk w hw m s h]
theorem cut_as_mk (w : Int) (hw : w = 32 ∨ w = 64) (a : Nat) (ha : a < 18446744073709551616) : cutN w a = mkN w (magN w a) (sgB w a) := by
  rw [cutN_eq w hw a ha]; rfl
end Go.Proofs.YtnmlmgmljoncoaaGreatDoor.Th
end
section
set_option linter.unusedVariables false
set_option linter.unusedSimpArgs false
namespace Go.Proofs.YtnmlmgmljoncoaaGreatDoor.Th
open Go.RowKit Go.Proofs.YtnmlmgmljoncoaaGreatDoorW.PrintWords Go.Proofs.YtnmlmgmljoncoaaGreatDoorW.PrintLast Go.Proofs.YtnmlmgmljoncoaaGreatDoorW.PrintMore Go.Proofs.YtnmlmgmljoncoaaGreatDoor.PA Bit Flo Dig
theorem inf_pos (w : Int) (hw : w = 32 ∨ w = 64) : 0 < (fmt w).inf := by rcases hw with rfl | rfl <;> decide
theorem kinds (w : Int) (hw : w = 32 ∨ w = 64) (a : Nat) : (magN w a = 0 ∧ opn w a = (sgB w a, 0, 0, 0)) ∨ (0 < magN w a ∧ magN w a < (fmt w).inf ∧ opn w a = (sgB w a, 1, (fmt w).ex (magN w a), ((fmt w).sg (magN w a) : Int))) ∨ (magN w a = (fmt w).inf ∧ opn w a = (sgB w a, 2, 0, 0)) ∨ ((fmt w).inf < magN w a ∧ opn w a = (false, 3, 0, 0)) := by
  have h0 := inf_pos w hw
  unfold opn; simp only
  by_cases h1 : magN w a = 0
  · left; rw [if_pos h1]; exact ⟨h1, rfl⟩
  · right; rw [if_neg h1]
    by_cases h2 : magN w a < (fmt w).inf
    · left; rw [if_pos h2]; exact ⟨by omega, h2, rfl⟩
    · right; rw [if_neg h2]
      by_cases h3 : magN w a = (fmt w).inf
      · left; rw [if_pos h3]; exact ⟨h3, rfl⟩
      · right; rw [if_neg h3]; exact ⟨by omega, rfl⟩
theorem ex_bd (w : Int) (hw : w = 32 ∨ w = 64) (m : Nat) (h : m < (fmt w).inf) : -1074 ≤ (fmt w).ex m ∧ (fmt w).ex m ≤ 971 := by
  rcases hw with rfl | rfl
  · rw [fmt32, inf32] at h; rw [fmt32, ex32]; split <;> omega
  · rw [fmt64, inf64] at h; rw [fmt64, ex64]; split <;> omega
theorem sg_64 (w : Int) (hw : w = 32 ∨ w = 64) (m : Nat) : (fmt w).sg m < 9007199254740992 := by
  have h := (fmt w).sg_lt m
  rcases hw with rfl | rfl
  · rw [fmt32] at h ⊢; rw [show (2 : Nat) ^ (f32.f + 1) = 16777216 by decide] at h; omega
  · rw [fmt64] at h ⊢; rw [show (2 : Nat) ^ (f64.f + 1) = 9007199254740992 by decide] at h; omega
theorem mn_le (a b : Int) : mn a b ≤ a ∧ mn a b ≤ b := by unfold mn; split <;> omega
end Go.Proofs.YtnmlmgmljoncoaaGreatDoor.Th
end
section
set_option linter.unusedVariables false
set_option linter.unusedSimpArgs false
namespace Go.Proofs.YtnmlmgmljoncoaaGreatDoor.Th
open Flo
theorem fmt_bd (w : Int) : (fmt w).f < 100 ∧ (-5000 < (fmt w).low ∧ (fmt w).low < 0) ∧ (fmt w).top < 5000 := by
  unfold fmt; split <;> decide
theorem fmt_f (w : Int) : (fmt w).f ≤ 52 := by unfold fmt; split <;> decide
theorem pk_ex (w : Int) (S : Nat) (e : Int) (hS : S < 340282366920938463463374607431768211456) : pkm (fmt w) S e false = (fmt w).rnd ((S : Rat) * tw e) := by
  have h := fmt_bd w
  rw [← pkx_f, pkm_rnd _ h.1 h.2.1 h.2.2 S e false hS]
abbrev Pt := Bool × Int × Int × Int
noncomputable def pv (p : Pt) : Rat := if p.2.1 = 1 then (if p.1 then -((p.2.2.2.toNat : Rat) * tw p.2.2.1) else (p.2.2.2.toNat : Rat) * tw p.2.2.1) else 0
end Go.Proofs.YtnmlmgmljoncoaaGreatDoor.Th
end
section
set_option linter.unusedVariables false
set_option linter.unusedSimpArgs false
namespace Go.Proofs.YtnmlmgmljoncoaaGreatDoor.Th
open Go.RowKit Go.Proofs.YtnmlmgmljoncoaaGreatDoorW.PrintWords Go.Proofs.YtnmlmgmljoncoaaGreatDoorW.PrintLast Go.Proofs.YtnmlmgmljoncoaaGreatDoorW.PrintMore Go.Proofs.YtnmlmgmljoncoaaGreatDoor.PA Bit Flo
theorem packE (w : Int) (hw : w = 32 ∨ w = 64) (s : Bool) (h l : Nat) (hh : h < 18446744073709551616) (hl : l < 18446744073709551616) (e : Int) (m : Bool) : round_Pack.f w s h l e m = some ((mkN w (pkm (fmt w) (wn h l) e m) s : Nat) : Int) := by
  unfold round_Pack.f
  rw [if_pos (by omega), if_pos hw, Int.toNat_natCast, Int.toNat_natCast]
theorem shN (w : Int) (hw : w = 32 ∨ w = 64) : shape_Nan.f w = some ((nanN w : Nat) : Int) := by rcases hw with rfl | rfl; exact shNan32; exact shNan64
theorem pv1 (s : Bool) (e : Int) (g : Nat) : pv (s, 1, e, (g : Int)) = if s then -((g : Rat) * tw e) else (g : Rat) * tw e := by
  unfold pv; rw [if_pos rfl]; simp
def PtOk (p : Pt) : Prop := (p.2.1 = 0 ∨ p.2.1 = 1 ∨ p.2.1 = 2 ∨ p.2.1 = 3) ∧ (p.2.1 = 1 → 0 < p.2.2.2) ∧ (p.2.1 ≠ 1 → p.2.2.2 = 0 ∧ p.2.2.1 = 0) ∧ 0 ≤ p.2.2.2 ∧ p.2.2.2 < 9007199254740992 ∧ -1100 ≤ p.2.2.1 ∧ p.2.2.1 ≤ 1000
theorem opn_ok (w : Int) (hw : w = 32 ∨ w = 64) (a : Nat) : PtOk (opn w a) := by
  rcases kinds w hw a with ⟨_, h⟩ | ⟨h1, h2, h⟩ | ⟨_, h⟩ | ⟨_, h⟩ <;> rw [h]
  · exact ⟨.inl rfl, fun h => absurd h (by simp), fun _ => ⟨rfl, rfl⟩, by simp, by simp, by simp, by simp⟩
  · have h3 := ex_bd w hw _ h2
    have h4 := sg_64 w hw (magN w a)
    refine ⟨.inr (.inl rfl), fun _ => ?_, fun h => absurd rfl h, by simp, by simp; omega, by simp; omega, by simp; omega⟩
    have : 0 < (fmt w).val (magN w a) := (fmt w).val_pos.2 h1
    unfold Fmt.val at this
    rcases Nat.eq_zero_or_pos ((fmt w).sg (magN w a)) with h5 | h5
    · rw [h5] at this; simp at this
    · simp; omega
  · exact ⟨.inr (.inr (.inl rfl)), fun h => absurd h (by simp), fun _ => ⟨rfl, rfl⟩, by simp, by simp, by simp, by simp⟩
  · exact ⟨.inr (.inr (.inr rfl)), fun h => absurd h (by simp), fun _ => ⟨rfl, rfl⟩, by simp, by simp, by simp, by simp⟩
end Go.Proofs.YtnmlmgmljoncoaaGreatDoor.Th
end
set_option linter.unusedVariables false
set_option linter.unusedSimpArgs false
namespace Flo
theorem sq_lt {a b : Rat} (ha : 0 ≤ a) (h : a < b) : a * a < b * b := by
  have h1 : a * a ≤ a * b := Rat.mul_le_mul_of_nonneg_left (Rat.le_of_lt h) ha
  have h2 : a * b < b * b := mul_lt h (by grind)
  grind
theorem sq_le {a b : Rat} (ha : 0 ≤ a) (h : a ≤ b) : a * a ≤ b * b := by
  have h1 : a * a ≤ a * b := Rat.mul_le_mul_of_nonneg_left h ha
  have h2 : a * b ≤ b * b := Rat.mul_le_mul_of_nonneg_right h (by grind)
  grind
theorem lt_of_sq {a b : Rat} (hb : 0 ≤ b) (h : a * a < b * b) : a < b := by
  have : ¬ b ≤ a := fun h1 => by have := sq_le hb h1; grind
  grind
theorem eq_of_sq {a b : Rat} (ha : 0 ≤ a) (hb : 0 ≤ b) (h : a * a = b * b) : a = b := by
  have h1 : ¬ a < b := fun h1 => by have := sq_lt ha h1; grind
  have h2 : ¬ b < a := fun h1 => by have := sq_lt hb h1; grind
  grind
namespace Fmt
variable (F : Fmt)
theorem mid_pos (m : Nat) : 0 < F.mid m := by
  have h1 := F.lt_mid m
  have h2 := F.val_nonneg m
  grind
def USq (x : Rat) (m : Nat) : Prop := F.mid m * F.mid m < x ∨ F.mid m * F.mid m = x ∧ m % 2 = 1
theorem USq.down {x : Rat} {m n : Nat} (h : n ≤ m) (u : F.USq x m) : F.USq x n := by
  rcases Nat.lt_or_eq_of_le h with h1 | rfl
  · left
    have h2 := sq_lt (Rat.le_of_lt (F.mid_pos n)) (F.mid_lt h1)
    rcases u with u | ⟨u, _⟩ <;> grind
  · exact u
theorem USq.mono' {x y : Rat} (h : x ≤ y) (m : Nat) (u : F.USq x m) : F.USq y m := by
  rcases u with u | ⟨u, v⟩
  · exact .inl (by grind)
  · rcases (Rat.le_iff_lt_or_eq).1 h with h | h
    · exact .inl (by grind)
    · exact .inr ⟨by grind, v⟩
noncomputable def rsq (x : Rat) : Nat := Classical.choose (Rnd.exists F (F.USq x))
theorem rsq_spec (x : Rat) : F.Rnd (F.USq x) (F.rsq x) := Classical.choose_spec (Rnd.exists F (F.USq x))
theorem rsq_of {x : Rat} {r : Nat} (h : F.Rnd (F.USq x) r) : F.rsq x = r := Rnd.unique F (F.rsq_spec x) h fun _ => Iff.rfl
theorem usq_up {x : Rat} (hx : 0 ≤ x) (m : Nat) : F.USq (x * x) m ↔ F.Up x m := by
  have hm := F.mid_pos m
  constructor
  · rintro (h | ⟨h, k⟩)
    · exact .inl (lt_of_sq hx h)
    · exact .inr ⟨eq_of_sq (Rat.le_of_lt hm) hx h, k⟩
  · rintro (h | ⟨h, k⟩)
    · exact .inl (sq_lt (Rat.le_of_lt hm) h)
    · exact .inr ⟨by rw [h], k⟩
theorem Rnd.root {n S r : Nat} {h : Int} (k : F.Rnd (F.Up (((2 * S + 1 : Nat) : Rat) * tw (h - 1))) r) (h1 : S * S < n) (h2 : n < (S + 1) * (S + 1)) (hS : 2 ^ (F.f + 1) ≤ S) : F.Rnd (F.USq ((n : Rat) * tw (2 * h))) r := by
  have T := tw_pos h
  have e : tw (2 * h) = tw h * tw h := by rw [← tw_add]; congr 1; omega
  have T2 : 0 < tw h * tw h := by rw [← e]; exact tw_pos _
  refine Rnd.sticky F k (fun m hm => ?_) (fun m hm u => ?_) (.inl hS)
  · left
    have h3 := sq_le (Rat.le_of_lt (F.mid_pos m)) hm
    have h4 : ((S * S : Nat) : Rat) < (n : Rat) := nat_lt.2 h1
    have h5 := mul_lt h4 T2
    rw [e]
    push_cast at h5
    generalize tw h = t at *
    grind
  · have h3 := sq_le (by
      have : (0 : Rat) ≤ ((S + 1 : Nat) : Rat) := by exact_mod_cast Nat.zero_le _
      exact Rat.mul_nonneg this (Rat.le_of_lt T)) hm
    have h4 : (n : Rat) < (((S + 1) * (S + 1) : Nat) : Rat) := nat_lt.2 h2
    have h5 := mul_lt h4 T2
    rw [USq, e] at u
    push_cast at h5 h3
    generalize tw h = t at *
    rcases u with u | ⟨u, _⟩ <;> grind
theorem Rnd.root_exact {S r : Nat} {h : Int} (k : F.Rnd (F.Up ((S : Rat) * tw h)) r) : F.Rnd (F.USq (((S * S : Nat) : Rat) * tw (2 * h))) r := by
  have e : ((S * S : Nat) : Rat) * tw (2 * h) = ((S : Rat) * tw h) * ((S : Rat) * tw h) := by
    rw [show tw (2 * h) = tw h * tw h by rw [← tw_add]; congr 1; omega]
    push_cast; grind
  rw [e]
  refine Rnd.congr F k fun m => (F.usq_up ?_ m).symm
  have : (0 : Rat) ≤ (S : Rat) := by exact_mod_cast Nat.zero_le _
  exact Rat.mul_nonneg this (Rat.le_of_lt (tw_pos h))
end Fmt
end Flo
section
set_option linter.unusedVariables false
set_option linter.unusedSimpArgs false
namespace Go.Proofs.YtnmlmgmljoncoaaGreatDoor.Th
open Go.RowKit Go.Proofs.YtnmlmgmljoncoaaGreatDoorW.PrintWords Go.Proofs.YtnmlmgmljoncoaaGreatDoorW.PrintLast Go.Proofs.YtnmlmgmljoncoaaGreatDoorW.PrintMore Go.Proofs.YtnmlmgmljoncoaaGreatDoor.PA Bit Dig Flo
def oneN (w : Int) : Nat := if w = 32 then 1065353216 else 4607182418800017408
theorem val_one (w : Int) (hw : w = 32 ∨ w = 64) : (fmt w).val (oneN w) = 1 ∧ oneN w < (fmt w).inf ∧ 0 < oneN w := by
  rcases hw with rfl | rfl
  · refine ⟨?_, by rw [fmt32, inf32]; decide, by decide⟩
    unfold Fmt.val
    rw [fmt32, show oneN 32 = 127 * 2 ^ f32.f + 0 by decide]
    have := Fmt.sg_mk f32 126 (2 ^ f32.f) (by decide) (fun _ => Nat.le_refl _)
    rw [show 127 * 2 ^ f32.f + 0 = 126 * 2 ^ f32.f + 2 ^ f32.f by decide, this.1, this.2]
    rw [show ((2 ^ f32.f : Nat) : Rat) = tw 23 from (tw_nat 23).symm, ← tw_add]
    exact tw_zero
  · refine ⟨?_, by rw [fmt64, inf64]; decide, by decide⟩
    unfold Fmt.val
    rw [fmt64, show oneN 64 = 1022 * 2 ^ f64.f + 2 ^ f64.f by decide]
    have := Fmt.sg_mk f64 1022 (2 ^ f64.f) (by decide) (fun _ => Nat.le_refl _)
    rw [this.1, this.2]
    rw [show ((2 ^ f64.f : Nat) : Rat) = tw 52 from (tw_nat 52).symm, ← tw_add]
    exact tw_zero
noncomputable def sqP (w : Int) (p : Pt) : Nat := if p.2.1 = 0 then mkN w 0 p.1 else if p.2.1 = 3 ∨ p.1 = true then nanN w else if p.2.1 = 2 then mkN w (fmt w).inf false else mkN w ((fmt w).rsq (pv p)) false
theorem sqPack (w : Int) {S r : Nat} {e h : Int} (he : e = 2 * h) (h1 : r * r ≤ S) (h2 : S < (r + 1) * (r + 1)) (hr : 9007199254740992 ≤ r) (hlt : r < 18446744073709551616) : pkm (fmt w) r h (decide (r * r ≠ S)) = (fmt w).rsq ((S : Rat) * tw e) := by
  have bd := fmt_bd w
  have hp : 2 ^ ((fmt w).f + 1) ≤ r := by
    have : 2 ^ ((fmt w).f + 1) ≤ 2 ^ 53 := Nat.pow_le_pow_right (by decide) (by have := fmt_f w; omega)
    rw [show (2 : Nat) ^ 53 = 9007199254740992 by decide] at this
    omega
  by_cases c : r * r = S
  · rw [decide_eq_false (fun x => x c), pk_ex w r h (by omega)]
    rw [he, ← c]
    exact ((fmt w).rsq_of (Fmt.Rnd.root_exact _ ((fmt w).rnd_spec _))).symm
  · rw [decide_eq_true c, ← pkm_rnd (fmt w) bd.1 bd.2.1 bd.2.2 r h true (by omega), he]
    refine ((fmt w).rsq_of (Fmt.Rnd.root (fmt w) ?_ (by omega) h2 hp)).symm
    have := (fmt w).rnd_spec (pkx r h true)
    unfold pkx at this ⊢
    simp only [if_true] at this ⊢
    exact this
theorem rsq_lt (w : Int) (hw : w = 32 ∨ w = 64) {m : Nat} (hm : m < (fmt w).inf) : (fmt w).rsq ((fmt w).val m) < (fmt w).inf := by
  rcases Nat.lt_or_ge ((fmt w).rsq ((fmt w).val m)) (fmt w).inf with h | h
  · exact h
  · exfalso
    have hi := (fmt w).inf_pos
    have u := ((fmt w).rsq_spec ((fmt w).val m)).2.1 ((fmt w).inf - 1) (by omega)
    have o := val_one w hw
    have v1 : (1 : Rat) ≤ (fmt w).val ((fmt w).inf - 1) := by rw [← o.1]; exact (fmt w).val_mono (by omega)
    have v2 : (fmt w).val m ≤ (fmt w).val ((fmt w).inf - 1) := (fmt w).val_mono (by omega)
    have v3 := (fmt w).lt_mid ((fmt w).inf - 1)
    have v4 : (fmt w).val ((fmt w).inf - 1) ≤ (fmt w).val ((fmt w).inf - 1) * (fmt w).val ((fmt w).inf - 1) := by
      have := Rat.mul_le_mul_of_nonneg_right v1 (show 0 ≤ (fmt w).val ((fmt w).inf - 1) by grind)
      rwa [Rat.one_mul] at this
    have v5 := sq_lt (show 0 ≤ (fmt w).val ((fmt w).inf - 1) by grind) v3
    unfold Fmt.USq at u
    rcases u with u | ⟨u, _⟩ <;> grind
theorem usq_iff (w : Int) {x : Rat} {R m : Nat} (hR : (fmt w).rsq x = R) (hlt : R < (fmt w).inf) : (fmt w).USq x m ↔ m < R := by
  have s := (fmt w).rsq_spec x
  rw [hR] at s
  constructor
  · intro u
    rcases Nat.lt_or_ge m R with h | h
    · exact h
    · exact absurd (Fmt.USq.down (fmt w) h u) (s.2.2 hlt)
  · exact s.2.1 m
theorem twx {g : Nat} {e lo : Int} {u : Nat} (h : (u : Int) = e - lo) : (g : Rat) * tw e = ((g * 2 ^ u : Nat) : Rat) * tw lo := by
  rw [show e = (u : Int) + lo by omega, tw_add, tw_nat]
  push_cast
  grind
theorem tmod2 (x : Int) : Int.tmod x 2 = 0 ↔ x % 2 = 0 :=
  ⟨fun h => by have := Int.dvd_of_tmod_eq_zero h; omega, fun h => Int.tmod_eq_zero_of_dvd (Int.dvd_of_emod_eq_zero h)⟩
theorem spreadE (s : Bool) (kd : Int) {e : Int} {g : Nat} (h : 0 < g) (hg : g < 9007199254740992) (he : -1100 ≤ e ∧ e ≤ 1000) :
    ∃ u : Nat, 125 ≤ bl g + u ∧ bl g + u ≤ 126 ∧ (e - u) % 2 = 0 ∧ Ev (fun k => radix_spread.f k s kd e g) (wH (g * 2 ^ u), wL (g * 2 ^ u), e - u) := by
  have hb := bl64 (show g < 18446744073709551616 by omega)
  have h0 := bl_pos.2 h
  have b53 : bl g ≤ 53 := bl_le.2 hg
  have hlen : wide_Len.f 0 (g : Int) = some ((bl g : Nat) : Int) := by
    have := wLen (V := g) (by omega)
    rwa [(wSmall (show g < 18446744073709551616 by omega)).1, (wSmall (show g < 18446744073709551616 by omega)).2] at this
  have hleft : ∀ u : Nat, bl g + u ≤ 126 → wide_Left.f 0 (g : Int) (u : Int) = some (wH (g * 2 ^ u), wL (g * 2 ^ u)) := by
    intro u hu
    have hV : g * 2 ^ u < 340282366920938463463374607431768211456 := by
      have := Nat.mul_lt_mul_of_pos_right (lt_two_bl g) (Nat.pow_pos (n := u) (show 0 < 2 by decide))
      rw [← Nat.pow_add] at this
      have h2 : 2 ^ (bl g + u) ≤ 2 ^ 128 := Nat.pow_le_pow_right (by decide) (by omega)
      rw [show (2 : Nat) ^ 128 = 340282366920938463463374607431768211456 by decide] at h2
      omega
    have := wLeft (V := g) (by omega) u (by omega) hV
    rwa [(wSmall (show g < 18446744073709551616 by omega)).1, (wSmall (show g < 18446744073709551616 by omega)).2] at this
  obtain ⟨u0, hu0⟩ := Int.eq_ofNat_of_zero_le (show 0 ≤ 126 - ((bl g : Nat) : Int) by omega)
  have go : ∀ u : Nat, bl g + u ≤ 126 → Ev (fun k => radix_spread.l0 k e u0) (u : Int) → Ev (fun k => radix_spread.f k s kd e g) (wH (g * 2 ^ u), wL (g * 2 ^ u), e - u) := by
    intro u hu hl
    unfold radix_spread.f
    refine Ev.bs (ofW g) (Ev.bs hlen ?_)
    rw [w64_id (n := 126 - ((bl g : Nat) : Int)) (by omega) (by omega), hu0]
    refine Ev.bind hl (Ev.bs (hleft u hu) (Ev.out ?_))
    rw [w64_id (n := e - (u : Int)) (by omega) (by omega)]
  by_cases c : (e - (u0 : Int)) % 2 = 0
  · refine ⟨u0, by omega, by omega, c, go u0 (by omega) ?_⟩
    refine Ev.step (fun _ => radix_spread.l0.eq_2 ..) ?_
    rw [w64_id (n := e - (u0 : Int)) (by omega) (by omega)]
    exact Ev.pos ((tmod2 _).2 c) (Ev.out rfl)
  · refine ⟨u0 - 1, by omega, by omega, by omega, go (u0 - 1) (by omega) ?_⟩
    refine Ev.step (fun _ => radix_spread.l0.eq_2 ..) ?_
    rw [w64_id (n := e - (u0 : Int)) (by omega) (by omega), w64_id (n := (u0 : Int) - 1) (by omega) (by omega), show (u0 : Int) - 1 = ((u0 - 1 : Nat) : Int) by omega]
    refine Ev.neg (fun x => c ((tmod2 _).1 x)) (Ev.step (fun _ => radix_spread.l0.eq_2 ..) ?_)
    rw [w64_id (n := e - ((u0 - 1 : Nat) : Int)) (by omega) (by omega)]
    exact Ev.pos ((tmod2 _).2 (by omega)) (Ev.out rfl)
theorem big_root {S x : Nat} (hS : 21267647932558653966460912964485513216 ≤ S) (h : S < (x + 1) * (x + 1)) : 9007199254740992 ≤ x := by
  rcases Nat.lt_or_ge x 9007199254740992 with c | c
  · have := Nat.mul_le_mul (show x + 1 ≤ 9007199254740992 by omega) (show x + 1 ≤ 9007199254740992 by omega)
    omega
  · exact c
theorem finiteE (w : Int) (hw : w = 32 ∨ w = 64) (s : Bool) (kd : Int) {e : Int} {g : Nat} (h : 0 < g) (hg : g < 9007199254740992) (he : -1100 ≤ e ∧ e ≤ 1000) :
    Ev (fun k => radix_finite.f k w s kd e g) ((mkN w ((fmt w).rsq ((g : Rat) * tw e)) false : Nat) : Int) := by
  obtain ⟨u, u1, u2, u3, hs⟩ := spreadE s kd h hg he
  have hS1 : g * 2 ^ u < 85070591730234615865843651857942052864 := by
    have := Nat.mul_lt_mul_of_pos_right (lt_two_bl g) (Nat.pow_pos (n := u) (show 0 < 2 by decide))
    rw [← Nat.pow_add] at this
    have h2 : 2 ^ (bl g + u) ≤ 2 ^ 126 := Nat.pow_le_pow_right (by decide) (by omega)
    rw [show (2 : Nat) ^ 126 = 85070591730234615865843651857942052864 by decide] at h2
    omega
  have hS2 : 21267647932558653966460912964485513216 ≤ g * 2 ^ u := by
    have h0 := bl_pos.2 h
    have h1 := Nat.mul_le_mul_right (2 ^ u) (two_bl_le h)
    rw [← Nat.pow_add] at h1
    have h2 : 2 ^ 124 ≤ 2 ^ (bl g - 1 + u) := Nat.pow_le_pow_right (by decide) (by omega)
    rw [show (2 : Nat) ^ 124 = 21267647932558653966460912964485513216 by decide] at h2
    omega
  rw [twx (g := g) (e := e) (lo := e - u) (u := u) (by omega)]
  generalize g * 2 ^ u = S at *
  obtain ⟨h', hh'⟩ : ∃ h' : Int, e - u = 2 * h' := ⟨(e - u) / 2, by omega⟩
  obtain ⟨x, x1, x2, x3, hx⟩ := rootW (S / 18446744073709551616) (S % 18446744073709551616) (hi64 (by omega)) (lo64 S)
  rw [wn_div] at x1 x2 hx
  have hb := big_root hS2 x2
  unfold radix_finite.f
  refine Ev.bind hs (Ev.bind hx (Ev.bs (ofW x) ?_))
  simp only
  have hd : Int.tdiv (e - (u : Int)) 2 = h' := by rw [hh', Int.mul_tdiv_cancel_left h' (by decide)]
  rw [hd, w64_id (n := h') (by omega) (by omega)]
  have p := packE w hw false 0 x (by decide) x3 h' (decide (x * x ≠ S))
  rw [show wn 0 x = x by unfold wn; omega, sqPack w hh' x1 x2 hb x3] at p
  exact Ev.bs p (Ev.out rfl)
theorem sqrtE (w : Int) (hw : w = 32 ∨ w = 64) (a : Nat) (ha : a < 18446744073709551616) : Ev (fun k => radix_Sqrt.f k w a) ((sqP w (opn w a) : Nat) : Int) := by
  have main : Ev (fun k => radix_Sqrt.j0 k w a false) ((sqP w (opn w a) : Nat) : Int) := by
    refine Ev.step (fun _ => radix_Sqrt.j0.eq_2 ..) (Ev.neg (by decide) (Ev.bind (openS w hw a ha) ?_))
    have ok := opn_ok w hw a
    generalize opn w a = p at *
    obtain ⟨s, kd, e, g⟩ := p
    obtain ⟨h1, h2, h0, h3, h4, h5, h6⟩ := ok
    simp only at h1 h2 h0 h3 h4 h5 h6
    obtain ⟨g, rfl⟩ := Int.eq_ofNat_of_zero_le h3
    unfold sqP
    simp only
    by_cases k0 : kd = 0
    · rw [if_pos k0]; exact Ev.pos k0 (Ev.bs (shZ w hw s) (Ev.out rfl))
    · rw [if_neg k0]
      refine Ev.neg k0 ?_
      by_cases k3 : kd = 3
      · rw [if_pos (.inl k3)]
        exact Ev.pos k3 (Ev.step (fun _ => radix_Sqrt.j1.eq_2 ..) (Ev.pos rfl (Ev.bs (shN w hw) (Ev.out rfl))))
      · refine Ev.neg k3 (Ev.step (fun _ => radix_Sqrt.j1.eq_2 ..) ?_)
        by_cases ks : s = true
        · rw [if_pos (.inr ks)]
          exact Ev.pos ks (Ev.bs (shN w hw) (Ev.out rfl))
        · rw [if_neg (by simp [k3, ks])]
          refine Ev.neg ks ?_
          by_cases k2 : kd = 2
          · rw [if_pos k2]; exact Ev.pos k2 (Ev.bs (shI w hw false) (Ev.out rfl))
          · rw [if_neg k2]
            have k1 : kd = 1 := by omega
            subst k1
            have hs : s = false := by cases s; rfl; exact absurd rfl ks
            subst hs
            refine Ev.neg k2 (Ev.bind (finiteE w hw false 1 (by have := h2 rfl; omega) (by omega) ⟨h5, h6⟩) (Ev.out ?_))
            rw [pv1]; simp
  unfold radix_Sqrt.f
  rcases hw with rfl | rfl
  · exact Ev.pos rfl main
  · exact Ev.neg (by decide) main
theorem evTwo {α β : Type} {f : Nat → Option α} {g : Nat → Option β} {a : α} {b : β} (hf : Ev f a) (hg : Ev g b) : Ev (fun k => (f k).bind fun x => (g k).bind fun y => some (x, y)) (a, b) := Ev.bind hf (Ev.bind hg (Ev.out rfl))
theorem evPart {α β : Type} {f : Option α} {g : Option β} {a : α} {b : β} (h : (f.bind fun x => g.bind fun y => some (x, y)) = some (a, b)) : f = some a ∧ g = some b := by
  obtain ⟨x, h1, h2⟩ := Option.bind_eq_some_iff.mp h
  obtain ⟨y, h3, h4⟩ := Option.bind_eq_some_iff.mp h2
  simp only [Option.some.injEq, Prod.mk.injEq] at h4
  rw [h1, h3, h4.1, h4.2]
  exact ⟨rfl, rfl⟩
theorem kindT {op : Int} {r : Int × Int × Int × Bool} (h : numeric_Kind.f 9 op = some r) : Ev (fun k => numeric_Kind.f k op) r := Ev.of (fun k => numeric_Kind.mono _ k) (k := 9) h
theorem findT {op : Int} {r : Int × Int × Int} (h : numeric_find.f 9 op = some r) : Ev (fun k => numeric_find.f k op) r := Ev.of (fun k => numeric_find.mono _ k) (k := 9) h
theorem apRoot (w : Int) (hw : w = 32 ∨ w = 64) {op inn n out : Int} (hK : numeric_Kind.f 9 op = some (inn, n, out, true)) (hF : numeric_find.f 9 op = some (6, 6, w)) (hW : numeric_width.f inn = some w) (a : Nat) (ha : a < 18446744073709551616) :
    Ev (fun k => numeric_Apply.f k op a 0) (((sqP w (opn w (cutN w a)) : Nat) : Int), 0) := by
  unfold numeric_Apply.f
  have cz : shape_Cut.f w 0 = some ((cutN w 0 : Nat) : Int) := shCut w 0 (by decide)
  refine Ev.bind (kindT hK) (Ev.pos rfl (Ev.bs hW (Ev.bs (shCut w a ha) (Ev.bs hW (Ev.bs cz (Ev.bind (findT hF) ?_))))))
  refine Ev.neg (by simp) (Ev.neg (by simp) (Ev.neg (by simp) (Ev.neg (by simp) (Ev.neg (by simp) (Ev.pos rfl ?_)))))
  have rd : Ev (fun k => numeric_rounded.f k 6 w ((cutN w a : Nat) : Int)) ((sqP w (opn w (cutN w a)) : Nat) : Int) := by
    unfold numeric_rounded.f
    exact Ev.neg (by decide) (Ev.neg (by decide) (Ev.neg (by decide) (Ev.neg (by decide) (Ev.neg (by decide) (Ev.neg (by decide) (Ev.bind (sqrtE w hw _ (cutN_lt w a ha)) (Ev.out rfl)))))))
  exact Ev.bind rd (Ev.out rfl)
theorem sqE (m : Nat) (j e : Int) (g : Nat) (hm : m < 72057594037927936) (hg : g < 9007199254740992) (hj : -2000 ≤ j ∧ j ≤ 2000) (he : -2000 ≤ e ∧ e ≤ 2000) :
    ∃ c : Int, Ev (fun k => tpSqF k m j e g) c ∧ (((g : Rat) * tw e < ((m : Rat) * tw j) * ((m : Rat) * tw j) ∧ c = 1) ∨ (((m : Rat) * tw j) * ((m : Rat) * tw j) = (g : Rat) * tw e ∧ c = 0) ∨ (((m : Rat) * tw j) * ((m : Rat) * tw j) < (g : Rat) * tw e ∧ c = -1)) := by
  obtain ⟨lo, hlo⟩ : ∃ lo, mn (2 * j) e = lo := ⟨_, rfl⟩
  have l1 := mn_le (2 * j) e
  have l2 : -4000 ≤ lo := by rw [← hlo]; unfold mn; split <;> omega
  rw [hlo] at l1
  obtain ⟨u, hu⟩ := Int.eq_ofNat_of_zero_le (show 0 ≤ 2 * j - lo by omega)
  obtain ⟨v, hv⟩ := Int.eq_ofNat_of_zero_le (show 0 ≤ e - lo by omega)
  have bm := bl_le.2 (show m < 2 ^ 56 from hm)
  have bg := bl_le.2 (show g < 2 ^ 53 from hg)
  have b2 := bl_mul m m
  have b3 := bl_shl (m * m) u
  have b4 := bl_shl g v
  have b5 := bl_mul (g * 2 ^ v) 1
  rw [bl_one] at b5
  refine ⟨cmpN (m * m * 2 ^ u) (g * 2 ^ v * 1), ?_, ?_⟩
  · unfold tpSqF
    refine Ev.bind (of_dg m (by omega)) (Ev.bind (mul_bl m m (by omega) (by omega)) (Ev.bind (of_dg 1 (by decide)) ?_))
    unfold trunniontop_real_cmp.f
    rw [w64_id (n := 2 * j) (by omega) (by omega), hlo, w64_id (n := 2 * j - lo) (by omega) (by omega), w64_id (n := e - lo) (by omega) (by omega), hu, hv]
    exact Ev.bind (shl_bl _ u (by omega) (by omega)) (Ev.bind (of_dg g (by omega)) (Ev.bind (shl_bl g v (by omega) (by omega)) (Ev.bind (mul_bl _ 1 (by omega) (by decide)) (Ev.bind (cmp_bl _ _ (by omega) (by omega)) (Ev.out rfl)))))
  · have T := tw_pos lo
    have r1 : ((m : Rat) * tw j) * ((m : Rat) * tw j) = ((m * m * 2 ^ u : Nat) : Rat) * tw lo := by
      have h1 : tw j * tw j = tw u * tw lo := by rw [← tw_add, ← tw_add]; congr 1; omega
      have h2 := tw_nat u
      push_cast
      push_cast at h2
      rw [← h2]
      have : (m : Rat) * tw j * ((m : Rat) * tw j) = (m : Rat) * m * (tw j * tw j) := by grind
      rw [this, h1]; grind
    have r2 : (g : Rat) * tw e = ((g * 2 ^ v * 1 : Nat) : Rat) * tw lo := by
      have h1 : tw e = tw v * tw lo := by rw [← tw_add]; congr 1; omega
      have h2 := tw_nat v
      rw [Nat.mul_one]
      push_cast
      push_cast at h2
      rw [h1, ← h2, Rat.mul_assoc]
    rw [r1, r2]
    generalize m * m * 2 ^ u = A
    generalize g * 2 ^ v * 1 = B
    unfold cmpN
    by_cases c1 : A < B
    · rw [if_pos c1]
      exact .inr (.inr ⟨mul_lt (nat_lt.2 c1) T, rfl⟩)
    · rw [if_neg c1]
      by_cases c2 : B < A
      · rw [if_pos c2]
        exact .inl ⟨mul_lt (nat_lt.2 c2) T, rfl⟩
      · rw [if_neg c2]
        have : A = B := by omega
        exact .inr (.inl ⟨by rw [this], rfl⟩)
theorem awakeT : Ev (fun k => numeric_Apply.f k 145 1082130432 0) (1073741824, 0) := Ev.of (fun k => numeric_Apply.mono _ _ _ k) (k := 80) (by decide +kernel)
theorem fl1 (w : Int) : 1 ≤ (fmt w).f ∧ (2 * (fmt w).f : Int) + (fmt w).low + 2 ≤ 0 := by unfold fmt; split <;> decide
theorem rowT (w : Int) (hw : w = 32 ∨ w = 64) {op inn n out : Int} (hK : numeric_Kind.f 9 op = some (inn, n, out, true)) (hF : numeric_find.f 9 op = some (6, 6, w)) (hW : numeric_width.f inn = some w) (a : Nat) (ha : a < 18446744073709551616)
    (k0 : 0 < magN w a) (k1 : magN w a < (fmt w).inf) (hs : sgB w a = false) (k2 : opn w a = (sgB w a, 1, (fmt w).ex (magN w a), ((fmt w).sg (magN w a) : Int))) {α : Type} {hf : Nat → Option α} {hx : α} (hE : Ev hf hx) :
    ∃ k, hf k = some hx ∧ tpRow k w a ((fmt w).ex (magN w a)) ((fmt w).sg (magN w a) : Int) op ((2 ^ (fmt w).f : Nat) : Int) := by
  have hc : opn w (cutN w a) = opn w a := by
    rw [cut_as_mk w hw a ha, opn_mk w hw _ _ (magN_lt w hw a), if_neg (by omega), if_pos k1, k2]
  obtain ⟨R, hR⟩ : ∃ R, (fmt w).rsq ((fmt w).val (magN w a)) = R := ⟨_, rfl⟩
  have hlt := rsq_lt w hw k1
  rw [hR] at hlt
  have ui := fun m => usq_iff w (x := (fmt w).val (magN w a)) (m := m) hR hlt
  have f1 := fl1 w
  have fp := (fmt w).pow_pos
  have low0 := (fmt_bd w).2.1
  -- a root lies far above the least floats
  have big : 2 ^ (fmt w).f < R := by
    refine (ui _).1 (.inl ?_)
    obtain ⟨e1, e2⟩ := (fmt w).sg_mk 0 (2 ^ (fmt w).f) (by rw [Nat.pow_succ]; omega) (fun h => by omega)
    rw [Nat.zero_mul, Nat.zero_add] at e1 e2
    have m1 : (fmt w).mid (2 ^ (fmt w).f) < tw ((fmt w).f + (fmt w).low + 1) := by
      unfold Fmt.mid
      rw [e1, e2]
      have h1 : ((2 * 2 ^ (fmt w).f + 1 : Nat) : Rat) < ((2 ^ ((fmt w).f + 2) : Nat) : Rat) := nat_lt.2 (by rw [Nat.pow_succ, Nat.pow_succ]; omega)
      have h2 := mul_lt h1 (tw_pos (((0 : Nat) : Int) + (fmt w).low - 1))
      rw [← tw_nat, ← tw_add, show (((fmt w).f + 2 : Nat) : Int) + (((0 : Nat) : Int) + (fmt w).low - 1) = (fmt w).f + (fmt w).low + 1 by omega] at h2
      exact h2
    have m2 := sq_lt (Rat.le_of_lt ((fmt w).mid_pos _)) m1
    have m3 : tw ((fmt w).f + (fmt w).low + 1) * tw ((fmt w).f + (fmt w).low + 1) ≤ tw (fmt w).low := by rw [← tw_add]; exact tw_le (by omega)
    have m4 : tw (fmt w).low ≤ (fmt w).val (magN w a) := by
      rw [← (fmt w).val_one]
      rcases Nat.lt_or_eq_of_le (show 1 ≤ magN w a from k0) with h | h
      · exact Rat.le_of_lt ((fmt w).val_lt_iff.2 h)
      · rw [← h]; exact Rat.le_refl
    grind
  have hq : sqP w (opn w (cutN w a)) = mkN w R false := by
    rw [hc, k2, hs]
    unfold sqP
    rw [if_neg (by simp), if_neg (by simp), if_neg (by simp), pv1]
    have : (if false = true then -((((fmt w).sg (magN w a) : Nat) : Rat) * tw ((fmt w).ex (magN w a))) else (((fmt w).sg (magN w a) : Nat) : Rat) * tw ((fmt w).ex (magN w a))) = (fmt w).val (magN w a) := if_neg (by decide)
    rw [this, hR]
  have ap := apRoot w hw hK hF hW a ha
  rw [hq] at ap
  have ib := sb_inf w hw
  have Rs : R < sb w := by omega
  have op2 := openS w hw (mkN w R false) (mkN_lt w hw R false Rs)
  rw [opn_mk w hw R false Rs, if_neg (by omega), if_pos hlt] at op2
  have hX : (fmt w).val (magN w a) = ((fmt w).sg (magN w a) : Rat) * tw ((fmt w).ex (magN w a)) := rfl
  have xe := ex_bd w hw _ k1
  have xg := sg_64 w hw (magN w a)
  have re := ex_bd w hw R hlt
  have rg := sg_64 w hw R
  obtain ⟨q, n', hq1, hq2, hq3, hq4, hq5⟩ := (fmt w).sg_ex R
  have np : 0 < n' := by
    rcases Nat.eq_zero_or_pos q with z | z
    · subst z; omega
    · have := hq3 z; omega
  rw [hq4, hq5] at op2
  rw [hq4] at rg
  rw [hq5] at re
  generalize (fmt w).sg (magN w a) = g at *
  generalize (fmt w).ex (magN w a) = e at *
  obtain ⟨d1, D1, E1⟩ := sqE (2 * n' - 1) (q + (fmt w).low - 1) e g (by omega) xg (by omega) (by omega)
  obtain ⟨u, U1, EU⟩ := sqE (2 * n' + 1) (q + (fmt w).low - 1) e g (by omega) xg (by omega) (by omega)
  obtain ⟨d4, D4, E4⟩ := sqE (4 * n' - 1) (q + (fmt w).low - 2) e g (by omega) xg (by omega) (by omega)
  rw [← hX] at E1 EU E4
  have par : R % 2 = n' % 2 := by
    have p2 : ∃ y, 2 ^ (fmt w).f = 2 * y := ⟨2 ^ ((fmt w).f - 1), by rw [← Nat.pow_succ']; congr 1; omega⟩
    obtain ⟨y, hy⟩ := p2
    rw [hq1, hy, Nat.mul_left_comm]; omega
  have tm : Int.tmod ((n' : Nat) : Int) 2 = ((n' % 2 : Nat) : Int) := by rw [Int.tmod_eq_emod_of_nonneg (by omega)]; omega
  -- the middle above
  have up : u = 1 ∨ u = 0 ∧ Int.tmod ((n' : Nat) : Int) 2 = 0 := by
    have no : ¬ (fmt w).USq ((fmt w).val (magN w a)) R := fun h => by have := (ui R).1 h; omega
    have em : (fmt w).mid R = ((2 * n' + 1 : Nat) : Rat) * tw (q + (fmt w).low - 1) := by unfold Fmt.mid; rw [hq4, hq5]
    unfold Fmt.USq at no
    rw [em] at no
    rcases EU with ⟨h, c⟩ | ⟨h, c⟩ | ⟨h, c⟩
    · exact .inl c
    · right
      refine ⟨c, ?_⟩
      have : ¬ R % 2 = 1 := fun z => no (.inr ⟨h, z⟩)
      rw [tm]; omega
    · exact absurd (.inl h) no
  -- the middle below
  have dn : ∀ (M : Nat) (K c : Int), (fmt w).mid (R - 1) = (M : Rat) * tw K →
      (((fmt w).val (magN w a) < ((M : Rat) * tw K) * ((M : Rat) * tw K) ∧ c = 1) ∨ (((M : Rat) * tw K) * ((M : Rat) * tw K) = (fmt w).val (magN w a) ∧ c = 0) ∨ (((M : Rat) * tw K) * ((M : Rat) * tw K) < (fmt w).val (magN w a) ∧ c = -1)) →
      c = -1 ∨ c = 0 ∧ Int.tmod ((n' : Nat) : Int) 2 = 0 := by
    intro M K c em E
    have yes := (ui (R - 1)).2 (by omega)
    unfold Fmt.USq at yes
    rw [em] at yes
    rcases E with ⟨h, c⟩ | ⟨h, c⟩ | ⟨h, c⟩
    · rcases yes with y | ⟨y, _⟩ <;> grind
    · right
      refine ⟨c, ?_⟩
      rcases yes with y | ⟨_, y⟩
      · grind
      · rw [tm]; omega
    · exact .inl c
  have dF : ((((n' : Nat) : Int) == ((2 ^ (fmt w).f : Nat) : Int)) = false) → d1 = -1 ∨ d1 = 0 ∧ Int.tmod ((n' : Nat) : Int) 2 = 0 := by
    intro h
    have hne : n' ≠ 2 ^ (fmt w).f := by intro z; rw [z] at h; simp at h
    refine dn _ _ _ ?_ E1
    obtain ⟨s1, s2⟩ := (fmt w).sg_mk q (n' - 1) (by omega) (fun z => by have := hq3 z; omega)
    have e0 : q * 2 ^ (fmt w).f + (n' - 1) = R - 1 := by omega
    rw [e0] at s1 s2
    unfold Fmt.mid
    rw [s1, s2, show 2 * (n' - 1) + 1 = 2 * n' - 1 by omega]
  have dT : ((((n' : Nat) : Int) == ((2 ^ (fmt w).f : Nat) : Int)) = true) → d4 = -1 ∨ d4 = 0 ∧ Int.tmod ((n' : Nat) : Int) 2 = 0 := by
    intro h
    have heq : n' = 2 ^ (fmt w).f := by have := beq_iff_eq.1 h; exact_mod_cast this
    have q1 : 0 < q := by
      rcases Nat.eq_zero_or_pos q with z | z
      · subst z; omega
      · exact z
    refine dn _ _ _ ?_ E4
    obtain ⟨s1, s2⟩ := (fmt w).sg_mk (q - 1) (2 ^ ((fmt w).f + 1) - 1) (by have : 0 < 2 ^ ((fmt w).f + 1) := Nat.pow_pos (by decide); omega) (fun _ => by rw [Nat.pow_succ]; omega)
    have e0 : (q - 1) * 2 ^ (fmt w).f + (2 ^ ((fmt w).f + 1) - 1) = R - 1 := by
      have : q * 2 ^ (fmt w).f = (q - 1) * 2 ^ (fmt w).f + 2 ^ (fmt w).f := by rw [← Nat.succ_mul, show (q - 1).succ = q by omega]
      rw [Nat.pow_succ]; omega
    rw [e0] at s1 s2
    unfold Fmt.mid
    rw [s1, s2, heq]
    have p2 : 2 ^ ((fmt w).f + 1) = 2 * 2 ^ (fmt w).f := by rw [Nat.pow_succ]; omega
    congr 2
    · rw [p2]; omega
    · omega
  obtain ⟨k, hk⟩ := Ev.rounds (evTwo hE (evTwo ap (evTwo op2 (evTwo D1 (evTwo U1 D4)))))
  obtain ⟨g0, hk⟩ := evPart hk
  obtain ⟨g1, hk⟩ := evPart hk
  obtain ⟨g2, hk⟩ := evPart hk
  obtain ⟨g3, hk⟩ := evPart hk
  obtain ⟨g4, g5⟩ := evPart hk
  refine ⟨k, g0, _, _, _, ((2 * n' : Nat) : Int), ((2 * n' - 1 : Nat) : Int), ((2 * n' + 1 : Nat) : Int), ((4 * n' : Nat) : Int), ((4 * n' - 1 : Nat) : Int), q + (fmt w).low - 1, q + (fmt w).low - 2, d1, d4, u, g1, g2, ?_, ?_, ?_, ?_, ?_, ?_, ?_, g3, g4, g5, up, dF, dT⟩
  · rw [u64_id (by omega) (by omega)]; omega
  · rw [u64_id (by omega) (by omega)]; omega
  · rw [u64_id (by omega) (by omega)]; omega
  · rw [u64_id (by omega) (by omega)]; omega
  · rw [u64_id (by omega) (by omega)]; omega
  · rw [i64_w, w64_id (by omega) (by omega)]
  · rw [i64_w, w64_id (by omega) (by omega)]
theorem TopRootsP : trunniontop_TopRoots.Pure := by
  intro w a hw0 ha0
  obtain ⟨ha1, ha2⟩ := wf_u64 ha0
  obtain ⟨a, rfl⟩ := Int.eq_ofNat_of_zero_le ha1
  have ha : a < 18446744073709551616 := by omega
  by_cases hw : w = 32 ∨ w = 64
  · have o := openS w hw a ha
    have fin : ∀ (xs : Bool) (xk xe xg : Int), opn w a = (xs, xk, xe, xg) → (xk ≠ 1 ∨ (xk = 1 ∧ xs = true)) → ∃ k, tpOk k w a := by
      intro xs xk xe xg h c
      obtain ⟨k, hk⟩ := Ev.rounds (evTwo awakeT o)
      obtain ⟨g1, g2⟩ := evPart hk
      rw [h] at g2
      exact ⟨k, g1, .inr ⟨hw, xs, xk, xe, xg, g2, by rcases c with c | c; exact .inl c; exact .inr (.inl c)⟩⟩
    rcases kinds w hw a with ⟨k1, k2⟩ | ⟨k0, k1, k2⟩ | ⟨k1, k2⟩ | ⟨k1, k2⟩
    · exact fin _ _ _ _ k2 (.inl (by decide))
    · cases hs : sgB w a
      · rcases hw with rfl | rfl
        · obtain ⟨k, g, hk⟩ := rowT 32 (.inl rfl) (op := 145) (inn := 125) (n := 1) (out := 125) (by decide +kernel) (by decide +kernel) (by decide) a ha k0 k1 hs k2 (evTwo awakeT o)
          obtain ⟨g1, g2⟩ := evPart g
          rw [k2, hs] at g2
          exact ⟨k, g1, .inr ⟨.inl rfl, _, _, _, _, g2, .inr (.inr ⟨rfl, rfl, fun _ => hk, fun h => absurd h (by decide)⟩)⟩⟩
        · obtain ⟨k, g, hk⟩ := rowT 64 (.inr rfl) (op := 159) (inn := 124) (n := 1) (out := 124) (by decide +kernel) (by decide +kernel) (by decide) a ha k0 k1 hs k2 (evTwo awakeT o)
          obtain ⟨g1, g2⟩ := evPart g
          rw [k2, hs] at g2
          exact ⟨k, g1, .inr ⟨.inr rfl, _, _, _, _, g2, .inr (.inr ⟨rfl, rfl, fun h => absurd h (by decide), fun _ => hk⟩)⟩⟩
      · exact fin _ _ _ _ k2 (.inr ⟨rfl, hs⟩)
    · exact fin _ _ _ _ k2 (.inl (by decide))
    · exact fin _ _ _ _ k2 (.inl (by decide))
  · obtain ⟨k, hk⟩ := Ev.rounds awakeT
    exact ⟨k, hk, .inl hw⟩
end Go.Proofs.YtnmlmgmljoncoaaGreatDoor.Th
end
namespace Go.Proofs.YtnmlmgmljoncoaaGreatDoor.Pure
theorem TopRoots : Go.Proofs.YtnmlmgmljoncoaaGreatDoor.PA.trunniontop_TopRoots.Pure := Go.Proofs.YtnmlmgmljoncoaaGreatDoor.Th.TopRootsP
end Go.Proofs.YtnmlmgmljoncoaaGreatDoor.Pure
namespace Go.Proofs.YtnmlmgmljoncoaaGreatDoor.Facts
abbrev ch (n : Nat) : Char := Char.ofNat n
theorem words_word (w : List Char) (r : List Char) (h : w.all (fun c => c != ch 32) = true) : wordsSigns (w ++ ch 32 :: r) = w :: wordsSigns r := by
  induction w with
  | nil => rfl
  | cons c w ih =>
    rw [List.all_cons, Bool.and_eq_true] at h
    have hc : c ≠ ch 32 := bne_iff_ne.1 h.1
    rw [List.cons_append]
    rw [wordsSigns.eq_3 c _ (fun e => hc e), ih h.2]
def w1 : List Char := [ch 104, ch 97, ch 114, ch 110, ch 101, ch 115, ch 115]
def w2 : List Char := [ch 52, ch 97, ch 49, ch 99, ch 50, ch 51, ch 102, ch 54, ch 50, ch 55, ch 54, ch 57, ch 53, ch 52, ch 55, ch 53, ch 52, ch 97, ch 56, ch 102, ch 53, ch 99, ch 97, ch 50, ch 51, ch 56, ch 54, ch 48, ch 101, ch 102, ch 101, ch 52, ch 99, ch 57, ch 51, ch 98, ch 97, ch 51, ch 56, ch 54, ch 51, ch 101, ch 97, ch 55, ch 48, ch 50, ch 57, ch 98, ch 101, ch 49, ch 51, ch 51, ch 99, ch 97, ch 51, ch 51, ch 97, ch 100, ch 53, ch 98, ch 52, ch 55, ch 48, ch 100]
def w3 : List Char := [ch 99, ch 117, ch 116]
set_option maxRecDepth 100000 in
def tailSigns : List Char := [ch 97, ch 116, ch 32, ch 116, ch 114, ch 117, ch 110, ch 110, ch 105, ch 111, ch 110, ch 47, ch 116, ch 114, ch 117, ch 110, ch 110, ch 105, ch 111, ch 110, ch 116, ch 111, ch 112, ch 46, ch 84, ch 111, ch 112, ch 82, ch 111, ch 111, ch 116, ch 115, ch 32, ch 116, ch 114, ch 117, ch 110, ch 110, ch 105, ch 111, ch 110, ch 47, ch 116, ch 114, ch 117, ch 110, ch 110, ch 105, ch 111, ch 110, ch 116, ch 111, ch 112, ch 46, ch 84, ch 111, ch 112, ch 78, ch 101, ch 97, ch 114, ch 101, ch 115, ch 116, ch 32, ch 116, ch 114, ch 117, ch 110, ch 110, ch 105, ch 111, ch 110, ch 47, ch 116, ch 114, ch 117, ch 110, ch 110, ch 105, ch 111, ch 110, ch 108, ch 97, ch 119, ch 49, ch 52, ch 46, ch 78, ch 117, ch 109, ch 101, ch 114, ch 105, ch 99, ch 65, ch 112, ch 112, ch 108, ch 105, ch 101, ch 115, ch 32, ch 116, ch 114, ch 117, ch 110, ch 110, ch 105, ch 111, ch 110, ch 47, ch 116, ch 114, ch 117, ch 110, ch 110, ch 105, ch 111, ch 110, ch 108, ch 97, ch 119, ch 49, ch 52, ch 46, ch 78, ch 117, ch 109, ch 101, ch 114, ch 105, ch 99, ch 75, ch 101, ch 101, ch 112, ch 115, ch 32, ch 116, ch 114, ch 117, ch 110, ch 110, ch 105, ch 111, ch 110, ch 47, ch 116, ch 114, ch 117, ch 110, ch 110, ch 105, ch 111, ch 110, ch 108, ch 97, ch 119, ch 49, ch 52, ch 46, ch 78, ch 117, ch 109, ch 101, ch 114, ch 105, ch 99, ch 83, ch 119, ch 97, ch 112, ch 115, ch 32, ch 116, ch 114, ch 117, ch 110, ch 110, ch 105, ch 111, ch 110, ch 47, ch 116, ch 114, ch 117, ch 110, ch 110, ch 105, ch 111, ch 110, ch 108, ch 97, ch 119, ch 49, ch 52, ch 46, ch 78, ch 117, ch 109, ch 101, ch 114, ch 105, ch 99, ch 75, ch 105, ch 110, ch 100, ch 115]
set_option maxRecDepth 100000 in
theorem head_list : Tryz.prog.initOrder.toList = w1 ++ ch 32 :: (w2 ++ ch 32 :: (w3 ++ ch 32 :: tailSigns)) :=
  (congrArg String.toList (show Tryz.prog.initOrder = String.ofList (w1 ++ ch 32 :: (w2 ++ ch 32 :: (w3 ++ ch 32 :: tailSigns))) from rfl)).trans String.toList_ofList
theorem words : ∃ rest, behindMainWord (wordsSigns Tryz.prog.initOrder.toList) = w3 :: rest := by
  refine ⟨wordsSigns tailSigns, ?_⟩
  rw [head_list, words_word w1 _ (by kernel_rfl), words_word w2 _ (by kernel_rfl), words_word w3 _ (by kernel_rfl)]
  generalize wordsSigns tailSigns = rest
  have e : ((w1 == "harness".toList || w1 == "ownmain".toList) && isSumSigns w2) = true := by kernel_rfl
  show (if ((w1 == "harness".toList || w1 == "ownmain".toList) && isSumSigns w2) = true then w3 :: rest else w1 :: w2 :: w3 :: rest) = w3 :: rest
  rw [if_pos e]
theorem c3 : (w3 == "gc".toList) = false ∧ (w3 == "spec".toList) = false ∧ (w3 == "cut".toList) = true ∧ (w3 == "carried".toList) = false ∧ (w3 == "finals".toList) = false := ⟨by kernel_rfl, by kernel_rfl, by kernel_rfl, by kernel_rfl, by kernel_rfl⟩
theorem strip (rest : List (List Char)) : stripLifts liftWords (w3 :: rest) = ([], w3 :: rest) := by
  have key : ∀ l : List String, l.all (fun o => !(w3 == o.toList)) = true → stripLifts l (w3 :: rest) = ([], w3 :: rest) := by
    intro l
    induction l with
    | nil => intro _; rfl
    | cons o l ih =>
      intro h
      rw [List.all_cons, Bool.and_eq_true] at h
      unfold stripLifts
      rw [if_neg (fun e => by have h1 := h.1; rw [e] at h1; cases h1)]
      exact ih h.2
  exact key liftWords (by kernel_rfl)
theorem make_of (P : Program) (h : ∃ rest, behindMainWord (wordsSigns P.initOrder.toList) = w3 :: rest) : P.make = some .cut := by
  obtain ⟨rest, h⟩ := h
  unfold Program.make
  rw [h]
  show (if (w3 == "gc".toList || w3 == "spec".toList) = true then some Make.whole else if (w3 == "cut".toList || (w3 == "finals".toList && rest.head? == some "cut".toList)) = true then some Make.cut else _) = some Make.cut
  rw [if_neg (by rw [c3.1, c3.2.1]; decide), if_pos (by rw [c3.2.2.1, Bool.true_or])]
set_option maxRecDepth 100000 in
theorem liftsFact : Tryz.prog.liftsFinal = false := by
  unfold Program.liftsFinal Program.headLifts
  rw [head_list]
  kernel_rfl
theorem doorFact : (!Tryz.prog.laysLater && !Tryz.prog.bearsReflect && Tryz.prog.doorFits []) = true := by kernel_rfl
theorem makeFact : Tryz.prog.make = some .cut := make_of _ words
theorem enter_of (P : Program) (h : ∃ rest, behindMainWord (wordsSigns P.initOrder.toList) = w3 :: rest) (d : (!P.laysLater && !P.bearsReflect && P.doorFits []) = true) : P.mayEnter = true := by
  obtain ⟨rest, h⟩ := h
  rw [Bool.and_eq_true, Bool.and_eq_true] at d
  have e : ((some w3 == some "cut".toList) : Bool) = true := by kernel_rfl
  unfold Program.mayEnter
  rw [h]
  show ((_ || _) || ((stripLifts liftWords (w3 :: rest)).2.head? == some "cut".toList && ((stripLifts liftWords (w3 :: rest)).1.contains "finals" || !P.laysLater) && ((stripLifts liftWords (w3 :: rest)).1.contains "reflectrows" || !P.bearsReflect) &&
      ((stripLifts liftWords (w3 :: rest)).1.contains "reflectrows" || !(stripLifts liftWords (w3 :: rest)).1.contains "leanrows") && P.doorFits (stripLifts liftWords (w3 :: rest)).1)) = true
  rw [strip, Bool.or_eq_true]
  refine .inr ?_
  rw [Bool.and_eq_true, Bool.and_eq_true, Bool.and_eq_true, Bool.and_eq_true, Bool.or_eq_true, Bool.or_eq_true]
  exact ⟨⟨⟨⟨e, .inr d.1.1⟩, .inr d.1.2⟩, rfl⟩, d.2⟩
theorem enterFact : Tryz.prog.mayEnter = true := enter_of _ words doorFact
end Go.Proofs.YtnmlmgmljoncoaaGreatDoor.Facts
