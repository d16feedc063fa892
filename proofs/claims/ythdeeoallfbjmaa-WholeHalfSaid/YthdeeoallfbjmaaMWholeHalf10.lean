/- What the Go functions that the statement WholeHalf reaches compute, and the mathematics on it, in the order in which one leans on the other; for every input. -/
import Derived.Test.YthdeeoallfbjmaaVWholeHalf1
import Derived.Test.YthdeeoallfbjmaaMWholeHalf0
import Derived.Test.YthdeeoallfbjmaaMWholeHalf2
import Derived.Test.YthdeeoallfbjmaaMWholeHalf3
import Derived.Test.YthdeeoallfbjmaaMWholeHalf9
import Derived.Test.YthdeeoallfbjmaaMWholeHalf1
import Derived.Test.YthdeeoallfbjmaaMWholeHalf6
import Derived.Deep.RegionHeld3
import Derived.Test.YthdeeoallfbjmaaMWholeHalf8
import Derived.Test.YthdeeoallfbjmaaMWholeHalf5
/- whole.made, over any function value whose contract is given: what its four callers hand it. -/
namespace Go.Proofs.Ythdeeoallfbjmaa.PA
open Go.RowKit Go.Proofs.YthdeeoallfbjmaaW.PrintWords Go.Proofs.YthdeeoallfbjmaaW.PrintLast Go.Proofs.YthdeeoallfbjmaaW.PrintMore
attribute [local go_sem] max2_int min2_int max_two min_two max_three min_three max_four min_four   -- for this text's walks alone
set_option linter.unusedVariables false
set_option linter.unusedSimpArgs false
def whole_madeF (k : Nat) (aw : Bool → Int → Bool → Bool → Bool) (a0 a1 : Int) : Option Int :=
  if a0 = 32 ∨ a0 = 64 then (shape_Open.f k a0 a1).bind fun b =>
    if b.2.1 = 3 then shape_Nan.f a0
    else if b.2.1 = 1 ∧ b.2.2.1 < 0 then (whole_of.f b.1 b.2.1 b.2.2.1 b.2.2.2).bind fun c =>
      round_Pack.f a0 c.1 0 (if (c.2.2.1 || c.2.2.2) && aw c.1 c.2.1 c.2.2.1 c.2.2.2 then IntKind.u64.wrap (c.2.1 + 1) else c.2.1) 0 false
    else shape_Cut.f a0 a1
  else some 0
theorem whole_madeMono : ∀ aw a0 a1 k, LeO (whole_madeF k aw a0 a1) (whole_madeF (k + 1) aw a0 a1) := by
  intro aw a0 a1 k
  unfold whole_madeF
  exact LeO.ite (LeO.bind (shape_Open.mono _ _ _) fun _ => LeO.refl _) (LeO.refl _)
theorem Nr.exMade {W w' : World} {b : Nat} {v v1 : Value} (q : W.cell? ⟨b, 0, none⟩ = some v) (q1 : W.cell? ⟨b, 1, none⟩ = some v1) (z : b < W.heap.size) (hB : Below W.heap.size W w') :
    w'.cell? ⟨b, 0, none⟩ = some v ∧ w'.cell? ⟨b, 1, none⟩ = some v1 ∧ Below W.heap.size W w' :=
  ⟨((Nr.bcell hB).1 _ _ z).trans q, ((Nr.bcell hB).1 _ _ z).trans q1, hB⟩
theorem Nr.box4 {w w1 : World} {x0 x1 x2 x3 : Value} {ty : Nat} (h : Below (w.alloc (.cells #[x0, x1, x2, x3] ty)).heap.size (w.alloc (.cells #[x0, x1, x2, x3] ty)) w1) :
    w1.cell? ⟨w.heap.size, 0, none⟩ = some x0 ∧ w1.cell? ⟨w.heap.size, 1, none⟩ = some x1 ∧ w1.cell? ⟨w.heap.size, 2, none⟩ = some x2 ∧ w1.cell? ⟨w.heap.size, 3, none⟩ = some x3 ∧ w1.frozen? ⟨w.heap.size, 1, none⟩ = false ∧ w.heap.size < w1.heap.size := by
  have b := Nr.bcell h
  have z : w.heap.size < (w.alloc (.cells #[x0, x1, x2, x3] ty)).heap.size := by simp
  refine ⟨?_, ?_, ?_, ?_, ?_, Nat.lt_of_lt_of_le z h.size⟩
  · rw [b.1 _ _ z]; simp [go_sem]
  · rw [b.1 _ _ z]; simp [go_sem]
  · rw [b.1 _ _ z]; simp [go_sem]
  · rw [b.1 _ _ z]; simp [go_sem]
  · rw [b.2 _ _ z]; simp [go_sem]
theorem Nr.so (w : World) (B : Nat) (x : Value) : (w.setCell ⟨B, 1, none⟩ x).cell? ⟨B, 0, none⟩ = w.cell? ⟨B, 0, none⟩ := World.cell?_setCell_other w _ _ x (by simp)
theorem Nr.cc {w w1 : World} {B o : Nat} {v : Value} (h : Below w.heap.size w w1) (z : B < w.heap.size) (q : w.cell? ⟨B, o, none⟩ = some v) : w1.cell? ⟨B, o, none⟩ = some v := ((Nr.bcell h).1 _ _ z).trans q
theorem Nr.cf {w w1 : World} {B o : Nat} {v : Bool} (h : Below w.heap.size w w1) (z : B < w.heap.size) (q : w.frozen? ⟨B, o, none⟩ = v) : w1.frozen? ⟨B, o, none⟩ = v := ((Nr.bcell h).2 _ _ z).trans q
set_option maxHeartbeats 8000000 in
set_option maxRecDepth 100000 in
theorem whole_madeCalls (k : Nat) (kc : Nat) (aw : Bool → Int → Bool → Bool → Bool)
    (ek : ∀ args w, (callFunc kc args).run Try.prog w = .ok (.enter kc args) w)
    (hc : ∀ (s : Bool) (n : Int) (h l : Bool) (w : World), Calls Try.prog kc #[.agg #[.bool s, .int .u64 n, .bool h, .bool l]] w fun e w' => e = .returned (.bool (aw s n h l)) ∧ Below w.heap.size w w')
    (a0 a1 r : Int) (w : World) (h : whole_madeF k aw a0 a1 = some r) :
    Calls Try.prog 25 #[.int .i64 a0, .int .u64 a1, .func (.func kc) #[] #[]] w fun e w' => e = .returned (.int .u64 r) ∧ Below w.heap.size w w' := by
  have hu1 := Try.underlying36
  have hu2 := Try.underlying47
  have hu3 := Try.underlying75
  unfold whole_madeF at h
  by_cases hw : a0 = 32 ∨ a0 = 64
  · rw [if_pos hw] at h
    rcases hw with rfl | rfl
    all_goals
      obtain ⟨⟨s, kd, ex, g⟩, B1, h⟩ := Option.bind_eq_some_iff.mp h
      have T1 := Aside0.mk B1
      clear B1
      dsimp only at h
      by_cases k3 : kd = 3
      · rw [if_pos k3] at h
        subst k3
        have T2 := Aside0.mk h
        clear h
        go_enter Try.func25, Try.ntmps25
        go_wp2_with (first
          | (go_at_call 16; (with_reducible refine (shape_Open.calls k _ a1 s 3 ex g _ T1.out).mono ?_); rintro e w2 ⟨rfl, hb⟩; have HB := Aside0.mk hb; clear hb)
          | (go_at_call 17; (with_reducible refine (shape_Nan.calls _ r _ T2.out).mono ?_); rintro e w3 ⟨rfl, hb3⟩))
        go_ret
        exact ⟨rfl, below_step (below_alloc HB.out _) hb3⟩
      · rw [if_neg k3] at h
        have c3 : (kd == 3) = false := beq_eq_false_iff_ne.mpr k3
        by_cases c : kd = 1 ∧ ex < 0
        · rw [if_pos c] at h
          obtain ⟨rfl, cx⟩ := c
          obtain ⟨⟨s', n, hf, l⟩, B2, h⟩ := Option.bind_eq_some_iff.mp h
          dsimp only at h
          have T2 := Aside0.mk B2
          have cx' : (decide (0 ≤ ex)) = false := decide_eq_false (by omega)
          clear B2 k3 cx
          -- WAYS
          have E3 : whole_cut_exact.f s' n hf l = some (!(hf || l)) := by cases hf <;> cases l <;> rfl
          cases b1 : (hf || l)
          · rw [b1] at h E3
            have T3 := Aside0.mk (show whole_cut_exact.f s' n hf l = some true from E3)
            have T4 := Aside0.mk (show round_Pack.f _ s' 0 n 0 false = some r from h)
            clear h E3 b1
            go_enter Try.func25, Try.ntmps25
            go_upto_region 11 with (first
              | (go_at_call 16; (with_reducible refine (shape_Open.calls k _ a1 s 1 ex g _ T1.out).mono ?_); rintro e w2 ⟨rfl, hb2⟩; have HB := Aside0.mk hb2; clear hb2)
              | (go_at_call 36; (with_reducible refine (whole_of.calls s 1 ex g s' n hf l _ T2.out).mono ?_); rintro e w3 ⟨rfl, hb3⟩; replace HB := Aside0.mk (below_step (below_alloc HB.out _) hb3); have G3 := Aside0.mk HB.out.size; clear hb3)
              | (go_at_call 37; (with_reducible refine (whole_cut_exact.calls s' n hf l true _ T3.out).mono ?_); rintro e w4 ⟨rfl, hb4⟩; have BX := Nr.box4 hb4; obtain ⟨q0, q1, q2, q3, qf, ql⟩ := BX; replace HB := Aside0.mk (below_step (below_alloc HB.out _) hb4); clear hb4))
            obtain ⟨N', hN⟩ : ∃ N', n = N' := ⟨_, rfl⟩
            rw [hN] at T4 q1
            generalize w3.heap.size = B at q0 q1 ql ⊢
            go_region_held3 (fun w' => w'.cell? ⟨B, 0, none⟩ = some (.bool s') ∧ w'.cell? ⟨B, 1, none⟩ = some (.int .u64 N') ∧ Below w4.heap.size w4 w')
              (((try go_split_ands); (try dsimp only); refine Nr.exMade q0 q1 ql ?_; (repeat (first | assumption | exact BW2.out | exact BW1.out | exact Below.refl _ _ | apply below_drew1 | apply below_alloc)); done))
              (first
                | (go_at_call 58; refine (wide_Of.calls N' 0 N' _ rfl).mono ?_; rintro e w6 ⟨rfl, hb⟩; (try go_split_ands); have BW1 := Aside0.mk (show Below w4.heap.size w4 w6 from below_step (by first | assumption | exact Below.refl _ _) hb))
                | (go_at_call 57; refine (round_Pack.calls _ s' 0 N' 0 false r _ T4.out).mono ?_; rintro e w7 ⟨rfl, hb⟩; (try go_split_ands); have BW2 := Aside0.mk (show Below w4.heap.size w4 w7 from below_step (by first | assumption | exact BW1.out) hb)))
            all_goals (go_wp2_with fail; go_ret; exact ⟨rfl, below_step HB.out (by repeat (first | assumption | exact BW2.out | apply below_drew1 | apply below_alloc))⟩)
          · rw [b1] at h E3
            have T3 := Aside0.mk (show whole_cut_exact.f s' n hf l = some false from E3)
            clear E3 b1
            cases b2 : aw s' n hf l
            · rw [b2] at h
              have T4 := Aside0.mk (show round_Pack.f _ s' 0 n 0 false = some r from h)
              clear h
              have hc := fun w => b2 ▸ hc s' n hf l w
              go_enter Try.func25, Try.ntmps25
              go_upto_region 11 with (first
                | (go_at_call 16; (with_reducible refine (shape_Open.calls k _ a1 s 1 ex g _ T1.out).mono ?_); rintro e w2 ⟨rfl, hb2⟩; have HB := Aside0.mk hb2; clear hb2)
                | (go_at_call 36; (with_reducible refine (whole_of.calls s 1 ex g s' n hf l _ T2.out).mono ?_); rintro e w3 ⟨rfl, hb3⟩; replace HB := Aside0.mk (below_step (below_alloc HB.out _) hb3); have G3 := Aside0.mk HB.out.size; clear hb3)
                | (go_at_call 37; (with_reducible refine (whole_cut_exact.calls s' n hf l false _ T3.out).mono ?_); rintro e w4 ⟨rfl, hb4⟩; have BX := Nr.box4 hb4; obtain ⟨q0, q1, q2, q3, qf, ql⟩ := BX; replace HB := Aside0.mk (below_step (below_alloc HB.out _) hb4); clear hb4)
                | (go_at_fn kc; refine (hc _).mono ?_; rintro e w5 ⟨rfl, hb5⟩; replace q0 := Nr.cc hb5 ql q0; replace q1 := Nr.cc hb5 ql q1; replace qf := Nr.cf hb5 ql qf; replace ql := Nat.lt_of_lt_of_le ql hb5.size; replace HB := Aside0.mk (below_step HB.out hb5); clear hb5))
              obtain ⟨N', hN⟩ : ∃ N', n = N' := ⟨_, rfl⟩
              rw [hN] at T4 q1
              generalize w3.heap.size = B at q0 q1 ql ⊢
              go_region_held3 (fun w' => w'.cell? ⟨B, 0, none⟩ = some (.bool s') ∧ w'.cell? ⟨B, 1, none⟩ = some (.int .u64 N') ∧ Below w5.heap.size w5 w')
                (((try go_split_ands); (try dsimp only); refine Nr.exMade q0 q1 ql ?_; (repeat (first | assumption | exact BW2.out | exact BW1.out | exact Below.refl _ _ | apply below_drew1 | apply below_alloc)); done))
                (first
                  | (go_at_call 58; refine (wide_Of.calls N' 0 N' _ rfl).mono ?_; rintro e w6 ⟨rfl, hb⟩; (try go_split_ands); have BW1 := Aside0.mk (show Below w5.heap.size w5 w6 from below_step (by first | assumption | exact Below.refl _ _) hb))
                  | (go_at_call 57; refine (round_Pack.calls _ s' 0 N' 0 false r _ T4.out).mono ?_; rintro e w7 ⟨rfl, hb⟩; (try go_split_ands); have BW2 := Aside0.mk (show Below w5.heap.size w5 w7 from below_step (by first | assumption | exact BW1.out) hb)))
              all_goals (go_wp2_with fail; go_ret; exact ⟨rfl, below_step HB.out (by repeat (first | assumption | exact BW2.out | apply below_drew1 | apply below_alloc))⟩)
            · rw [b2] at h
              have T4 := Aside0.mk (show round_Pack.f _ s' 0 (IntKind.u64.wrap (n + 1)) 0 false = some r from h)
              clear h
              have hc := fun w => b2 ▸ hc s' n hf l w
              go_enter Try.func25, Try.ntmps25
              go_upto_region 11 with (first
                | (go_at_call 16; (with_reducible refine (shape_Open.calls k _ a1 s 1 ex g _ T1.out).mono ?_); rintro e w2 ⟨rfl, hb2⟩; have HB := Aside0.mk hb2; clear hb2)
                | (go_at_call 36; (with_reducible refine (whole_of.calls s 1 ex g s' n hf l _ T2.out).mono ?_); rintro e w3 ⟨rfl, hb3⟩; replace HB := Aside0.mk (below_step (below_alloc HB.out _) hb3); have G3 := Aside0.mk HB.out.size; clear hb3)
                | (go_at_call 37; (with_reducible refine (whole_cut_exact.calls s' n hf l false _ T3.out).mono ?_); rintro e w4 ⟨rfl, hb4⟩; have BX := Nr.box4 hb4; obtain ⟨q0, q1, q2, q3, qf, ql⟩ := BX; replace HB := Aside0.mk (below_step (below_alloc HB.out _) hb4); clear hb4)
                | (go_at_fn kc; refine (hc _).mono ?_; rintro e w5 ⟨rfl, hb5⟩; replace q0 := Nr.cc hb5 ql q0; replace q1 := Nr.cc hb5 ql q1; replace qf := Nr.cf hb5 ql qf; replace ql := Nat.lt_of_lt_of_le ql hb5.size; replace HB := Aside0.mk (below_step HB.out hb5); clear hb5))
              obtain ⟨W, hW⟩ : ∃ W, w5.setCell ⟨w3.heap.size, 1, none⟩ (.int .u64 (IntKind.u64.wrap (n + 1))) = W := ⟨_, rfl⟩
              rw [hW]
              have u0 : W.cell? ⟨w3.heap.size, 0, none⟩ = some (.bool s') := by rw [← hW, Nr.so]; exact q0
              have u1 : W.cell? ⟨w3.heap.size, 1, none⟩ = some (.int .u64 (IntKind.u64.wrap (n + 1))) := by rw [← hW]; exact World.cell?_setCell_same _ _ _ q1
              have ul : w3.heap.size < W.heap.size := by rw [← hW]; simpa [go_sem] using ql
              replace HB := Aside0.mk (show Below w.heap.size w W from hW ▸ below_set HB.out G3.out)
              clear hW q0 q1 ql
              have q0 := u0
              have q1 := u1
              have ql := ul
              clear u0 u1 ul
              obtain ⟨N', hN⟩ : ∃ N', IntKind.u64.wrap (n + 1) = N' := ⟨_, rfl⟩
              rw [hN] at T4 q1
              generalize w3.heap.size = B at q0 q1 ql ⊢
              go_region_held3 (fun w' => w'.cell? ⟨B, 0, none⟩ = some (.bool s') ∧ w'.cell? ⟨B, 1, none⟩ = some (.int .u64 N') ∧ Below W.heap.size W w')
                (((try go_split_ands); (try dsimp only); refine Nr.exMade q0 q1 ql ?_; (repeat (first | assumption | exact BW2.out | exact BW1.out | exact Below.refl _ _ | apply below_drew1 | apply below_alloc)); done))
                (first
                  | (go_at_call 58; refine (wide_Of.calls N' 0 N' _ rfl).mono ?_; rintro e w6 ⟨rfl, hb⟩; (try go_split_ands); have BW1 := Aside0.mk (show Below W.heap.size W w6 from below_step (by first | assumption | exact Below.refl _ _) hb))
                  | (go_at_call 57; refine (round_Pack.calls _ s' 0 N' 0 false r _ T4.out).mono ?_; rintro e w7 ⟨rfl, hb⟩; (try go_split_ands); have BW2 := Aside0.mk (show Below W.heap.size W w7 from below_step (by first | assumption | exact BW1.out) hb)))
              all_goals (go_wp2_with fail; go_ret; exact ⟨rfl, below_step HB.out (by repeat (first | assumption | exact BW2.out | apply below_drew1 | apply below_alloc))⟩)
          -- END WAYS
        · rw [if_neg c] at h
          have T2 := Aside0.mk h
          clear h
          by_cases c1 : kd = 1
          · subst c1
            have cx' : (decide (0 ≤ ex)) = true := decide_eq_true (by omega)
            clear c k3
            go_enter Try.func25, Try.ntmps25
            go_wp2_with (first
              | (go_at_call 16; (with_reducible refine (shape_Open.calls k _ a1 s 1 ex g _ T1.out).mono ?_); rintro e w2 ⟨rfl, hb⟩; have HB := Aside0.mk hb; clear hb)
              | (go_at_call 18; (with_reducible refine (shape_Cut.calls _ a1 r _ T2.out).mono ?_); rintro e w3 ⟨rfl, hb3⟩))
            go_ret
            exact ⟨rfl, below_step (below_alloc HB.out _) hb3.below⟩
          · have cx' : (kd != 1) = true := bne_iff_ne.mpr c1
            clear c c1 k3
            go_enter Try.func25, Try.ntmps25
            go_wp2_with (first
              | (go_at_call 16; (with_reducible refine (shape_Open.calls k _ a1 s kd ex g _ T1.out).mono ?_); rintro e w2 ⟨rfl, hb⟩; have HB := Aside0.mk hb; clear hb)
              | (go_at_call 18; (with_reducible refine (shape_Cut.calls _ a1 r _ T2.out).mono ?_); rintro e w3 ⟨rfl, hb3⟩))
            go_ret
            exact ⟨rfl, below_step (below_alloc HB.out _) hb3.below⟩
  · rw [if_neg hw] at h
    obtain rfl := Option.some.inj h
    have c1 : (a0 != 32) = true := bne_iff_ne.mpr (by omega)
    have c2 : (a0 != 64) = true := bne_iff_ne.mpr (by omega)
    clear h hw
    go_enter Try.func25, Try.ntmps25
    go_wp2_with fail
    go_ret
    exact ⟨rfl, Below.refl _ _⟩
end Go.Proofs.Ythdeeoallfbjmaa.PA
namespace Go.Proofs.Ythdeeoallfbjmaa.PA
open Go.RowKit Go.Proofs.YthdeeoallfbjmaaW.PrintWords Go.Proofs.YthdeeoallfbjmaaW.PrintLast Go.Proofs.YthdeeoallfbjmaaW.PrintMore
attribute [local go_sem] max2_int min2_int max_two min_two max_three min_three max_four min_four   -- for this text's walks alone
set_option linter.unusedVariables false
set_option linter.unusedSimpArgs false
set_option maxHeartbeats 8000000
set_option maxRecDepth 100000
-- IMPORT Derived.Test.YthdeeoallfbjmaaHMade
def whole_Nearest.aw : Bool → Int → Bool → Bool → Bool := fun _ n h l => h && (l || Go.bits .and .u64 n 1 == 1)
def whole_Nearest.f (k : Nat) (a0 : Int) (a1 : Int) : Option (Int) := whole_madeF k whole_Nearest.aw a0 a1
theorem whole_Nearest.mono : ∀ a0 a1 k, LeO (whole_Nearest.f k a0 a1) (whole_Nearest.f (k + 1) a0 a1) := fun a0 a1 k => whole_madeMono _ a0 a1 k
theorem whole_Nearest.away (s : Bool) (n : Int) (h l : Bool) (w : World) : Calls Try.prog 29 #[.agg #[.bool s, .int .u64 n, .bool h, .bool l]] w fun e w' => e = .returned (.bool (whole_Nearest.aw s n h l)) ∧ Below w.heap.size w w' := by
 have hu2 := Try.underlying47
 obtain ⟨b, hb⟩ : ∃ b, (Go.bits .and .u64 n 1 == 1) = b := ⟨_, rfl⟩
 have e : whole_Nearest.aw s n h l = (h && (l || b)) := by show (h && (l || Go.bits .and .u64 n 1 == 1)) = _; rw [hb]
 rw [e]
 clear e
 cases h <;> cases l
 all_goals (
  go_enter Try.func29, Try.ntmps29
  go_wp2
  go_ret
  first | exact ⟨rfl, Below.refl _ _⟩ | exact ⟨rfl, below_alloc (Below.refl _ _) _⟩ | (refine ⟨by simp [hb], ?_⟩; first | exact Below.refl _ _ | exact below_alloc (Below.refl _ _) _))
theorem whole_Nearest.calls (k : Nat) (a0 : Int) (a1 : Int) (r : Int) (w : World) (h : whole_Nearest.f k a0 a1 = some r) :
  Calls Try.prog 10 #[.int .i64 a0, .int .u64 a1] w fun e w' => e = .returned (.int .u64 r) ∧ Below w.heap.size w w' := by
 have H := whole_madeCalls k 29 whole_Nearest.aw (fun args w => enters_of Try.func29 (by kernel_rfl) rfl args w) whole_Nearest.away a0 a1 r w h
 go_enter Try.func10, Try.ntmps10
 go_wp2_with (go_at_call 25; refine H.mono ?_; rintro e w1 ⟨rfl, hb⟩)
 go_ret
 exact ⟨rfl, hb⟩
-- IMPORT Derived.Test.YthdeeoallfbjmaaHMade
def whole_Ceil.aw : Bool → Int → Bool → Bool → Bool := fun s _ _ _ => !s
def whole_Ceil.f (k : Nat) (a0 : Int) (a1 : Int) : Option (Int) := whole_madeF k whole_Ceil.aw a0 a1
theorem whole_Ceil.mono : ∀ a0 a1 k, LeO (whole_Ceil.f k a0 a1) (whole_Ceil.f (k + 1) a0 a1) := fun a0 a1 k => whole_madeMono _ a0 a1 k
theorem whole_Ceil.away (s : Bool) (n : Int) (h l : Bool) (w : World) : Calls Try.prog 26 #[.agg #[.bool s, .int .u64 n, .bool h, .bool l]] w fun e w' => e = .returned (.bool (whole_Ceil.aw s n h l)) ∧ Below w.heap.size w w' := by
 have hu2 := Try.underlying47
 go_enter Try.func26, Try.ntmps26
 go_wp2
 all_goals (go_ret; first | exact ⟨rfl, Below.refl _ _⟩ | exact ⟨rfl, below_alloc (Below.refl _ _) _⟩ | (refine ⟨by simp [whole_Ceil.aw, *], ?_⟩; first | exact Below.refl _ _ | exact below_alloc (Below.refl _ _) _))
theorem whole_Ceil.calls (k : Nat) (a0 : Int) (a1 : Int) (r : Int) (w : World) (h : whole_Ceil.f k a0 a1 = some r) :
  Calls Try.prog 7 #[.int .i64 a0, .int .u64 a1] w fun e w' => e = .returned (.int .u64 r) ∧ Below w.heap.size w w' := by
 have H := whole_madeCalls k 26 whole_Ceil.aw (fun args w => enters_of Try.func26 (by kernel_rfl) rfl args w) whole_Ceil.away a0 a1 r w h
 go_enter Try.func7, Try.ntmps7
 go_wp2_with (go_at_call 25; refine H.mono ?_; rintro e w1 ⟨rfl, hb⟩)
 go_ret
 exact ⟨rfl, hb⟩
-- IMPORT Derived.Test.YthdeeoallfbjmaaHMade
def whole_Floor.aw : Bool → Int → Bool → Bool → Bool := fun s _ _ _ => s
def whole_Floor.f (k : Nat) (a0 : Int) (a1 : Int) : Option (Int) := whole_madeF k whole_Floor.aw a0 a1
theorem whole_Floor.mono : ∀ a0 a1 k, LeO (whole_Floor.f k a0 a1) (whole_Floor.f (k + 1) a0 a1) := fun a0 a1 k => whole_madeMono _ a0 a1 k
theorem whole_Floor.away (s : Bool) (n : Int) (h l : Bool) (w : World) : Calls Try.prog 27 #[.agg #[.bool s, .int .u64 n, .bool h, .bool l]] w fun e w' => e = .returned (.bool (whole_Floor.aw s n h l)) ∧ Below w.heap.size w w' := by
 have hu2 := Try.underlying47
 go_enter Try.func27, Try.ntmps27
 go_wp2
 all_goals (go_ret; first | exact ⟨rfl, Below.refl _ _⟩ | exact ⟨rfl, below_alloc (Below.refl _ _) _⟩ | (refine ⟨by simp [whole_Floor.aw, *], ?_⟩; first | exact Below.refl _ _ | exact below_alloc (Below.refl _ _) _))
theorem whole_Floor.calls (k : Nat) (a0 : Int) (a1 : Int) (r : Int) (w : World) (h : whole_Floor.f k a0 a1 = some r) :
  Calls Try.prog 8 #[.int .i64 a0, .int .u64 a1] w fun e w' => e = .returned (.int .u64 r) ∧ Below w.heap.size w w' := by
 have H := whole_madeCalls k 27 whole_Floor.aw (fun args w => enters_of Try.func27 (by kernel_rfl) rfl args w) whole_Floor.away a0 a1 r w h
 go_enter Try.func8, Try.ntmps8
 go_wp2_with (go_at_call 25; refine H.mono ?_; rintro e w1 ⟨rfl, hb⟩)
 go_ret
 exact ⟨rfl, hb⟩
-- IMPORT Derived.Test.YthdeeoallfbjmaaHMade
def whole_Trunc.aw : Bool → Int → Bool → Bool → Bool := fun _ _ _ _ => false
def whole_Trunc.f (k : Nat) (a0 : Int) (a1 : Int) : Option (Int) := whole_madeF k whole_Trunc.aw a0 a1
theorem whole_Trunc.mono : ∀ a0 a1 k, LeO (whole_Trunc.f k a0 a1) (whole_Trunc.f (k + 1) a0 a1) := fun a0 a1 k => whole_madeMono _ a0 a1 k
theorem whole_Trunc.away (s : Bool) (n : Int) (h l : Bool) (w : World) : Calls Try.prog 28 #[.agg #[.bool s, .int .u64 n, .bool h, .bool l]] w fun e w' => e = .returned (.bool (whole_Trunc.aw s n h l)) ∧ Below w.heap.size w w' := by
 have hu2 := Try.underlying47
 go_enter Try.func28, Try.ntmps28
 go_wp2
 all_goals (go_ret; first | exact ⟨rfl, Below.refl _ _⟩ | exact ⟨rfl, below_alloc (Below.refl _ _) _⟩ | (refine ⟨by simp [whole_Trunc.aw, *], ?_⟩; first | exact Below.refl _ _ | exact below_alloc (Below.refl _ _) _))
theorem whole_Trunc.calls (k : Nat) (a0 : Int) (a1 : Int) (r : Int) (w : World) (h : whole_Trunc.f k a0 a1 = some r) :
  Calls Try.prog 9 #[.int .i64 a0, .int .u64 a1] w fun e w' => e = .returned (.int .u64 r) ∧ Below w.heap.size w w' := by
 have H := whole_madeCalls k 28 whole_Trunc.aw (fun args w => enters_of Try.func28 (by kernel_rfl) rfl args w) whole_Trunc.away a0 a1 r w h
 go_enter Try.func9, Try.ntmps9
 go_wp2_with (go_at_call 25; refine H.mono ?_; rintro e w1 ⟨rfl, hb⟩)
 go_ret
 exact ⟨rfl, hb⟩
def L09_awake.f (k : Nat)  : Option (Bool) := (whole_Nearest.f k 64 4612811918334230528).bind fun t213 => (if t213 = 4611686018427387904 then ((whole_Nearest.f k 64 13826050856027422720).bind fun t214 => (if t214 = 9223372036854775808 then ((whole_Ceil.f k 64 13826050856027422720).bind fun t215 => (some (t215 == 9223372036854775808))) else (some false))) else (some false))
theorem L09_awake.mono : ∀ k, LeO (L09_awake.f k ) (L09_awake.f (k + 1) ) := by
 intro  k
 unfold L09_awake.f
 repeat' first
   | (with_reducible exact whole_Ceil.mono _ _ _)
   | (with_reducible exact whole_Nearest.mono _ _ _)
   | (with_reducible exact LeO.refl _)
   | (with_reducible exact LeO.none _)
   | (with_reducible refine LeO.ite ?_ ?_)
   | (with_reducible refine LeO.bind ?_ (fun _ => ?_))
   | exact whole_Ceil.mono _ _ _
   | exact whole_Nearest.mono _ _ _
   | exact LeO.none _
   | refine LeO.ite ?_ ?_
   | refine LeO.bind ?_ (fun _ => ?_)
theorem L09_awake.calls (k : Nat)  (r : Bool) (w : World) (h : L09_awake.f k  = some r) :
  Calls Try.prog 6 #[] w fun e w' => e = .returned (.bool r) ∧ Below w.heap.size w w' := by
 have HB := A_ (Below.refl w.heap.size w)
 have H : ((whole_Nearest.f k 64 4612811918334230528).bind fun t213 => (if t213 = 4611686018427387904 then ((whole_Nearest.f k 64 13826050856027422720).bind fun t214 => (if t214 = 9223372036854775808 then ((whole_Ceil.f k 64 13826050856027422720).bind fun t215 => (some (t215 == 9223372036854775808))) else (some false))) else (some false))) = some r := h
 clear h
 replace H := ob_ H
 obtain ⟨t213, A10, H⟩ := H
 replace H : (if t213 = 4611686018427387904 then ((whole_Nearest.f k 64 13826050856027422720).bind fun t214 => (if t214 = 9223372036854775808 then ((whole_Ceil.f k 64 13826050856027422720).bind fun t215 => (some (t215 == 9223372036854775808))) else (some false))) else (some false)) = some r := H
 have A1 := A_ A10;clear A10
 by_cases c2 : t213 = 4611686018427387904
 ·rw [if_pos c2] at H
  have c2b0 : (t213 == 4611686018427387904) = true := beq_iff_eq.mpr c2
  have c2b1 : (t213 != 4611686018427387904) = false := bne_eq_false_iff_eq.mpr c2
  clear c2
  replace H := ob_ H
  obtain ⟨t214, A30, H⟩ := H
  replace H : (if t214 = 9223372036854775808 then ((whole_Ceil.f k 64 13826050856027422720).bind fun t215 => (some (t215 == 9223372036854775808))) else (some false)) = some r := H
  have A3 := A_ A30;clear A30
  by_cases c4 : t214 = 9223372036854775808
  ·rw [if_pos c4] at H
   have c4b0 : (t214 == 9223372036854775808) = true := beq_iff_eq.mpr c4
   have c4b1 : (t214 != 9223372036854775808) = false := bne_eq_false_iff_eq.mpr c4
   clear c4
   replace H := ob_ H
   obtain ⟨t215, A50, H⟩ := H
   replace H : (some (t215 == 9223372036854775808)) = some r := H
   have A5 := A_ A50;clear A50
   obtain rfl := Option.some.inj H
   go_enter Try.func6, Try.ntmps6
   go_wp2_with (first | ((with_reducible refine gate_callee (f := 10) rfl ?_); refine gl_ (some 1) Try.func10 #[.int .i64 64, .int .u64 4612811918334230528] ?_; (with_reducible refine (whole_Nearest.calls k 64 4612811918334230528 t213 _ A1.out).mono ?_); rintro e w6 ⟨rfl, hb⟩; refine ⟨_, rfl, ?_⟩; replace HB := A_ (below_step (hb_ HB.out) hb); (try clear hb); (try clear hb2); (try clear hk); (try clear hi)) | (go_at_call 10; (with_reducible refine (whole_Nearest.calls k 64 13826050856027422720 t214 _ A3.out).mono ?_); rintro e w7 ⟨rfl, hb⟩; replace HB := A_ (below_step (hb_ HB.out) hb); (try clear hb); (try clear hb2); (try clear hk); (try clear hi)) | (go_at_call 7; (with_reducible refine (whole_Ceil.calls k 64 13826050856027422720 t215 _ A5.out).mono ?_); rintro e w8 ⟨rfl, hb⟩; replace HB := A_ (below_step (hb_ HB.out) hb); (try clear hb); (try clear hb2); (try clear hk); (try clear hi)))
   go_ret
   exact ⟨er_, hb_ HB.out⟩
  ·rw [if_neg c4] at H
   have c4b0 : (t214 == 9223372036854775808) = false := beq_eq_false_iff_ne.mpr c4
   have c4b1 : (t214 != 9223372036854775808) = true := bne_iff_ne.mpr c4
   obtain rfl := Option.some.inj H
   go_enter Try.func6, Try.ntmps6
   go_wp2_with (first | ((with_reducible refine gate_callee (f := 10) rfl ?_); refine gl_ (some 1) Try.func10 #[.int .i64 64, .int .u64 4612811918334230528] ?_; (with_reducible refine (whole_Nearest.calls k 64 4612811918334230528 t213 _ A1.out).mono ?_); rintro e w9 ⟨rfl, hb⟩; refine ⟨_, rfl, ?_⟩; replace HB := A_ (below_step (hb_ HB.out) hb); (try clear hb); (try clear hb2); (try clear hk); (try clear hi)) | (go_at_call 10; (with_reducible refine (whole_Nearest.calls k 64 13826050856027422720 t214 _ A3.out).mono ?_); rintro e w10 ⟨rfl, hb⟩; replace HB := A_ (below_step (hb_ HB.out) hb); (try clear hb); (try clear hb2); (try clear hk); (try clear hi)))
   go_ret
   exact ⟨er_, hb_ HB.out⟩
 ·rw [if_neg c2] at H
  have c2b0 : (t213 == 4611686018427387904) = false := beq_eq_false_iff_ne.mpr c2
  have c2b1 : (t213 != 4611686018427387904) = true := bne_iff_ne.mpr c2
  obtain rfl := Option.some.inj H
  go_enter Try.func6, Try.ntmps6
  go_wp2_with (first | ((with_reducible refine gate_callee (f := 10) rfl ?_); refine gl_ (some 1) Try.func10 #[.int .i64 64, .int .u64 4612811918334230528] ?_; (with_reducible refine (whole_Nearest.calls k 64 4612811918334230528 t213 _ A1.out).mono ?_); rintro e w11 ⟨rfl, hb⟩; refine ⟨_, rfl, ?_⟩; replace HB := A_ (below_step (hb_ HB.out) hb); (try clear hb); (try clear hb2); (try clear hk); (try clear hi)))
  go_ret
  exact ⟨er_, hb_ HB.out⟩
end Go.Proofs.Ythdeeoallfbjmaa.PA
/- trunnionlaw09.WholeHalf, whose two parameters lie in memory for its literal. -/
namespace Go.Proofs.Ythdeeoallfbjmaa.PA
open Go.RowKit Go.Proofs.YthdeeoallfbjmaaW.PrintWords Go.Proofs.YthdeeoallfbjmaaW.PrintLast Go.Proofs.YthdeeoallfbjmaaW.PrintMore
attribute [local go_sem] max2_int min2_int max_two min_two max_three min_three max_four min_four   -- for this text's walks alone
set_option linter.unusedVariables false
set_option linter.unusedSimpArgs false
def whFarV (w s : Int) : Int := Go.bits .andNot .u64 s (shl .u64 1 (wrap64 (w - 1)))
theorem whHeld {W w' : World} {B C : Nat} {v u : Value} (q : W.cell? ⟨B, 0, none⟩ = some v) (q1 : W.cell? ⟨C, 0, none⟩ = some u) (z : B < W.heap.size) (z1 : C < W.heap.size) (hB : Below W.heap.size W w') :
    w'.cell? ⟨B, 0, none⟩ = some v ∧ w'.cell? ⟨C, 0, none⟩ = some u ∧ Below W.heap.size W w' :=
  ⟨((Nr.bcell hB).1 _ _ z).trans q, ((Nr.bcell hB).1 _ _ z1).trans q1, hB⟩
set_option maxHeartbeats 4000000 in
set_option maxRecDepth 100000 in
theorem whFar.calls (k : Nat) (a0 n a1 s : Int) (B C : Nat) (w : World) (hw : a0 = 32 ∨ a0 = 64) (h : sum_Sub.f k a0 n a1 = some s)
    (hB : w.cell? ⟨B, 0, none⟩ = some (.int .i64 a0)) (hC : w.cell? ⟨C, 0, none⟩ = some (.int .u64 a1)) (zB : B < w.heap.size) (zC : C < w.heap.size) :
    Calls Try.prog 20 #[.int .u64 n, .pointer (some ⟨B, 0, none⟩), .pointer (some ⟨C, 0, none⟩)] w fun e w' => e = .returned (.int .u64 (whFarV a0 s)) ∧ Below w.heap.size w w' := by
  have T := Aside0.mk h
  clear h
  unfold whFarV
  rcases hw with rfl | rfl
  · have e1 : IntKind.i64.wrap 31 = 31 := by decide +kernel
    have e2 : shl .u64 1 (wrap64 (32 - 1)) = IntKind.u64.wrap 2147483648 := by decide +kernel
    go_enter Try.func20, Try.ntmps20
    go_wp2
    go_region_held3 (fun w' => w'.cell? ⟨B, 0, none⟩ = some (.int .i64 32) ∧ w'.cell? ⟨C, 0, none⟩ = some (.int .u64 a1) ∧ Below w.heap.size w w')
      (((try go_split_ands); (try dsimp only); refine whHeld hB hC zB zC ?_; (repeat (first | assumption | exact BW1.out | exact Below.refl _ _ | apply below_drew1 | apply below_alloc)); done))
      (first
        | (go_at_call 21; refine (sum_Sub.calls k _ n a1 s _ T.out).mono ?_; rintro e w6 ⟨rfl, hb⟩; (try go_split_ands); have BW1 := Aside0.mk (show Below w.heap.size w w6 from below_step (by first | assumption | exact Below.refl _ _) hb)))
    all_goals (
      go_wp2
      go_ret
      refine ⟨by rw [e2]; rfl, ?_⟩
      exact (by repeat (first | assumption | exact BW1.out | apply below_drew1 | apply below_alloc)))
  · have e1 : IntKind.i64.wrap 63 = 63 := by decide +kernel
    have e2 : shl .u64 1 (wrap64 (64 - 1)) = IntKind.u64.wrap 9223372036854775808 := by decide +kernel
    go_enter Try.func20, Try.ntmps20
    go_wp2
    go_region_held3 (fun w' => w'.cell? ⟨B, 0, none⟩ = some (.int .i64 64) ∧ w'.cell? ⟨C, 0, none⟩ = some (.int .u64 a1) ∧ Below w.heap.size w w')
      (((try go_split_ands); (try dsimp only); refine whHeld hB hC zB zC ?_; (repeat (first | assumption | exact BW1.out | exact Below.refl _ _ | apply below_drew1 | apply below_alloc)); done))
      (first
        | (go_at_call 21; refine (sum_Sub.calls k _ n a1 s _ T.out).mono ?_; rintro e w6 ⟨rfl, hb⟩; (try go_split_ands); have BW1 := Aside0.mk (show Below w.heap.size w w6 from below_step (by first | assumption | exact Below.refl _ _) hb)))
    all_goals (
      go_wp2
      go_ret
      refine ⟨by rw [e2]; rfl, ?_⟩
      exact (by repeat (first | assumption | exact BW1.out | apply below_drew1 | apply below_alloc)))
def L09_WholeHalf.Ok (k : Nat) (a0 a1 : Int) : Prop :=
  L09_awake.f k = some true ∧ (r2_Known.f a0 = some false ∨ ((a0 = 32 ∨ a0 = 64) ∧ r2_Known.f a0 = some true ∧ ∃ (o1 : Bool) (o2 o3 o4 : Int), r2_Open.f k a0 a1 = some (o1, o2, o3, o4) ∧ (1 < o2 ∨
    (o2 ≤ 1 ∧ ∃ x hf on n1 n2 n3 n4 s1 s2 s3 s4 c1 c2 c3 c4 : Int, r2_B.f a0 = some x ∧ r2_Make.f k a0 false (wrap64 (x - 1)) 0 = some hf ∧ r2_Make.f k a0 false x 0 = some on ∧
      whole_Nearest.f k a0 a1 = some n4 ∧ whole_Ceil.f k a0 a1 = some n1 ∧ whole_Floor.f k a0 a1 = some n2 ∧ whole_Trunc.f k a0 a1 = some n3 ∧
      sum_Sub.f k a0 n4 a1 = some s4 ∧ sum_Sub.f k a0 n1 a1 = some s1 ∧ sum_Sub.f k a0 n2 a1 = some s2 ∧ sum_Sub.f k a0 n3 a1 = some s3 ∧
      r8_Cmp.f k a0 (whFarV a0 s4) hf = some c4 ∧ r8_Cmp.f k a0 (whFarV a0 s1) on = some c1 ∧ r8_Cmp.f k a0 (whFarV a0 s2) on = some c2 ∧ r8_Cmp.f k a0 (whFarV a0 s3) on = some c3 ∧
      c4 ≤ 0 ∧ c1 ≤ 0 ∧ c2 ≤ 0 ∧ c3 ≤ 0))))
theorem whNew {w : World} {u v : Value} {t s : Nat} : ((w.alloc (.cells #[u] t)).alloc (.cells #[v] s)).cell? ⟨w.heap.size, 0, none⟩ = some u ∧ ((w.alloc (.cells #[u] t)).alloc (.cells #[v] s)).cell? ⟨w.heap.size + 1, 0, none⟩ = some v ∧
    w.heap.size < ((w.alloc (.cells #[u] t)).alloc (.cells #[v] s)).heap.size ∧ w.heap.size + 1 < ((w.alloc (.cells #[u] t)).alloc (.cells #[v] s)).heap.size ∧ Below w.heap.size w ((w.alloc (.cells #[u] t)).alloc (.cells #[v] s)) :=
  ⟨by simp [go_sem, World.cell?_alloc_past], by simp [go_sem, World.cell?_alloc_past], by simp [go_sem] <;> omega, by simp [go_sem], below_alloc (below_alloc (Below.refl _ _) _) _⟩
theorem whStep {w W W' : World} {B C : Nat} {v u : Value} (hb : Below W.heap.size W W') (q : W.cell? ⟨B, 0, none⟩ = some v) (q1 : W.cell? ⟨C, 0, none⟩ = some u) (z : B < W.heap.size) (z1 : C < W.heap.size) (bl : Below w.heap.size w W) :
    W'.cell? ⟨B, 0, none⟩ = some v ∧ W'.cell? ⟨C, 0, none⟩ = some u ∧ B < W'.heap.size ∧ C < W'.heap.size ∧ Below w.heap.size w W' :=
  ⟨((Nr.bcell hb).1 _ _ z).trans q, ((Nr.bcell hb).1 _ _ z1).trans q1, Nat.lt_of_lt_of_le z hb.size, Nat.lt_of_lt_of_le z1 hb.size, below_step bl hb⟩
set_option maxHeartbeats 8000000 in
set_option maxRecDepth 100000 in
theorem whNo (k : Nat) (a0 a1 : Int) (w : World) (TA : Aside0 (L09_awake.f k = some true)) (TK : Aside0 (r2_Known.f a0 = some false)) :
    Calls Try.prog 5 #[.int .i64 a0, .int .u64 a1] w fun e w' => e = .returned (.bool true) ∧ Below w.heap.size w w' := by
  go_enter Try.func5, Try.ntmps5
  go_upto_region 1 with fail
  obtain ⟨q0, q1, z0, z1, bl⟩ := whNew (w := w) (u := .int .i64 a0) (v := .int .u64 a1) (t := 3) (s := 22)
  generalize (w.alloc (.cells #[.int .i64 a0] 3)).alloc (.cells #[.int .u64 a1] 22) = W at q0 q1 z0 z1 bl ⊢
  go_wp2_with (first
    | (go_at_call 6; refine (L09_awake.calls k true _ TA.out).mono ?_; rintro e w1 ⟨rfl, hb⟩; obtain ⟨r0, r1, y0, y1, bm⟩ := whStep hb q0 q1 z0 z1 bl; clear hb q0 q1 z0 z1 bl)
    | (go_at_call 11; refine (r2_Known.calls a0 false _ TK.out).mono ?_; rintro e w2 ⟨rfl, hd⟩; obtain ⟨q0, q1, z0, z1, bl⟩ := whStep hd.below r0 r1 y0 y1 bm; clear hd r0 r1 y0 y1 bm))
  exact ⟨rfl, .bool true, by simp [results, Try.results5, go_sem], rfl, bl⟩
set_option maxHeartbeats 8000000 in
set_option maxRecDepth 100000 in
theorem whKind (k : Nat) (a0 a1 : Int) (o1 : Bool) (o2 o3 o4 : Int) (w : World) (TA : Aside0 (L09_awake.f k = some true)) (TK : Aside0 (r2_Known.f a0 = some true)) (TO : Aside0 (r2_Open.f k a0 a1 = some (o1, o2, o3, o4))) (c : decide (1 < o2) = true) :
    Calls Try.prog 5 #[.int .i64 a0, .int .u64 a1] w fun e w' => e = .returned (.bool true) ∧ Below w.heap.size w w' := by
  have hu : ∀ w' : World, (Instr.field 30 (.agg #[.bool o1, .int .i64 o2, .int .i64 o3, .int .u64 o4]) 1).run Try.prog w' = .ok (.int .i64 o2) w' := fun w' => by first | (simp [Instr.field, go_sem, Try.underlying30]; done) | (simp [Instr.field, go_sem, Try.underlying30]; rfl)
  go_enter Try.func5, Try.ntmps5
  go_upto_region 1 with fail
  obtain ⟨q0, q1, z0, z1, bl⟩ := whNew (w := w) (u := .int .i64 a0) (v := .int .u64 a1) (t := 3) (s := 22)
  generalize (w.alloc (.cells #[.int .i64 a0] 3)).alloc (.cells #[.int .u64 a1] 22) = W at q0 q1 z0 z1 bl ⊢
  go_wp2_with (first
    | (go_at_call 6; refine (L09_awake.calls k true _ TA.out).mono ?_; rintro e w1 ⟨rfl, hb⟩; obtain ⟨r0, r1, y0, y1, bm⟩ := whStep hb q0 q1 z0 z1 bl; clear hb q0 q1 z0 z1 bl)
    | (go_at_call 11; refine (r2_Known.calls a0 true _ TK.out).mono ?_; rintro e w2 ⟨rfl, hd⟩; obtain ⟨q0, q1, z0, z1, bl⟩ := whStep hd.below r0 r1 y0 y1 bm; clear hd r0 r1 y0 y1 bm)
    | (go_at_call 14; refine (r2_Open.calls k a0 a1 o1 o2 o3 o4 _ TO.out).mono ?_; rintro e w3 ⟨rfl, hb⟩; replace bl := below_step bl hb; clear hb))
  exact ⟨rfl, .bool true, by simp [results, Try.results5, go_sem], rfl, bl⟩
set_option maxHeartbeats 8000000 in
set_option maxRecDepth 100000 in
theorem whMain (k : Nat) (a0 a1 : Int) (hw : a0 = 32 ∨ a0 = 64) (o1 : Bool) (o2 o3 o4 : Int) (x hf on n1 n2 n3 n4 s1 s2 s3 s4 c1 c2 c3 c4 : Int) (w : World) (TA : Aside0 (L09_awake.f k = some true)) (TK : Aside0 (r2_Known.f a0 = some true)) (TO : Aside0 (r2_Open.f k a0 a1 = some (o1, o2, o3, o4))) (c : decide (1 < o2) = false)
    (TB : Aside0 (r2_B.f a0 = some x)) (M1 : Aside0 (r2_Make.f k a0 false (wrap64 (x - 1)) 0 = some hf)) (M2 : Aside0 (r2_Make.f k a0 false x 0 = some on))
    (N4 : Aside0 (whole_Nearest.f k a0 a1 = some n4)) (N1 : Aside0 (whole_Ceil.f k a0 a1 = some n1)) (N2 : Aside0 (whole_Floor.f k a0 a1 = some n2)) (N3 : Aside0 (whole_Trunc.f k a0 a1 = some n3))
    (S4 : Aside0 (sum_Sub.f k a0 n4 a1 = some s4)) (S1 : Aside0 (sum_Sub.f k a0 n1 a1 = some s1)) (S2 : Aside0 (sum_Sub.f k a0 n2 a1 = some s2)) (S3 : Aside0 (sum_Sub.f k a0 n3 a1 = some s3))
    (C4 : Aside0 (r8_Cmp.f k a0 (whFarV a0 s4) hf = some c4)) (C1 : Aside0 (r8_Cmp.f k a0 (whFarV a0 s1) on = some c1)) (C2 : Aside0 (r8_Cmp.f k a0 (whFarV a0 s2) on = some c2)) (C3 : Aside0 (r8_Cmp.f k a0 (whFarV a0 s3) on = some c3))
    (d4 : decide (0 < c4) = false) (d1 : Aside0 (decide (0 < c1) = false)) (d2 : Aside0 (decide (0 < c2) = false)) (d3 : Aside0 (decide (0 < c3) = false)) :
    Calls Try.prog 5 #[.int .i64 a0, .int .u64 a1] w fun e w' => e = .returned (.bool true) ∧ Below w.heap.size w w' := by
  have hu : ∀ w' : World, (Instr.field 30 (.agg #[.bool o1, .int .i64 o2, .int .i64 o3, .int .u64 o4]) 1).run Try.prog w' = .ok (.int .i64 o2) w' := fun w' => by first | (simp [Instr.field, go_sem, Try.underlying30]; done) | (simp [Instr.field, go_sem, Try.underlying30]; rfl)
  obtain ⟨y, hy⟩ : ∃ y : Int, wrap64 (x - 1) = y := ⟨_, rfl⟩
  rw [hy] at M1
  have ey : IntKind.i64.wrap (x - 1) = y := (i64_w _).trans hy
  clear hy
  go_enter Try.func5, Try.ntmps5
  go_upto_region 1 with fail
  obtain ⟨q0, q1, z0, z1, bl⟩ := whNew (w := w) (u := .int .i64 a0) (v := .int .u64 a1) (t := 3) (s := 22)
  generalize (w.alloc (.cells #[.int .i64 a0] 3)).alloc (.cells #[.int .u64 a1] 22) = W at q0 q1 z0 z1 bl ⊢
  go_upto_region 6 with (first
    | (go_at_call 6; with_reducible refine (L09_awake.calls k true _ TA.out).mono ?_; rintro e w1 ⟨rfl, hb⟩; obtain ⟨r0, r1, y0, y1, bm⟩ := whStep hb q0 q1 z0 z1 bl; clear hb q0 q1 z0 z1 bl)
    | (go_at_call 11; with_reducible refine (r2_Known.calls a0 true _ TK.out).mono ?_; rintro e w2 ⟨rfl, hd⟩; obtain ⟨q0, q1, z0, z1, bl⟩ := whStep hd.below r0 r1 y0 y1 bm; clear hd r0 r1 y0 y1 bm)
    | (go_at_call 14; with_reducible refine (r2_Open.calls k a0 a1 o1 o2 o3 o4 _ TO.out).mono ?_; rintro e w3 ⟨rfl, hb⟩; obtain ⟨r0, r1, y0, y1, bm⟩ := whStep hb q0 q1 z0 z1 bl; clear hb q0 q1 z0 z1 bl))
  have q0 := r0
  have q1 := r1
  have z0 := y0
  have z1 := y1
  have bl := bm
  clear r0 r1 y0 y1 bm hu c TA TK TO
  go_cut [6, 7] (fun s6 s7 wx => s6 = .int .u64 hf ∧ s7 = .int .u64 on ∧ wx.cell? ⟨w.heap.size, 0, none⟩ = some (.int .i64 a0) ∧ wx.cell? ⟨w.heap.size + 1, 0, none⟩ = some (.int .u64 a1) ∧ w.heap.size < wx.heap.size ∧ w.heap.size + 1 < wx.heap.size ∧ Below w.heap.size w wx)
  case first =>
    go_region_held3 (fun w' => w'.cell? ⟨w.heap.size, 0, none⟩ = some (.int .i64 a0) ∧ w'.cell? ⟨w.heap.size + 1, 0, none⟩ = some (.int .u64 a1) ∧ Below w3.heap.size w3 w')
      (((try go_split_ands); (try dsimp only); refine whHeld q0 q1 z0 z1 ?_; (repeat (first | assumption | exact BW5.out | exact BW4.out | exact Below.refl _ _ | apply below_drew1 | apply below_alloc)); done))
      (first
        | (go_at_call 23; with_reducible refine (r2_B.calls a0 x _ TB.out).mono ?_; rintro e w4 ⟨rfl, hd⟩; (try go_split_ands); have BW4 := Aside0.mk (show Below w3.heap.size w3 w4 from below_step (by first | assumption | exact BW5.out | exact BW4.out | exact Below.refl _ _) hd.below))
        | (go_at_call 22; (try rw [ey]); with_reducible refine (r2_Make.calls k a0 false y 0 hf _ M1.out).mono ?_; rintro e w5 ⟨rfl, hd⟩; (try go_split_ands); have BW5 := Aside0.mk (show Below w3.heap.size w3 w5 from below_step (by first | assumption | exact BW5.out | exact BW4.out | exact Below.refl _ _) hd.below))
        | (go_at_call 22; with_reducible refine (r2_Make.calls k a0 false x 0 on _ M2.out).mono ?_; rintro e w5 ⟨rfl, hd⟩; (try go_split_ands); have BW5 := Aside0.mk (show Below w3.heap.size w3 w5 from below_step (by first | assumption | exact BW5.out | exact BW4.out | exact Below.refl _ _) hd.below)))
    all_goals (go_wp2_with fail; go_meet)
    all_goals exact ⟨rfl, rfl, whStep BW5.out q0 q1 z0 z1 bl⟩
  case rest =>
    obtain ⟨rfl, rfl, r0, r1, y0, y1, bm⟩ := hcut
    rename World => V
    clear q0 q1 z0 z1 bl M1 M2 TB ey
    have q0 := r0
    have q1 := r1
    have z0 := y0
    have z1 := y1
    have bl := bm
    clear r0 r1 y0 y1 bm
    go_step
    go_upto_region 7 with fail
    go_cut [40] (fun s40 wx => s40 = .bool false ∧ wx.cell? ⟨w.heap.size, 0, none⟩ = some (.int .i64 a0) ∧ wx.cell? ⟨w.heap.size + 1, 0, none⟩ = some (.int .u64 a1) ∧ w.heap.size < wx.heap.size ∧ w.heap.size + 1 < wx.heap.size ∧ Below w.heap.size w wx)
    case first =>
      go_region_held3 (fun w' => w'.cell? ⟨w.heap.size, 0, none⟩ = some (.int .i64 a0) ∧ w'.cell? ⟨w.heap.size + 1, 0, none⟩ = some (.int .u64 a1) ∧ Below V.heap.size V w')
        (((try go_split_ands); (try dsimp only); refine whHeld q0 q1 z0 z1 ?_; (repeat (first | assumption | exact BW9.out | exact BW8.out | exact BW7.out | exact Below.refl _ _ | apply below_drew1 | apply below_alloc)); done))
        (first
          | (go_at_call 10; with_reducible refine (whole_Nearest.calls k a0 a1 n4 _ N4.out).mono ?_; rintro e w7 ⟨rfl, hb⟩; (try go_split_ands); have BW7 := Aside0.mk (show Below V.heap.size V w7 from below_step (by first | assumption |  exact Below.refl _ _ | exact below_drew1 (Below.refl _ _)) hb))
          | (go_at_call 20; (try go_split_ands); with_reducible refine (whFar.calls k a0 n4 a1 s4 w.heap.size (w.heap.size + 1) _ hw S4.out (by first | assumption | exact ((Nr.bcell (by first | exact BW7.out |  exact Below.refl _ _ | exact below_drew1 (Below.refl _ _))).1 _ _ z0).trans q0) (by first | assumption | exact ((Nr.bcell (by first | exact BW7.out |  exact Below.refl _ _ | exact below_drew1 (Below.refl _ _))).1 _ _ z1).trans q1) (by first | omega | exact Nat.lt_of_lt_of_le z0 (Below.size (B := V.heap.size) (by first | exact BW7.out |  exact Below.refl _ _ | exact below_drew1 (Below.refl _ _)))) (by first | omega | exact Nat.lt_of_lt_of_le z1 (Below.size (B := V.heap.size) (by first | exact BW7.out |  exact Below.refl _ _ | exact below_drew1 (Below.refl _ _))))).mono ?_; rintro e w8 ⟨rfl, hb⟩; (try go_split_ands); have BW8 := Aside0.mk (show Below V.heap.size V w8 from below_step (by first | assumption | exact BW7.out |  exact Below.refl _ _ | exact below_drew1 (Below.refl _ _)) hb))
          | (go_at_call 24; with_reducible refine (r8_Cmp.calls k a0 (whFarV a0 s4) hf c4 _ C4.out).mono ?_; rintro e w9 ⟨rfl, hb⟩; (try go_split_ands); have BW9 := Aside0.mk (show Below V.heap.size V w9 from below_step (by first | assumption | exact BW8.out | exact BW7.out |  exact Below.refl _ _ | exact below_drew1 (Below.refl _ _)) hb)))
      all_goals (go_wp2_with fail; go_meet)
      all_goals exact ⟨by simp [d4], whStep BW9.out q0 q1 z0 z1 bl⟩
    case rest =>
      obtain ⟨rfl, r0, r1, y0, y1, bm⟩ := hcut
      rename World => U
      clear q0 q1 z0 z1 bl N4 S4 C4 d4
      have q0 := r0
      have q1 := r1
      have z0 := y0
      have z1 := y1
      have bl := bm
      clear r0 r1 y0 y1 bm
      go_step
      go_upto_region 9 with fail
      go_cut [50, 51, 52] (fun s50 s51 s52 wx => ∃ D : Nat, s50 = .slice (some ⟨D, 0, none⟩) 3 3 ∧ s51 = .int .i64 3 ∧ s52 = .int .i64 0 ∧ wx.cell? ⟨D, 0, none⟩ = some (.int .u64 n1) ∧ wx.cell? ⟨D, 1, none⟩ = some (.int .u64 n2) ∧ wx.cell? ⟨D, 2, none⟩ = some (.int .u64 n3) ∧ D < wx.heap.size ∧ wx.cell? ⟨w.heap.size, 0, none⟩ = some (.int .i64 a0) ∧ wx.cell? ⟨w.heap.size + 1, 0, none⟩ = some (.int .u64 a1) ∧ w.heap.size < wx.heap.size ∧ w.heap.size + 1 < wx.heap.size ∧ Below w.heap.size w wx)
      case first =>
        go_region_held3 (fun w' => w'.cell? ⟨w.heap.size, 0, none⟩ = some (.int .i64 a0) ∧ w'.cell? ⟨w.heap.size + 1, 0, none⟩ = some (.int .u64 a1) ∧ Below U.heap.size U w')
          (((try go_split_ands); (try dsimp only); refine whHeld q0 q1 z0 z1 ?_; (repeat (first | assumption | exact BW3.out | exact BW2.out | exact BW1.out | exact Below.refl _ _ | apply below_drew1 | apply below_alloc)); done))
          (first
            | (go_at_call 7; with_reducible refine (whole_Ceil.calls k a0 a1 n1 _ N1.out).mono ?_; rintro e w4 ⟨rfl, hb⟩; (try go_split_ands); have BW1 := Aside0.mk (show Below U.heap.size U w4 from below_step (by first | assumption | exact BW3.out | exact BW2.out |  exact Below.refl _ _ | exact below_drew1 (Below.refl _ _)) hb))
            | (go_at_call 8; with_reducible refine (whole_Floor.calls k a0 a1 n2 _ N2.out).mono ?_; rintro e w5 ⟨rfl, hb⟩; (try go_split_ands); have BW2 := Aside0.mk (show Below U.heap.size U w5 from below_step (by first | assumption | exact BW3.out | exact BW1.out |  exact Below.refl _ _ | exact below_drew1 (Below.refl _ _)) hb))
            | (go_at_call 9; with_reducible refine (whole_Trunc.calls k a0 a1 n3 _ N3.out).mono ?_; rintro e w6 ⟨rfl, hb⟩; (try go_split_ands); have BW3 := Aside0.mk (show Below U.heap.size U w6 from below_step (by first | assumption | exact BW2.out | exact BW1.out |  exact Below.refl _ _ | exact below_drew1 (Below.refl _ _)) hb)))
        all_goals (go_wp2_with fail; go_meet)
        all_goals exact ⟨w6.heap.size, rfl, rfl, rfl, by simp [go_sem], by simp [go_sem], by simp [go_sem], by simp, whStep (below_alloc BW3.out _) q0 q1 z0 z1 bl⟩
      case rest =>
        obtain ⟨D, rfl, rfl, rfl, e0, e1, e2, zD, r0, r1, y0, y1, bm⟩ := hcut
        clear q0 q1 z0 z1 bl N1 N2 N3
        have q0 := r0
        have q1 := r1
        have z0 := y0
        have z1 := y1
        have bl := bm
        clear r0 r1 y0 y1 bm
        rename World => X
        have d1' := d1.out
        have d2' := d2.out
        have d3' := d3.out
        go_step
        go_wp2_with fail
        go_loopg [52] 3 (fun kq v52 w' => ∃ i : Nat, v52 = .int .i64 i ∧ kq + i = 3 ∧ w'.cell? ⟨D, 0, none⟩ = some (.int .u64 n1) ∧ w'.cell? ⟨D, 1, none⟩ = some (.int .u64 n2) ∧ w'.cell? ⟨D, 2, none⟩ = some (.int .u64 n3) ∧ D < w'.heap.size ∧ w'.cell? ⟨w.heap.size, 0, none⟩ = some (.int .i64 a0) ∧ w'.cell? ⟨w.heap.size + 1, 0, none⟩ = some (.int .u64 a1) ∧ w.heap.size < w'.heap.size ∧ w.heap.size + 1 < w'.heap.size ∧ Below w.heap.size w w')
        case atStart => exact ⟨0, rfl, rfl, e0, e1, e2, zD, q0, q1, z0, z1, bl⟩
        case round =>
          clear e0 e1 e2 zD q0 q1 z0 z1 bl
          obtain ⟨i, rfl, hi, e0, e1, e2, zD, q0, q1, z0, z1, bl⟩ := hrel
          obtain _ | kr := gk
          · obtain rfl : i = 3 := by omega
            go_wp2_with fail
            exact ⟨rfl, .bool true, by simp [results, Try.results5, go_sem], rfl, bl⟩
          · rename World => wr
            obtain rfl | rfl | rfl : i = 0 ∨ i = 1 ∨ i = 2 := by omega
            · go_upto_region 12 with fail
              go_region_held3 (fun w' => w'.cell? ⟨w.heap.size, 0, none⟩ = some (.int .i64 a0) ∧ w'.cell? ⟨w.heap.size + 1, 0, none⟩ = some (.int .u64 a1) ∧ Below wr.heap.size wr w')
                (((try go_split_ands); (try dsimp only); refine whHeld q0 q1 z0 z1 ?_; (repeat (first | assumption | exact BW9.out | exact BW8.out | exact Below.refl _ _ | apply below_drew1 | apply below_alloc)); done))
                (first
                  | (go_at_call 20; (try go_split_ands); with_reducible refine (whFar.calls k a0 n1 a1 s1 w.heap.size (w.heap.size + 1) _ hw S1.out (by first | assumption | exact ((Nr.bcell (by first |  exact Below.refl _ _ | exact below_drew1 (Below.refl _ _))).1 _ _ z0).trans q0) (by first | assumption | exact ((Nr.bcell (by first |  exact Below.refl _ _ | exact below_drew1 (Below.refl _ _))).1 _ _ z1).trans q1) (by first | omega | exact Nat.lt_of_lt_of_le z0 (Below.size (B := wr.heap.size) (by first |  exact Below.refl _ _ | exact below_drew1 (Below.refl _ _)))) (by first | omega | exact Nat.lt_of_lt_of_le z1 (Below.size (B := wr.heap.size) (by first |  exact Below.refl _ _ | exact below_drew1 (Below.refl _ _))))).mono ?_; rintro e w8 ⟨rfl, hb⟩; (try go_split_ands); have BW8 := Aside0.mk (show Below wr.heap.size wr w8 from below_step (by first | assumption |  exact Below.refl _ _ | exact below_drew1 (Below.refl _ _)) hb))
                  | (go_at_call 24; with_reducible refine (r8_Cmp.calls k a0 (whFarV a0 s1) on c1 _ C1.out).mono ?_; rintro e w9 ⟨rfl, hb⟩; (try go_split_ands); have BW9 := Aside0.mk (show Below wr.heap.size wr w9 from below_step (by first | assumption | exact BW8.out |  exact Below.refl _ _ | exact below_drew1 (Below.refl _ _)) hb)))
              all_goals (
                go_wp2_with fail
                go_roundg kr
                case measure => omega
                case rel =>
                  obtain ⟨r0, r1, y0, y1, bm⟩ := whStep BW9.out q0 q1 z0 z1 bl
                  exact ⟨1, rfl, by omega, ((Nr.bcell BW9.out).1 _ _ zD).trans e0, ((Nr.bcell BW9.out).1 _ _ zD).trans e1, ((Nr.bcell BW9.out).1 _ _ zD).trans e2, Nat.lt_of_lt_of_le zD BW9.out.size, r0, r1, y0, y1, bm⟩)
            · go_upto_region 12 with fail
              go_region_held3 (fun w' => w'.cell? ⟨w.heap.size, 0, none⟩ = some (.int .i64 a0) ∧ w'.cell? ⟨w.heap.size + 1, 0, none⟩ = some (.int .u64 a1) ∧ Below wr.heap.size wr w')
                (((try go_split_ands); (try dsimp only); refine whHeld q0 q1 z0 z1 ?_; (repeat (first | assumption | exact BW9.out | exact BW8.out | exact Below.refl _ _ | apply below_drew1 | apply below_alloc)); done))
                (first
                  | (go_at_call 20; (try go_split_ands); with_reducible refine (whFar.calls k a0 n2 a1 s2 w.heap.size (w.heap.size + 1) _ hw S2.out (by first | assumption | exact ((Nr.bcell (by first |  exact Below.refl _ _ | exact below_drew1 (Below.refl _ _))).1 _ _ z0).trans q0) (by first | assumption | exact ((Nr.bcell (by first |  exact Below.refl _ _ | exact below_drew1 (Below.refl _ _))).1 _ _ z1).trans q1) (by first | omega | exact Nat.lt_of_lt_of_le z0 (Below.size (B := wr.heap.size) (by first |  exact Below.refl _ _ | exact below_drew1 (Below.refl _ _)))) (by first | omega | exact Nat.lt_of_lt_of_le z1 (Below.size (B := wr.heap.size) (by first |  exact Below.refl _ _ | exact below_drew1 (Below.refl _ _))))).mono ?_; rintro e w8 ⟨rfl, hb⟩; (try go_split_ands); have BW8 := Aside0.mk (show Below wr.heap.size wr w8 from below_step (by first | assumption |  exact Below.refl _ _ | exact below_drew1 (Below.refl _ _)) hb))
                  | (go_at_call 24; with_reducible refine (r8_Cmp.calls k a0 (whFarV a0 s2) on c2 _ C2.out).mono ?_; rintro e w9 ⟨rfl, hb⟩; (try go_split_ands); have BW9 := Aside0.mk (show Below wr.heap.size wr w9 from below_step (by first | assumption | exact BW8.out |  exact Below.refl _ _ | exact below_drew1 (Below.refl _ _)) hb)))
              all_goals (
                go_wp2_with fail
                go_roundg kr
                case measure => omega
                case rel =>
                  obtain ⟨r0, r1, y0, y1, bm⟩ := whStep BW9.out q0 q1 z0 z1 bl
                  exact ⟨2, rfl, by omega, ((Nr.bcell BW9.out).1 _ _ zD).trans e0, ((Nr.bcell BW9.out).1 _ _ zD).trans e1, ((Nr.bcell BW9.out).1 _ _ zD).trans e2, Nat.lt_of_lt_of_le zD BW9.out.size, r0, r1, y0, y1, bm⟩)
            · go_upto_region 12 with fail
              go_region_held3 (fun w' => w'.cell? ⟨w.heap.size, 0, none⟩ = some (.int .i64 a0) ∧ w'.cell? ⟨w.heap.size + 1, 0, none⟩ = some (.int .u64 a1) ∧ Below wr.heap.size wr w')
                (((try go_split_ands); (try dsimp only); refine whHeld q0 q1 z0 z1 ?_; (repeat (first | assumption | exact BW9.out | exact BW8.out | exact Below.refl _ _ | apply below_drew1 | apply below_alloc)); done))
                (first
                  | (go_at_call 20; (try go_split_ands); with_reducible refine (whFar.calls k a0 n3 a1 s3 w.heap.size (w.heap.size + 1) _ hw S3.out (by first | assumption | exact ((Nr.bcell (by first |  exact Below.refl _ _ | exact below_drew1 (Below.refl _ _))).1 _ _ z0).trans q0) (by first | assumption | exact ((Nr.bcell (by first |  exact Below.refl _ _ | exact below_drew1 (Below.refl _ _))).1 _ _ z1).trans q1) (by first | omega | exact Nat.lt_of_lt_of_le z0 (Below.size (B := wr.heap.size) (by first |  exact Below.refl _ _ | exact below_drew1 (Below.refl _ _)))) (by first | omega | exact Nat.lt_of_lt_of_le z1 (Below.size (B := wr.heap.size) (by first |  exact Below.refl _ _ | exact below_drew1 (Below.refl _ _))))).mono ?_; rintro e w8 ⟨rfl, hb⟩; (try go_split_ands); have BW8 := Aside0.mk (show Below wr.heap.size wr w8 from below_step (by first | assumption |  exact Below.refl _ _ | exact below_drew1 (Below.refl _ _)) hb))
                  | (go_at_call 24; with_reducible refine (r8_Cmp.calls k a0 (whFarV a0 s3) on c3 _ C3.out).mono ?_; rintro e w9 ⟨rfl, hb⟩; (try go_split_ands); have BW9 := Aside0.mk (show Below wr.heap.size wr w9 from below_step (by first | assumption | exact BW8.out |  exact Below.refl _ _ | exact below_drew1 (Below.refl _ _)) hb)))
              all_goals (
                go_wp2_with fail
                go_roundg kr
                case measure => omega
                case rel =>
                  obtain ⟨r0, r1, y0, y1, bm⟩ := whStep BW9.out q0 q1 z0 z1 bl
                  exact ⟨3, rfl, by omega, ((Nr.bcell BW9.out).1 _ _ zD).trans e0, ((Nr.bcell BW9.out).1 _ _ zD).trans e1, ((Nr.bcell BW9.out).1 _ _ zD).trans e2, Nat.lt_of_lt_of_le zD BW9.out.size, r0, r1, y0, y1, bm⟩)
def L09_WholeHalf.Pure : Prop := ∀ (a0 : Int) (a1 : Int), (Lit.int .i64 a0).wf = true → (Lit.int .u64 a1).wf = true → ∃ k, L09_WholeHalf.Ok k a0 a1
theorem L09_WholeHalf.walk (P : L09_WholeHalf.Pure) (a0 : Int) (a1 : Int) (w : World) (w0 : (Lit.int .i64 a0).wf = true) (w1 : (Lit.int .u64 a1).wf = true) :
    Calls Try.prog 5 #[.int .i64 a0, .int .u64 a1] w fun e w' => e = .returned (.bool true) ∧ Below w.heap.size w w' := by
  obtain ⟨k, hA, h⟩ := P a0 a1 w0 w1
  rcases h with h | ⟨hw, hK, o1, o2, o3, o4, hO, h⟩
  · exact whNo k a0 a1 w ⟨hA⟩ ⟨h⟩
  · rcases h with h | ⟨h, x, hf, on, n1, n2, n3, n4, s1, s2, s3, s4, c1, c2, c3, c4, h1, h2, h3, h4, h5, h6, h7, h8, h9, h10, h11, h12, h13, h14, h15, h16, h17, h18, h19⟩
    · exact whKind k a0 a1 o1 o2 o3 o4 w ⟨hA⟩ ⟨hK⟩ ⟨hO⟩ (decide_eq_true h)
    · exact whMain k a0 a1 hw o1 o2 o3 o4 x hf on n1 n2 n3 n4 s1 s2 s3 s4 c1 c2 c3 c4 w ⟨hA⟩ ⟨hK⟩ ⟨hO⟩ (decide_eq_false (by omega)) ⟨h1⟩ ⟨h2⟩ ⟨h3⟩ ⟨h4⟩ ⟨h5⟩ ⟨h6⟩ ⟨h7⟩ ⟨h8⟩ ⟨h9⟩ ⟨h10⟩ ⟨h11⟩ ⟨h12⟩ ⟨h13⟩ ⟨h14⟩ ⟨h15⟩ (decide_eq_false (by omega)) ⟨decide_eq_false (by omega)⟩ ⟨decide_eq_false (by omega)⟩ ⟨decide_eq_false (by omega)⟩
end Go.Proofs.Ythdeeoallfbjmaa.PA
section
set_option linter.unusedVariables false
set_option linter.unusedSimpArgs false
namespace Go.Proofs.Ythdeeoallfbjmaa.Th
open Go.RowKit Go.Proofs.YthdeeoallfbjmaaW.PrintWords Go.Proofs.YthdeeoallfbjmaaW.PrintLast Go.Proofs.YthdeeoallfbjmaaW.PrintMore Go.Proofs.Ythdeeoallfbjmaa.PA Bit Flo
theorem two_i {n : Int} (m : Nat) (h : n = m) (hm : m < 64) : Ev (fun k => r2_Two.f k n) ((2 ^ m : Nat) : Int) := by subst h; exact two_f m hm

theorem r2E32 : r2_E.f 32 = some 8 := by decide +kernel
theorem r2F32 : r2_F.f 32 = some 23 := by decide +kernel
theorem r2B32 : r2_B.f 32 = some 127 := by decide +kernel
theorem r2Tf32 : Ev (fun k => r2_Two.f k 23) ((8388608 : Nat) : Int) := by have h := two_i (n := 23) 23 rfl (by decide); rw [show (2 : Nat) ^ 23 = 8388608 by decide] at h; exact h
theorem r2Te32 : Ev (fun k => r2_Two.f k 8) ((256 : Nat) : Int) := by have h := two_i (n := 8) 8 rfl (by decide); rw [show (2 : Nat) ^ 8 = 256 by decide] at h; exact h
theorem r2Ts32 : Ev (fun k => r2_Two.f k (wrap64 (32 - 1))) ((2147483648 : Nat) : Int) := by have h := two_i (n := wrap64 (32 - 1)) 31 (by decide +kernel) (by decide); rw [show (2 : Nat) ^ 31 = 2147483648 by decide] at h; exact h
theorem r2Exp32 (a : Nat) (ha : a < 18446744073709551616) : Ev (fun k => r2_Exp.f k 32 a) ((a / 8388608 % 256 : Nat) : Int) := by
  unfold r2_Exp.f
  refine Ev.bs (r2Cut 32 a (by decide)) (Ev.bs r2F32 (Ev.bind r2Tf32 (Ev.neg (by decide) (Ev.bs r2E32 (Ev.bind r2Te32 (Ev.neg (by decide) (Ev.out ?_)))))))
  have hc : cutN 32 a = a % 4294967296 := by unfold cutN; rw [if_pos rfl]
  rw [hc, Int.tdiv_eq_ediv_of_nonneg (by omega), u64_id (by omega) (by omega), Int.tmod_eq_emod_of_nonneg (by omega), w64_id (by omega) (by omega)]
  omega
theorem r2Frac32 (a : Nat) (ha : a < 18446744073709551616) : Ev (fun k => r2_Frac.f k 32 a) ((a % 8388608 : Nat) : Int) := by
  unfold r2_Frac.f
  refine Ev.bs r2F32 (Ev.bind r2Tf32 (Ev.neg (by decide) (Ev.out ?_)))
  rw [Int.tmod_eq_emod_of_nonneg (by omega)]; omega
theorem r2Top32 : Ev (fun k => r2_Top.f k 32) ((255 : Nat) : Int) := by
  unfold r2_Top.f
  exact Ev.bs r2E32 (Ev.bind r2Te32 (Ev.out (by decide +kernel)))
theorem r2Make32 (s : Bool) (e fr : Nat) (he : e ≤ 255) (hf : fr < 8388608) : Ev (fun k => r2_Make.f k 32 s e fr) ((mkN 32 (e * 8388608 + fr) s : Nat) : Int) := by
  unfold r2_Make.f
  refine Ev.bs r2F32 (Ev.bind r2Tf32 ?_)
  rw [u64_id (n := (e : Int)) (by omega) (by omega), u64_id (n := (e : Int) * ((8388608 : Nat) : Int)) (by omega) (by omega), u64_id (n := (e : Int) * ((8388608 : Nat) : Int) + fr) (by omega) (by omega)]
  unfold mkN
  rw [show sb 32 = 2147483648 by decide]
  cases s
  · exact Ev.neg (by decide) (Ev.out (by simp))
  · refine Ev.pos rfl (Ev.bind r2Ts32 (Ev.out ?_))
    rw [u64_id (by omega) (by omega)]; simp only [if_true]; omega
theorem r2Open32 (a : Nat) (ha : a < 18446744073709551616) : Ev (fun k => r2_Open.f k 32 a) (opn 32 a) := by
  rw [opn32]
  unfold r2_Open.f
  refine Ev.bind (r2Exp32 a ha) (Ev.bind (r2Frac32 a ha) (Ev.bind (r2Neg 32 (by decide) a ha) (Ev.bind r2Top32 ?_)))
  unfold sgB
  rw [show sb 32 = 2147483648 by decide]
  have hP : a % 2147483648 % 8388608 = a % 8388608 := by omega
  have hQ : a % 2147483648 / 8388608 = a / 8388608 % 256 := by omega
  have hT : a / 8388608 % 256 < 256 := Nat.mod_lt _ (by decide)
  have hE : a % 2147483648 = a / 8388608 % 256 * 8388608 + a % 8388608 := by omega
  rw [hP, hQ, hE]
  generalize a / 8388608 % 256 = e at *
  have hF : a % 8388608 < 8388608 := Nat.mod_lt _ (by decide)
  generalize a % 8388608 = fr at *
  generalize decide (a / 2147483648 % 2 = 1) = s
  by_cases h1 : e = 255
  · subst h1
    refine Ev.pos rfl ?_
    by_cases h2 : fr = 0
    · subst h2
      refine Ev.pos rfl (Ev.out ?_)
      rw [if_neg (by omega), if_neg (by omega), if_pos (by omega)]
    · refine Ev.neg (by omega) (Ev.out ?_)
      rw [if_neg (by omega), if_neg (by omega), if_neg (by omega)]
  · refine Ev.neg (by omega) ?_
    by_cases h2 : e = 0
    · subst h2
      refine Ev.pos rfl ?_
      by_cases h3 : fr = 0
      · subst h3
        refine Ev.pos rfl (Ev.out ?_)
        rw [Nat.zero_mul, Nat.zero_add, if_pos rfl]
      · refine Ev.neg (by omega) (Ev.bs r2B32 (Ev.bs r2F32 (Ev.out ?_)))
        rw [if_neg (by omega), if_pos (by omega), if_pos (by omega), if_pos (by omega), show wrap64 (wrap64 (1 - 127) - 23) = (-149 : Int) by decide +kernel]
        simp
    · refine Ev.neg (by omega) (Ev.bs r2B32 (Ev.bs r2F32 (Ev.bs r2F32 (Ev.bind r2Tf32 (Ev.out ?_)))))
      rw [if_neg (by omega), if_pos (by omega), if_neg (by omega), if_neg (by omega)]
      rw [w64_id (n := ((e : Nat) : Int) - 127) (by omega) (by omega), w64_id (by omega) (by omega), u64_id (by omega) (by omega)]
      congr 2
      congr 1
      omega

theorem r2E64 : r2_E.f 64 = some 11 := by decide +kernel
theorem r2F64 : r2_F.f 64 = some 52 := by decide +kernel
theorem r2B64 : r2_B.f 64 = some 1023 := by decide +kernel
theorem r2Tf64 : Ev (fun k => r2_Two.f k 52) ((4503599627370496 : Nat) : Int) := by have h := two_i (n := 52) 52 rfl (by decide); rw [show (2 : Nat) ^ 52 = 4503599627370496 by decide] at h; exact h
theorem r2Te64 : Ev (fun k => r2_Two.f k 11) ((2048 : Nat) : Int) := by have h := two_i (n := 11) 11 rfl (by decide); rw [show (2 : Nat) ^ 11 = 2048 by decide] at h; exact h
theorem r2Ts64 : Ev (fun k => r2_Two.f k (wrap64 (64 - 1))) ((9223372036854775808 : Nat) : Int) := by have h := two_i (n := wrap64 (64 - 1)) 63 (by decide +kernel) (by decide); rw [show (2 : Nat) ^ 63 = 9223372036854775808 by decide] at h; exact h
theorem r2Exp64 (a : Nat) (ha : a < 18446744073709551616) : Ev (fun k => r2_Exp.f k 64 a) ((a / 4503599627370496 % 2048 : Nat) : Int) := by
  unfold r2_Exp.f
  refine Ev.bs (r2Cut 64 a (by decide)) (Ev.bs r2F64 (Ev.bind r2Tf64 (Ev.neg (by decide) (Ev.bs r2E64 (Ev.bind r2Te64 (Ev.neg (by decide) (Ev.out ?_)))))))
  have hc : cutN 64 a = a % 18446744073709551616 := by unfold cutN; rw [if_neg (by decide), if_pos rfl]; omega
  rw [hc, Int.tdiv_eq_ediv_of_nonneg (by omega), u64_id (by omega) (by omega), Int.tmod_eq_emod_of_nonneg (by omega), w64_id (by omega) (by omega)]
  omega
theorem r2Frac64 (a : Nat) (ha : a < 18446744073709551616) : Ev (fun k => r2_Frac.f k 64 a) ((a % 4503599627370496 : Nat) : Int) := by
  unfold r2_Frac.f
  refine Ev.bs r2F64 (Ev.bind r2Tf64 (Ev.neg (by decide) (Ev.out ?_)))
  rw [Int.tmod_eq_emod_of_nonneg (by omega)]; omega
theorem r2Top64 : Ev (fun k => r2_Top.f k 64) ((2047 : Nat) : Int) := by
  unfold r2_Top.f
  exact Ev.bs r2E64 (Ev.bind r2Te64 (Ev.out (by decide +kernel)))
theorem r2Make64 (s : Bool) (e fr : Nat) (he : e ≤ 2047) (hf : fr < 4503599627370496) : Ev (fun k => r2_Make.f k 64 s e fr) ((mkN 64 (e * 4503599627370496 + fr) s : Nat) : Int) := by
  unfold r2_Make.f
  refine Ev.bs r2F64 (Ev.bind r2Tf64 ?_)
  rw [u64_id (n := (e : Int)) (by omega) (by omega), u64_id (n := (e : Int) * ((4503599627370496 : Nat) : Int)) (by omega) (by omega), u64_id (n := (e : Int) * ((4503599627370496 : Nat) : Int) + fr) (by omega) (by omega)]
  unfold mkN
  rw [show sb 64 = 9223372036854775808 by decide]
  cases s
  · exact Ev.neg (by decide) (Ev.out (by simp))
  · refine Ev.pos rfl (Ev.bind r2Ts64 (Ev.out ?_))
    rw [u64_id (by omega) (by omega)]; simp only [if_true]; omega
theorem r2Open64 (a : Nat) (ha : a < 18446744073709551616) : Ev (fun k => r2_Open.f k 64 a) (opn 64 a) := by
  rw [opn64]
  unfold r2_Open.f
  refine Ev.bind (r2Exp64 a ha) (Ev.bind (r2Frac64 a ha) (Ev.bind (r2Neg 64 (by decide) a ha) (Ev.bind r2Top64 ?_)))
  unfold sgB
  rw [show sb 64 = 9223372036854775808 by decide]
  have hP : a % 9223372036854775808 % 4503599627370496 = a % 4503599627370496 := by omega
  have hQ : a % 9223372036854775808 / 4503599627370496 = a / 4503599627370496 % 2048 := by omega
  have hT : a / 4503599627370496 % 2048 < 2048 := Nat.mod_lt _ (by decide)
  have hE : a % 9223372036854775808 = a / 4503599627370496 % 2048 * 4503599627370496 + a % 4503599627370496 := by omega
  rw [hP, hQ, hE]
  generalize a / 4503599627370496 % 2048 = e at *
  have hF : a % 4503599627370496 < 4503599627370496 := Nat.mod_lt _ (by decide)
  generalize a % 4503599627370496 = fr at *
  generalize decide (a / 9223372036854775808 % 2 = 1) = s
  by_cases h1 : e = 2047
  · subst h1
    refine Ev.pos rfl ?_
    by_cases h2 : fr = 0
    · subst h2
      refine Ev.pos rfl (Ev.out ?_)
      rw [if_neg (by omega), if_neg (by omega), if_pos (by omega)]
    · refine Ev.neg (by omega) (Ev.out ?_)
      rw [if_neg (by omega), if_neg (by omega), if_neg (by omega)]
  · refine Ev.neg (by omega) ?_
    by_cases h2 : e = 0
    · subst h2
      refine Ev.pos rfl ?_
      by_cases h3 : fr = 0
      · subst h3
        refine Ev.pos rfl (Ev.out ?_)
        rw [Nat.zero_mul, Nat.zero_add, if_pos rfl]
      · refine Ev.neg (by omega) (Ev.bs r2B64 (Ev.bs r2F64 (Ev.out ?_)))
        rw [if_neg (by omega), if_pos (by omega), if_pos (by omega), if_pos (by omega), show wrap64 (wrap64 (1 - 1023) - 52) = (-1074 : Int) by decide +kernel]
        simp
    · refine Ev.neg (by omega) (Ev.bs r2B64 (Ev.bs r2F64 (Ev.bs r2F64 (Ev.bind r2Tf64 (Ev.out ?_)))))
      rw [if_neg (by omega), if_pos (by omega), if_neg (by omega), if_neg (by omega)]
      rw [w64_id (n := ((e : Nat) : Int) - 1023) (by omega) (by omega), w64_id (by omega) (by omega), u64_id (by omega) (by omega)]
      congr 2
      congr 1
      omega
theorem r2Open (w : Int) (hw : w = 32 ∨ w = 64) (a : Nat) (ha : a < 18446744073709551616) : Ev (fun k => r2_Open.f k w a) (opn w a) := by
  rcases hw with rfl | rfl
  · exact r2Open32 a ha
  · exact r2Open64 a ha
theorem opn_mk (w : Int) (hw : w = 32 ∨ w = 64) (m : Nat) (s : Bool) (h : m < sb w) : opn w (mkN w m s) = if m = 0 then (s, 0, 0, 0) else if m < (fmt w).inf then (s, 1, (fmt w).ex m, ((fmt w).sg m : Int)) else if m = (fmt w).inf then (s, 2, 0, 0) else (false, 3, 0, 0) := by
  unfold opn; simp only [sg_mk w hw m s h, mag_mk w hw m s h]
theorem cut_mk (w : Int) (hw : w = 32 ∨ w = 64) (m : Nat) (s : Bool) (h : m < sb w) : cutN w (mkN w m s) = mkN w m s := by
  rw [cutN_eq w hw _ (mkN_lt w hw m s h), sg_mk w hw m s h, mag_mk w hw m s h]; rfl
def nn (w : Int) (a : Nat) : Bool := (opn w a).2.1 == 3
def rk (w : Int) (a : Nat) : Int := if sgB w a then -(magN w a : Int) else magN w a
theorem nn_eq (w : Int) (hw : w = 32 ∨ w = 64) (a : Nat) : nn w a = decide ((fmt w).inf < magN w a) := by
  have h0 : 0 < (fmt w).inf := by rcases hw with rfl | rfl <;> decide
  unfold nn opn
  simp only
  split
  · rename_i h; simp [h]
  · split
    · rename_i h; simp; omega
    · split
      · rename_i h; simp [h]
      · simp; omega
theorem bitsMag (w : Int) (hw : w = 32 ∨ w = 64) (a : Nat) (ha : a < 18446744073709551616) : Go.bits .andNot .u64 ((cutN w a : Nat) : Int) ((mkN w 0 true : Nat) : Int) = ((magN w a : Nat) : Int) := by
  rw [show mkN w 0 true = sb w by simp [mkN]]
  rcases hw with rfl | rfl
  · simp only [cutN, sb, magN, if_true]
    rw [u64_andNot_nat _ _ (by omega) (by decide)]
    have h := andnot_pow (a % 4294967296) 31 (by decide) (by have : a % 4294967296 < 4294967296 := Nat.mod_lt _ (by decide); simpa using this)
    rw [show (2 : Nat) ^ 31 = 2147483648 by decide] at h
    rw [h]; congr 1; omega
  · simp only [cutN, sb, magN, show ¬ ((64 : Int) = 32) by decide, if_false, if_true]
    rw [u64_andNot_nat _ _ ha (by decide)]
    have h := andnot_pow a 63 (by decide) (by simpa using ha)
    rw [show (2 : Nat) ^ 63 = 9223372036854775808 by decide] at h
    rw [h]
theorem cut_as_mk (w : Int) (hw : w = 32 ∨ w = 64) (a : Nat) (ha : a < 18446744073709551616) : cutN w a = mkN w (magN w a) (sgB w a) := by
  rw [cutN_eq w hw a ha]; rfl
end Go.Proofs.Ythdeeoallfbjmaa.Th
end
section
set_option linter.unusedVariables false
set_option linter.unusedSimpArgs false
namespace Go.Proofs.Ythdeeoallfbjmaa.Th
open Go.RowKit Go.Proofs.YthdeeoallfbjmaaW.PrintWords Go.Proofs.YthdeeoallfbjmaaW.PrintLast Go.Proofs.YthdeeoallfbjmaaW.PrintMore Go.Proofs.Ythdeeoallfbjmaa.PA Bit Flo Dig
theorem inf_pos (w : Int) (hw : w = 32 ∨ w = 64) : 0 < (fmt w).inf := by rcases hw with rfl | rfl <;> decide
theorem kinds (w : Int) (hw : w = 32 ∨ w = 64) (a : Nat) : (magN w a = 0 ∧ opn w a = (sgB w a, 0, 0, 0)) ∨ (0 < magN w a ∧ magN w a < (fmt w).inf ∧ opn w a = (sgB w a, 1, (fmt w).ex (magN w a), ((fmt w).sg (magN w a) : Int))) ∨ (magN w a = (fmt w).inf ∧ opn w a = (sgB w a, 2, 0, 0)) ∨ ((fmt w).inf < magN w a ∧ opn w a = (false, 3, 0, 0)) := by
  have h0 := inf_pos w hw
  unfold opn; simp only
  by_cases h1 : magN w a = 0
  · left; rw [if_pos h1]; exact ⟨h1, rfl⟩
  · right; rw [if_neg h1]
    by_cases h2 : magN w a < (fmt w).inf
    · left; rw [if_pos h2]; exact ⟨by omega, h2, rfl⟩
    · right; rw [if_neg h2]
      by_cases h3 : magN w a = (fmt w).inf
      · left; rw [if_pos h3]; exact ⟨h3, rfl⟩
      · right; rw [if_neg h3]; exact ⟨by omega, rfl⟩
theorem ex_bd (w : Int) (hw : w = 32 ∨ w = 64) (m : Nat) (h : m < (fmt w).inf) : -1074 ≤ (fmt w).ex m ∧ (fmt w).ex m ≤ 971 := by
  rcases hw with rfl | rfl
  · rw [fmt32, inf32] at h; rw [fmt32, ex32]; split <;> omega
  · rw [fmt64, inf64] at h; rw [fmt64, ex64]; split <;> omega
theorem sg_64 (w : Int) (hw : w = 32 ∨ w = 64) (m : Nat) : (fmt w).sg m < 9007199254740992 := by
  have h := (fmt w).sg_lt m
  rcases hw with rfl | rfl
  · rw [fmt32] at h ⊢; rw [show (2 : Nat) ^ (f32.f + 1) = 16777216 by decide] at h; omega
  · rw [fmt64] at h ⊢; rw [show (2 : Nat) ^ (f64.f + 1) = 9007199254740992 by decide] at h; omega
theorem over_lt (F : Fmt) (m n : Nat) (e : Int) (h1 : e ≤ F.ex m) (h2 : e ≤ F.ex n) : F.sg m * 2 ^ (F.ex m - e).toNat < F.sg n * 2 ^ (F.ex n - e).toNat ↔ m < n := by
  rw [← F.val_lt_iff (a := m) (b := n)]
  unfold Fmt.val
  rw [tw_sub_nat _ _ h1, tw_sub_nat _ _ h2, ← Rat.mul_assoc, ← Rat.mul_assoc, ← Rat.natCast_mul, ← Rat.natCast_mul]
  constructor
  · intro h; exact mul_lt (nat_lt.2 h) (tw_pos e)
  · intro h; exact nat_lt.1 (lt_of_mul h (tw_pos e))
theorem over_cmp (F : Fmt) (m n : Nat) (e : Int) (h1 : e ≤ F.ex m) (h2 : e ≤ F.ex n) : cmpN (F.sg m * 2 ^ (F.ex m - e).toNat) (F.sg n * 2 ^ (F.ex n - e).toNat) = cmpN m n := by
  have a := over_lt F m n e h1 h2
  have b := over_lt F n m e h2 h1
  unfold cmpN
  simp only [a, b]
def cmpV (w : Int) (a b : Nat) : Int := if nn w a || nn w b then 2 else if rk w a < rk w b then -1 else if rk w b < rk w a then 1 else 0
def sv (n : Bool) (kd : Int) : Int := if kd = 0 then 0 else if n then -1 else 1
theorem sv_f (n : Bool) (kd e s : Int) : r8_sign.f n kd e s = some (sv n kd) := by
  unfold r8_sign.f sv
  split
  · rfl
  · cases n <;> rfl
theorem mn_le (a b : Int) : mn a b ≤ a ∧ mn a b ≤ b := by unfold mn; split <;> omega
theorem cmp_fin (w : Int) (hw : w = 32 ∨ w = 64) (m n : Nat) (hm : m < (fmt w).inf) (hn : n < (fmt w).inf) (s t : Bool) (r : Int) (hr : r = if s then -(cmpN m n) else cmpN m n) :
    Ev (fun k => r8_Cmp.j1 k false s 1 ((fmt w).ex m) ((fmt w).sg m : Int) t 1 ((fmt w).ex n) ((fmt w).sg n : Int)) r := by
  have b1 := ex_bd w hw m hm
  have b2 := ex_bd w hw n hn
  have s1 := sg_64 w hw m
  have s2 := sg_64 w hw n
  have l1 : bl ((fmt w).sg m) ≤ 64 := bl64 (by omega)
  have l2 : bl ((fmt w).sg n) ≤ 64 := bl64 (by omega)
  obtain ⟨e, he⟩ : ∃ e, mn ((fmt w).ex m) ((fmt w).ex n) = e := ⟨_, rfl⟩
  have h1 := mn_le ((fmt w).ex m) ((fmt w).ex n)
  have h3 : -1074 ≤ e := by rw [← he]; unfold mn; split <;> omega
  rw [he] at h1
  have c := over_cmp (fmt w) m n e h1.1 h1.2
  have k1 := bl_shl ((fmt w).sg m) ((fmt w).ex m - e).toNat
  have k2 := bl_shl ((fmt w).sg n) ((fmt w).ex n - e).toNat
  refine Ev.step (fun _ => r8_Cmp.j1.eq_2 ..) (Ev.neg (by decide) ?_)
  rw [he, w64_id (n := (fmt w).ex m - e) (by omega) (by omega), w64_id (n := (fmt w).ex n - e) (by omega) (by omega), show (fmt w).ex m - e = (((fmt w).ex m - e).toNat : Int) by omega, show (fmt w).ex n - e = (((fmt w).ex n - e).toNat : Int) by omega]
  refine Ev.bind (of_dg _ (by omega)) (Ev.bind (shl_bl _ _ (by omega) (by omega)) (Ev.bind (of_dg _ (by omega)) (Ev.bind (shl_bl _ _ (by omega) (by omega)) (Ev.bind (cmp_bl _ _ (by omega) (by omega)) ?_))))
  rw [c]
  subst hr
  have hc : cmpN m n = -1 ∨ cmpN m n = 0 ∨ cmpN m n = 1 := by unfold cmpN; split; simp; split <;> simp
  cases s with
  | true => exact Ev.pos rfl (Ev.out (by rw [w64_id (by omega) (by omega)]; rfl))
  | false => exact Ev.neg (by decide) (Ev.out rfl)
theorem cmp8S (w : Int) (hw : w = 32 ∨ w = 64) (a b : Nat) (ha : a < 18446744073709551616) (hb : b < 18446744073709551616) : Ev (fun k => r8_Cmp.f k w a b) (cmpV w a b) := by
  unfold r8_Cmp.f
  refine Ev.bind (r2Open w hw a ha) (Ev.bind (r2Open w hw b hb) ?_)
  have na := nn_eq w hw a
  have nb := nn_eq w hw b
  have h0 := inf_pos w hw
  rcases kinds w hw a with ⟨k1, k2⟩ | ⟨k0, k1, k2⟩ | ⟨k1, k2⟩ | ⟨k1, k2⟩
  case inr.inr.inr =>
    rw [k2]
    refine Ev.pos rfl (Ev.step (fun _ => r8_Cmp.j0.eq_2 ..) (Ev.pos rfl (Ev.out ?_)))
    unfold cmpV; rw [na, decide_eq_true k1]; rfl
  all_goals
    rw [k2]
    rw [decide_eq_false (by omega)] at na
    dsimp only
    refine Ev.neg (by decide) ?_
    rcases kinds w hw b with ⟨g1, g2⟩ | ⟨g0, g1, g2⟩ | ⟨g1, g2⟩ | ⟨g1, g2⟩
  case inl.inr.inr.inr | inr.inl.inr.inr.inr | inr.inr.inl.inr.inr.inr =>
    rw [g2]
    refine Ev.step (fun _ => r8_Cmp.j0.eq_2 ..) (Ev.pos rfl (Ev.out ?_))
    unfold cmpV; rw [na, nb, decide_eq_true g1]; rfl
  all_goals
    rw [g2]
    rw [decide_eq_false (by omega)] at nb
    dsimp only
    refine Ev.step (fun _ => r8_Cmp.j0.eq_2 ..) (Ev.neg (by decide) (Ev.bs (sv_f ..) (Ev.bs (sv_f ..) ?_)))
    unfold cmpV rk; rw [na, nb]
    generalize hsa : sgB w a = sa
    generalize hsb : sgB w b = sb
    cases sa <;> cases sb <;> simp only [sv, if_true, if_false, Bool.false_eq_true, Bool.or_self, show ¬ ((1 : Int) = 0) by decide, show ¬ ((2 : Int) = 0) by decide]
    all_goals first
      | exact Ev.pos (by decide) (Ev.out (by rw [if_pos (by omega)]))
      | exact Ev.neg (by decide) (Ev.bs (sv_f ..) (Ev.bs (sv_f ..) (Ev.pos (by decide) (Ev.out (by rw [if_neg (by omega), if_pos (by omega)])))))
      | exact Ev.neg (by decide) (Ev.bs (sv_f ..) (Ev.bs (sv_f ..) (Ev.neg (by decide) (Ev.bs (sv_f ..) (Ev.pos (by decide) (Ev.out (by rw [if_neg (by omega), if_neg (by omega)])))))))
      | refine Ev.neg (by decide) (Ev.bs (sv_f ..) (Ev.bs (sv_f ..) (Ev.neg (by decide) (Ev.bs (sv_f ..) (Ev.neg (by decide) ?_)))))
    all_goals first
      | (refine Ev.neg (by decide) (cmp_fin w hw _ _ k1 g1 _ _ _ ?_); unfold cmpN; simp only [if_true, if_false, Bool.false_eq_true]; repeat' split
         all_goals omega)
      | (refine Ev.pos rfl ?_
         refine Ev.step (fun _ => r8_Cmp.j1.eq_2 ..) (Ev.pos rfl ?_)
         first
           | exact Ev.pos rfl (Ev.out (by (repeat' split) <;> first | omega | decide +kernel))
           | exact Ev.neg (by decide) (Ev.out (by (repeat' split) <;> first | omega | decide +kernel)))
      | (refine Ev.step (fun _ => r8_Cmp.j1.eq_2 ..) (Ev.pos rfl ?_)
         first
           | exact Ev.pos rfl (Ev.out (by (repeat' split) <;> first | omega | decide +kernel))
           | exact Ev.neg (by decide) (Ev.out (by (repeat' split) <;> first | omega | decide +kernel)))
      | (refine Ev.neg (show ¬ ((1 : Int) = 2) by decide) ?_
         refine Ev.step (fun _ => r8_Cmp.j1.eq_2 ..) (Ev.pos rfl ?_)
         first
           | exact Ev.pos rfl (Ev.out (by (repeat' split) <;> first | omega | decide +kernel))
           | exact Ev.neg (by decide) (Ev.out (by (repeat' split) <;> first | omega | decide +kernel)))
end Go.Proofs.Ythdeeoallfbjmaa.Th
end
section
set_option linter.unusedVariables false
set_option linter.unusedSimpArgs false
namespace Go.Proofs.Ythdeeoallfbjmaa.Th
open Flo
theorem fmt_bd (w : Int) : (fmt w).f < 100 ∧ (-5000 < (fmt w).low ∧ (fmt w).low < 0) ∧ (fmt w).top < 5000 := by
  unfold fmt; split <;> decide
theorem fmt_f (w : Int) : (fmt w).f ≤ 52 := by unfold fmt; split <;> decide
theorem pk_ex (w : Int) (S : Nat) (e : Int) (hS : S < 340282366920938463463374607431768211456) : pkm (fmt w) S e false = (fmt w).rnd ((S : Rat) * tw e) := by
  have h := fmt_bd w
  rw [← pkx_f, pkm_rnd _ h.1 h.2.1 h.2.2 S e false hS]
theorem pk_mo (w : Int) {x : Rat} {S : Nat} {e : Int} (hS : S < 340282366920938463463374607431768211456) (h0 : 9007199254740992 ≤ S) (h1 : (S : Rat) * tw e < x) (h2 : x < ((S + 1 : Nat) : Rat) * tw e) : pkm (fmt w) S e true = (fmt w).rnd x := by
  have h := fmt_bd w
  have h3 : 2 ^ ((fmt w).f + 1) ≤ S := by
    have : 2 ^ ((fmt w).f + 1) ≤ 2 ^ 53 := Nat.pow_le_pow_right (by decide) (by have := fmt_f w; omega)
    rw [show (2 : Nat) ^ 53 = 9007199254740992 by decide] at this
    omega
  rw [rnd_more _ h1 h2 h3, pkm_rnd _ h.1 h.2.1 h.2.2 S e true hS]
abbrev Pt := Bool × Int × Int × Int
noncomputable def pv (p : Pt) : Rat := if p.2.1 = 1 then (if p.1 then -((p.2.2.2.toNat : Rat) * tw p.2.2.1) else (p.2.2.2.toNat : Rat) * tw p.2.2.1) else 0
noncomputable def fx (w : Int) (s : Rat) (z : Bool) : Nat := if s = 0 then mkN w 0 z else if s < 0 then mkN w ((fmt w).rnd (-s)) true else mkN w ((fmt w).rnd s) false
noncomputable def addP (w : Int) (p q : Pt) : Nat :=
  if p.2.1 = 3 ∨ q.2.1 = 3 then nanN w else if p.2.1 = 2 then (if q.2.1 = 2 ∧ p.1 ≠ q.1 then nanN w else mkN w (fmt w).inf p.1) else if q.2.1 = 2 then mkN w (fmt w).inf q.1
  else fx w (pv p + pv q) (p.1 && q.1)
theorem fx_pos (w : Int) {s : Rat} (h : 0 < s) (z : Bool) : fx w s z = mkN w ((fmt w).rnd s) false := by
  unfold fx; rw [if_neg (by grind), if_neg (by grind)]
theorem fx_neg (w : Int) {s : Rat} (h : 0 < s) (z : Bool) : fx w (-s) z = mkN w ((fmt w).rnd s) true := by
  unfold fx; rw [if_neg (by grind), if_pos (by grind), Rat.neg_neg]
theorem fx_zero (w : Int) (z : Bool) : fx w 0 z = mkN w 0 z := by unfold fx; rw [if_pos rfl]
theorem fx_sg (w : Int) {s : Rat} (h : 0 < s) (n z : Bool) : fx w (if n then -s else s) z = mkN w ((fmt w).rnd s) n := by
  cases n
  · exact fx_pos w h z
  · exact fx_neg w h z
theorem align_eq {sa sb : Nat} {ea eb : Int} (hab : eb ≤ ea) (h0 : 0 < sa) {u d : Nat} (hu : (u : Int) = min (ea - eb) 64) (hd : (d : Int) = ea - eb - u) :
    (sa : Rat) * tw ea = ((sa * 2 ^ u : Nat) : Rat) * tw (ea - u) ∧ ((sb / 2 ^ d : Nat) : Rat) * tw (ea - u) ≤ (sb : Rat) * tw eb ∧ (sb : Rat) * tw eb < ((sb / 2 ^ d + 1 : Nat) : Rat) * tw (ea - u) ∧
    (sb % 2 ^ d = 0 → (sb : Rat) * tw eb = ((sb / 2 ^ d : Nat) : Rat) * tw (ea - u)) ∧ (sb % 2 ^ d ≠ 0 → ((sb / 2 ^ d : Nat) : Rat) * tw (ea - u) < (sb : Rat) * tw eb ∧ u = 64) := by
  have hp : 0 < 2 ^ d := Nat.pow_pos (by decide)
  have e1 : tw (ea - u) = ((2 ^ d : Nat) : Rat) * tw eb := by rw [tw_sub_nat (ea - u) eb (by omega)]; congr 3; omega
  have T := tw_pos eb
  have h1 := Nat.div_add_mod sb (2 ^ d)
  have h2 := Nat.mod_lt sb hp
  have e3 : ∀ x : Nat, (x : Rat) * tw (ea - u) = ((2 ^ d * x : Nat) : Rat) * tw eb := fun x => by rw [e1, Nat.mul_comm]; push_cast; grind
  refine ⟨?_, ?_, ?_, ?_, ?_⟩
  · rw [tw_sub_nat ea (ea - u) (by omega), show (ea - (ea - (u : Int))).toNat = u by omega]; push_cast; grind
  · rw [e3]; exact mul_le (nat_le.2 (by omega)) T
  · rw [e3]; exact mul_lt (nat_lt.2 (by rw [Nat.mul_add]; omega)) T
  · intro h; rw [e3]; congr 2; omega
  · intro h
    refine ⟨?_, ?_⟩
    · rw [e3]; exact mul_lt (nat_lt.2 (by omega)) T
    · rcases Nat.eq_zero_or_pos d with h3 | h3
      · subst h3; rw [Nat.pow_zero, Nat.mod_one] at h; exact absurd rfl h
      · omega
end Go.Proofs.Ythdeeoallfbjmaa.Th
end
