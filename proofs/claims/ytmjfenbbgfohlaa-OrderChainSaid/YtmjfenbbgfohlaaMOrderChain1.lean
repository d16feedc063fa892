/- What the Go functions that the statement OrderChain reaches compute, and the mathematics on it, in the order in which one leans on the other; for every input. -/
import Derived.Test.YtmjfenbbgfohlaaMOrderChain0
import Derived.Laws.BitsAllLaws
namespace Go.Proofs.Ytmjfenbbgfohlaa.PA
open Go.RowKit Go.Proofs.YtmjfenbbgfohlaaW.PrintWords Go.Proofs.YtmjfenbbgfohlaaW.PrintLast Go.Proofs.YtmjfenbbgfohlaaW.PrintMore
attribute [local go_sem] max2_int min2_int max_two min_two max_three min_three max_four min_four   -- for this text's walks alone
set_option linter.unusedVariables false
set_option linter.unusedSimpArgs false

/-! ### order_pick: function 152 -/
def order_pick.j0 : Nat → Int → Int → Int → Bool → Bool → Bool → Option (Int)
  | 0, _, _, _, _, _, _ => none
  | k + 1, x0, x1, x2, x3, x4, x21 => if x21 = true then ((shape_Nan.f x0).bind fun t722 => (some t722)) else ((order_Eq.f k x0 x1 x2).bind fun t723 => (if t723 = true then ((shape_Open.f k x0 x1).bind fun bt724 => (if (bt724.1 == x3) = true then (some x1) else (some x2))) else (if x4 = true then (some x1) else (some x2))))
def order_pick.f (k : Nat) (a0 : Int) (a1 : Int) (a2 : Int) (a3 : Bool) (a4 : Bool) : Option (Int) := (shape_Cut.f a0 a1).bind fun t717 => ((shape_Cut.f a0 a2).bind fun t718 => ((order_known.f a0).bind fun t719 => (if t719 = true then ((shape_IsNan.f k a0 t717).bind fun t720 => (if t720 = true then (order_pick.j0 k a0 t717 t718 a3 a4 true) else ((shape_IsNan.f k a0 t718).bind fun t721 => (order_pick.j0 k a0 t717 t718 a3 a4 t721)))) else (some 0))))
theorem order_pick.mono_l : ∀ k, (∀ y0 y1 y2 y3 y4 y5, LeO (order_pick.j0 k y0 y1 y2 y3 y4 y5) (order_pick.j0 (k + 1) y0 y1 y2 y3 y4 y5))
  | 0 => fun _ _ _ _ _ _ r h => by simp [order_pick.j0] at h
  | k + 1 => by
    have ih0 := order_pick.mono_l k
    · intro y0 y1 y2 y3 y4 y5
      unfold order_pick.j0
      repeat' first
      | (with_reducible exact ih0 _ _ _ _ _ _)
      | (with_reducible exact order_Eq.mono _ _ _ _)
      | (with_reducible exact shape_IsNan.mono _ _ _)
      | (with_reducible exact shape_Open.mono _ _ _)
      | (with_reducible exact LeO.refl _)
      | (with_reducible exact LeO.none _)
      | (with_reducible refine LeO.ite ?_ ?_)
      | (with_reducible refine LeO.bind ?_ (fun _ => ?_))
      | exact ih0 _ _ _ _ _ _
      | exact order_Eq.mono _ _ _ _
      | exact shape_IsNan.mono _ _ _
      | exact shape_Open.mono _ _ _
      | exact LeO.none _
      | refine LeO.ite ?_ ?_
      | refine LeO.bind ?_ (fun _ => ?_)
theorem order_pick.mono : ∀ a0 a1 a2 a3 a4 k, LeO (order_pick.f k a0 a1 a2 a3 a4) (order_pick.f (k + 1) a0 a1 a2 a3 a4) := by
  intro a0 a1 a2 a3 a4 k
  have ih0 := order_pick.mono_l k
  unfold order_pick.f
  repeat' first
      | (with_reducible exact ih0 _ _ _ _ _ _)
      | (with_reducible exact order_Eq.mono _ _ _ _)
      | (with_reducible exact shape_IsNan.mono _ _ _)
      | (with_reducible exact shape_Open.mono _ _ _)
      | (with_reducible exact LeO.refl _)
      | (with_reducible exact LeO.none _)
      | (with_reducible refine LeO.ite ?_ ?_)
      | (with_reducible refine LeO.bind ?_ (fun _ => ?_))
      | exact ih0 _ _ _ _ _ _
      | exact order_Eq.mono _ _ _ _
      | exact shape_IsNan.mono _ _ _
      | exact shape_Open.mono _ _ _
      | exact LeO.none _
      | refine LeO.ite ?_ ?_
      | refine LeO.bind ?_ (fun _ => ?_)
set_option maxHeartbeats 8000000 in
set_option maxRecDepth 100000 in
theorem order_pick.calls (k : Nat) (a0 : Int) (a1 : Int) (a2 : Int) (a3 : Bool) (a4 : Bool) (r : Int) (w : World) (h : order_pick.f k a0 a1 a2 a3 a4 = some r) :
    Calls Try.prog 152 #[.int .i64 a0, .int .u64 a1, .int .u64 a2, .bool a3, .bool a4] w fun e w' => e = .returned (.int .u64 r) ∧ Below w.heap.size w w' := by
  have hfl34_0 : ∀ (v0_ v1_ v2_ v3_ : Value) (W : World), (Instr.field 34 (.agg #[v0_, v1_, v2_, v3_]) 0).run Try.prog W = .ok v0_ W := fun _ _ _ _ _ => by rfl
  have HB := Aside0.mk (Below.refl w.heap.size w)
  have H : ((shape_Cut.f a0 a1).bind fun t717 => ((shape_Cut.f a0 a2).bind fun t718 => ((order_known.f a0).bind fun t719 => (if t719 = true then ((shape_IsNan.f k a0 t717).bind fun t720 => (if t720 = true then (order_pick.j0 k a0 t717 t718 a3 a4 true) else ((shape_IsNan.f k a0 t718).bind fun t721 => (order_pick.j0 k a0 t717 t718 a3 a4 t721)))) else (some 0))))) = some r := h
  clear h
  replace H := Option.bind_eq_some_iff.mp H
  obtain ⟨t717, A60, H⟩ := H
  replace H : ((shape_Cut.f a0 a2).bind fun t718 => ((order_known.f a0).bind fun t719 => (if t719 = true then ((shape_IsNan.f k a0 t717).bind fun t720 => (if t720 = true then (order_pick.j0 k a0 t717 t718 a3 a4 true) else ((shape_IsNan.f k a0 t718).bind fun t721 => (order_pick.j0 k a0 t717 t718 a3 a4 t721)))) else (some 0)))) = some r := H
  have A6 := Aside0.mk A60
  clear A60
  replace H := Option.bind_eq_some_iff.mp H
  obtain ⟨t718, A70, H⟩ := H
  replace H : ((order_known.f a0).bind fun t719 => (if t719 = true then ((shape_IsNan.f k a0 t717).bind fun t720 => (if t720 = true then (order_pick.j0 k a0 t717 t718 a3 a4 true) else ((shape_IsNan.f k a0 t718).bind fun t721 => (order_pick.j0 k a0 t717 t718 a3 a4 t721)))) else (some 0))) = some r := H
  have A7 := Aside0.mk A70
  clear A70
  replace H := Option.bind_eq_some_iff.mp H
  obtain ⟨t719, A80, H⟩ := H
  replace H : (if t719 = true then ((shape_IsNan.f k a0 t717).bind fun t720 => (if t720 = true then (order_pick.j0 k a0 t717 t718 a3 a4 true) else ((shape_IsNan.f k a0 t718).bind fun t721 => (order_pick.j0 k a0 t717 t718 a3 a4 t721)))) else (some 0)) = some r := H
  have A8 := Aside0.mk A80
  clear A80
  by_cases c9 : t719 = true
  · subst c9
    have H1 : ((shape_IsNan.f k a0 t717).bind fun t720 => (if t720 = true then (order_pick.j0 k a0 t717 t718 a3 a4 true) else ((shape_IsNan.f k a0 t718).bind fun t721 => (order_pick.j0 k a0 t717 t718 a3 a4 t721)))) = some r := by rw [if_pos rfl] at H; exact H
    clear H
    have H := H1
    clear H1
    have HC10 := Aside0.mk H
    clear H
    go_enter Try.func152, Try.ntmps152
    go_upto_region 4 with (first | ((with_reducible refine gate_callee (f := 42) rfl ?_); refine goesL_ (some 13) rfl rfl Try.func42 (by kernel_rfl) rfl #[.int .i64 a0, .int .u64 a1] rfl (by (try simp only [List.map_toArray, List.map_cons, List.map_nil]); first | done | rfl | (simp only [List.length_drop, List.length_take]; rfl)) ?_; (with_reducible refine (shape_Cut.calls a0 a1 t717 _ A6.out).mono ?_); rintro e w' ⟨rfl, ⟨nd, rfl⟩⟩; refine ⟨_, rfl, ?_⟩) | ((with_reducible refine gate_callee (f := 42) rfl ?_); refine goesL_ (some 16) rfl rfl Try.func42 (by kernel_rfl) rfl #[.int .i64 a0, .int .u64 a2] rfl (by (try simp only [List.map_toArray, List.map_cons, List.map_nil]); first | done | rfl | (simp only [List.length_drop, List.length_take]; rfl)) ?_; (with_reducible refine (shape_Cut.calls a0 a2 t718 _ A7.out).mono ?_); rintro e w' ⟨rfl, ⟨nd, rfl⟩⟩; refine ⟨_, rfl, ?_⟩) | ((with_reducible refine gate_callee (f := 153) rfl ?_); refine goesL_ (some 19) rfl rfl Try.func153 (by kernel_rfl) rfl #[.int .i64 a0] rfl (by (try simp only [List.map_toArray, List.map_cons, List.map_nil]); first | done | rfl | (simp only [List.length_drop, List.length_take]; rfl)) ?_; (with_reducible refine (order_known.calls a0 true _ A8.out).mono ?_); rintro e w' ⟨rfl, ⟨nd, rfl⟩⟩; refine ⟨_, rfl, ?_⟩))
    (try simp only [Act.put, List.setIfInBounds_toArray, List.set_cons_zero, List.set_cons_succ])
    go_cut [21] (fun v21 wc => ∃ (kq : Nat) (x21_9 : Bool), v21 = .bool x21_9 ∧ Aside0 (order_pick.j0 kq a0 t717 t718 a3 a4 x21_9 = some r) ∧ Aside0 (kq ≤ k) ∧ Aside0 (Below w.heap.size w wc))
    case first =>
      have H := HC10.out
      clear HC10
      replace H := Option.bind_eq_some_iff.mp H
      obtain ⟨t720, A110, H⟩ := H
      replace H : (if t720 = true then (order_pick.j0 k a0 t717 t718 a3 a4 true) else ((shape_IsNan.f k a0 t718).bind fun t721 => (order_pick.j0 k a0 t717 t718 a3 a4 t721))) = some r := H
      have A11 := Aside0.mk A110
      clear A110
      by_cases c12 : t720 = true
      · subst c12
        have H1 : (order_pick.j0 k a0 t717 t718 a3 a4 true) = some r := by rw [if_pos rfl] at H; exact H
        clear H
        have H := H1
        clear H1
        have H' := Aside0.mk H
        clear H
        go_wp2_with (first | ((with_reducible refine gate_callee (f := 43) rfl ?_); refine goesL_ (some 24) rfl rfl Try.func43 (by kernel_rfl) rfl #[.int .i64 a0, .int .u64 t717] rfl (by (try simp only [List.map_toArray, List.map_cons, List.map_nil]); first | done | rfl | (simp only [List.length_drop, List.length_take]; rfl)) ?_; (with_reducible refine (shape_IsNan.calls k a0 t717 true _ A11.out).mono ?_); rintro e w13 ⟨rfl, hb⟩; refine ⟨_, rfl, ?_⟩; have n0_ := Aside0.mk (below_step (by repeat (first | (with_reducible first | exact HB.out | apply below_alloc | apply pw_below_drewN | apply below_drew1) | exact HB.out)) hb); clear HB; have HB := n0_; clear n0_; (try clear hb); (try clear hb2); (try clear hk); (try clear hi)))
        go_meet
        case rel => exact ⟨_, (true), (by first | rfl | (simp; done) | (simp [*]; done)), H', ⟨by first | omega | exact Nat.le_refl _⟩, ⟨by repeat (first | (with_reducible first | exact HB.out | apply below_alloc | apply pw_below_drewN | apply below_drew1) | exact HB.out)⟩⟩
      · replace c12 := Bool.eq_false_iff.mpr c12
        subst c12
        have H1 : ((shape_IsNan.f k a0 t718).bind fun t721 => (order_pick.j0 k a0 t717 t718 a3 a4 t721)) = some r := by rw [if_neg (show ¬ (false = true) by decide)] at H; exact H
        clear H
        have H := H1
        clear H1
        replace H := Option.bind_eq_some_iff.mp H
        obtain ⟨t721, A140, H⟩ := H
        replace H : (order_pick.j0 k a0 t717 t718 a3 a4 t721) = some r := H
        have A14 := Aside0.mk A140
        clear A140
        have H' := Aside0.mk H
        clear H
        go_wp2_with (first | ((with_reducible refine gate_callee (f := 43) rfl ?_); refine goesL_ (some 24) rfl rfl Try.func43 (by kernel_rfl) rfl #[.int .i64 a0, .int .u64 t717] rfl (by (try simp only [List.map_toArray, List.map_cons, List.map_nil]); first | done | rfl | (simp only [List.length_drop, List.length_take]; rfl)) ?_; (with_reducible refine (shape_IsNan.calls k a0 t717 false _ A11.out).mono ?_); rintro e w15 ⟨rfl, hb⟩; refine ⟨_, rfl, ?_⟩; have n0_ := Aside0.mk (below_step (by repeat (first | (with_reducible first | exact HB.out | apply below_alloc | apply pw_below_drewN | apply below_drew1) | exact HB.out)) hb); clear HB; have HB := n0_; clear n0_; (try clear hb); (try clear hb2); (try clear hk); (try clear hi)) | (go_at_call 43; (with_reducible refine (shape_IsNan.calls k a0 t718 t721 _ A14.out).mono ?_); rintro e w16 ⟨rfl, hb⟩; have n0_ := Aside0.mk (below_step (by repeat (first | (with_reducible first | exact HB.out | apply below_alloc | apply pw_below_drewN | apply below_drew1) | exact HB.out)) hb); clear HB; have HB := n0_; clear n0_; (try clear hb); (try clear hb2); (try clear hk); (try clear hi)))
        go_meet
        case rel => exact ⟨_, (t721), (by first | rfl | (simp; done) | (simp [*]; done)), H', ⟨by first | omega | exact Nat.le_refl _⟩, ⟨by repeat (first | (with_reducible first | exact HB.out | apply below_alloc | apply pw_below_drewN | apply below_drew1) | exact HB.out)⟩⟩
    case rest =>
      clear HC10
      try clear c1
      try clear p2
      try clear c4
      try clear c9
      try clear c12
      try clear c15
      obtain ⟨kq, x21_9, rfl, HA, HJ9, HB⟩ := hcut
      cases kq with
      | zero => exact absurd HA.out (by simp [order_pick.j0])
      | succ kj9 =>
        have H := HA.out
        clear HA
        simp only [order_pick.j0] at H
        by_cases c17 : x21_9 = true
        · subst c17
          have H1 : ((shape_Nan.f a0).bind fun t722 => (some t722)) = some r := by rw [if_pos rfl] at H; exact H
          clear H
          have H := H1
          clear H1
          replace H := Option.bind_eq_some_iff.mp H
          obtain ⟨t722, A180, H⟩ := H
          replace H : (some t722) = some r := H
          have A18 := Aside0.mk A180
          clear A180
          obtain rfl := Option.some.inj H
          go_wp2_with (first | ((with_reducible refine gate_callee (f := 60) rfl ?_); refine goesL_ (some 31) rfl rfl Try.func60 (by kernel_rfl) rfl #[.int .i64 a0] rfl (by (try simp only [List.map_toArray, List.map_cons, List.map_nil]); first | done | rfl | (simp only [List.length_drop, List.length_take]; rfl)) ?_; (with_reducible refine (shape_Nan.calls a0 t722 _ A18.out).mono ?_); rintro e w19 ⟨rfl, hb⟩; refine ⟨_, rfl, ?_⟩; have n0_ := Aside0.mk (below_step (by repeat (first | (with_reducible first | exact HB.out | apply below_alloc | apply pw_below_drewN | apply below_drew1) | exact HB.out)) hb); clear HB; have HB := n0_; clear n0_; (try clear hb); (try clear hb2); (try clear hk); (try clear hi)))
          go_ret
          exact ⟨by first | rfl | (simp [errW_none, errW_some] <;> rfl) | (simp [*, errW_none, errW_some] <;> rfl), by repeat (first | (with_reducible first | exact HB.out | apply below_alloc | apply pw_below_drewN | apply below_drew1) | exact HB.out)⟩
        · replace c17 := Bool.eq_false_iff.mpr c17
          subst c17
          have H1 : ((order_Eq.f kj9 a0 t717 t718).bind fun t723 => (if t723 = true then ((shape_Open.f kj9 a0 t717).bind fun bt724 => (if (bt724.1 == a3) = true then (some t717) else (some t718))) else (if a4 = true then (some t717) else (some t718)))) = some r := by rw [if_neg (show ¬ (false = true) by decide)] at H; exact H
          clear H
          have H := H1
          clear H1
          replace H := Option.bind_eq_some_iff.mp H
          obtain ⟨t723, A200, H⟩ := H
          replace H : (if t723 = true then ((shape_Open.f kj9 a0 t717).bind fun bt724 => (if (bt724.1 == a3) = true then (some t717) else (some t718))) else (if a4 = true then (some t717) else (some t718))) = some r := H
          have A20 := Aside0.mk A200
          clear A200
          by_cases c21 : t723 = true
          · subst c21
            have H1 : ((shape_Open.f kj9 a0 t717).bind fun bt724 => (if (bt724.1 == a3) = true then (some t717) else (some t718))) = some r := by rw [if_pos rfl] at H; exact H
            clear H
            have H := H1
            clear H1
            replace H := Option.bind_eq_some_iff.mp H
            obtain ⟨⟨t724, t725, t726, t727⟩, A220, H⟩ := H
            replace H : (if (t724 == a3) = true then (some t717) else (some t718)) = some r := H
            have A22 := Aside0.mk A220
            clear A220
            by_cases c23 : (t724 == a3) = true
            · rw [if_pos c23] at H
              have c23b0 : (t724 == a3) = true := c23
              (try (have c23b1 : decide (t724 = a3) = true := by simpa using c23))
              (try (have c23b2 : (t724 == a3) = true := by simpa using c23))
              clear c23
              obtain rfl := Option.some.inj H
              go_wp2_with (first | ((with_reducible refine gate_callee (f := 100) rfl ?_); refine goesL_ (some 36) rfl rfl Try.func100 (by kernel_rfl) rfl #[.int .i64 a0, .int .u64 t717, .int .u64 t718] rfl (by (try simp only [List.map_toArray, List.map_cons, List.map_nil]); first | done | rfl | (simp only [List.length_drop, List.length_take]; rfl)) ?_; (with_reducible refine (order_Eq.calls kj9 a0 t717 t718 true _ A20.out).mono ?_); rintro e w24 ⟨rfl, hb⟩; refine ⟨_, rfl, ?_⟩; have n0_ := Aside0.mk (below_step (by repeat (first | (with_reducible first | exact HB.out | apply below_alloc | apply pw_below_drewN | apply below_drew1) | exact HB.out)) hb); clear HB; have HB := n0_; clear n0_; (try clear hb); (try clear hb2); (try clear hk); (try clear hi)) | ((with_reducible refine gate_callee (f := 41) rfl ?_); refine goesL_ (some 39) rfl rfl Try.func41 (by kernel_rfl) rfl #[.int .i64 a0, .int .u64 t717] rfl (by (try simp only [List.map_toArray, List.map_cons, List.map_nil]); first | done | rfl | (simp only [List.length_drop, List.length_take]; rfl)) ?_; (with_reducible refine (shape_Open.calls kj9 a0 t717 t724 t725 t726 t727 _ A22.out).mono ?_); rintro e w25 ⟨rfl, hb⟩; refine ⟨_, rfl, ?_⟩; have n0_ := Aside0.mk (below_step (by repeat (first | (with_reducible first | exact HB.out | apply below_alloc | apply pw_below_drewN | apply below_drew1) | exact HB.out)) hb); clear HB; have HB := n0_; clear n0_; (try clear hb); (try clear hb2); (try clear hk); (try clear hi)))
              go_ret
              exact ⟨by first | rfl | (simp [errW_none, errW_some] <;> rfl) | (simp [*, errW_none, errW_some] <;> rfl), by repeat (first | (with_reducible first | exact HB.out | apply below_alloc | apply pw_below_drewN | apply below_drew1) | exact HB.out)⟩
            · rw [if_neg c23] at H
              have c23b0 : (t724 == a3) = false := by simpa using c23
              (try (have c23b1 : decide (t724 = a3) = false := by simpa using c23))
              (try (have c23b2 : (t724 == a3) = false := by simpa using c23))
              (try (have c23b3 : ¬ (t724 = a3) := by simpa using c23))
              clear c23
              obtain rfl := Option.some.inj H
              go_wp2_with (first | ((with_reducible refine gate_callee (f := 100) rfl ?_); refine goesL_ (some 36) rfl rfl Try.func100 (by kernel_rfl) rfl #[.int .i64 a0, .int .u64 t717, .int .u64 t718] rfl (by (try simp only [List.map_toArray, List.map_cons, List.map_nil]); first | done | rfl | (simp only [List.length_drop, List.length_take]; rfl)) ?_; (with_reducible refine (order_Eq.calls kj9 a0 t717 t718 true _ A20.out).mono ?_); rintro e w26 ⟨rfl, hb⟩; refine ⟨_, rfl, ?_⟩; have n0_ := Aside0.mk (below_step (by repeat (first | (with_reducible first | exact HB.out | apply below_alloc | apply pw_below_drewN | apply below_drew1) | exact HB.out)) hb); clear HB; have HB := n0_; clear n0_; (try clear hb); (try clear hb2); (try clear hk); (try clear hi)) | ((with_reducible refine gate_callee (f := 41) rfl ?_); refine goesL_ (some 39) rfl rfl Try.func41 (by kernel_rfl) rfl #[.int .i64 a0, .int .u64 t717] rfl (by (try simp only [List.map_toArray, List.map_cons, List.map_nil]); first | done | rfl | (simp only [List.length_drop, List.length_take]; rfl)) ?_; (with_reducible refine (shape_Open.calls kj9 a0 t717 t724 t725 t726 t727 _ A22.out).mono ?_); rintro e w27 ⟨rfl, hb⟩; refine ⟨_, rfl, ?_⟩; have n0_ := Aside0.mk (below_step (by repeat (first | (with_reducible first | exact HB.out | apply below_alloc | apply pw_below_drewN | apply below_drew1) | exact HB.out)) hb); clear HB; have HB := n0_; clear n0_; (try clear hb); (try clear hb2); (try clear hk); (try clear hi)))
              go_ret
              exact ⟨by first | rfl | (simp [errW_none, errW_some] <;> rfl) | (simp [*, errW_none, errW_some] <;> rfl), by repeat (first | (with_reducible first | exact HB.out | apply below_alloc | apply pw_below_drewN | apply below_drew1) | exact HB.out)⟩
          · replace c21 := Bool.eq_false_iff.mpr c21
            subst c21
            have H1 : (if a4 = true then (some t717) else (some t718)) = some r := by rw [if_neg (show ¬ (false = true) by decide)] at H; exact H
            clear H
            have H := H1
            clear H1
            by_cases c28 : a4 = true
            · subst c28
              have H1 : (some t717) = some r := by rw [if_pos rfl] at H; exact H
              clear H
              have H := H1
              clear H1
              obtain rfl := Option.some.inj H
              go_wp2_with (first | ((with_reducible refine gate_callee (f := 100) rfl ?_); refine goesL_ (some 36) rfl rfl Try.func100 (by kernel_rfl) rfl #[.int .i64 a0, .int .u64 t717, .int .u64 t718] rfl (by (try simp only [List.map_toArray, List.map_cons, List.map_nil]); first | done | rfl | (simp only [List.length_drop, List.length_take]; rfl)) ?_; (with_reducible refine (order_Eq.calls kj9 a0 t717 t718 false _ A20.out).mono ?_); rintro e w29 ⟨rfl, hb⟩; refine ⟨_, rfl, ?_⟩; have n0_ := Aside0.mk (below_step (by repeat (first | (with_reducible first | exact HB.out | apply below_alloc | apply pw_below_drewN | apply below_drew1) | exact HB.out)) hb); clear HB; have HB := n0_; clear n0_; (try clear hb); (try clear hb2); (try clear hk); (try clear hi)))
              go_ret
              exact ⟨by first | rfl | (simp [errW_none, errW_some] <;> rfl) | (simp [*, errW_none, errW_some] <;> rfl), by repeat (first | (with_reducible first | exact HB.out | apply below_alloc | apply pw_below_drewN | apply below_drew1) | exact HB.out)⟩
            · replace c28 := Bool.eq_false_iff.mpr c28
              subst c28
              have H1 : (some t718) = some r := by rw [if_neg (show ¬ (false = true) by decide)] at H; exact H
              clear H
              have H := H1
              clear H1
              obtain rfl := Option.some.inj H
              go_wp2_with (first | ((with_reducible refine gate_callee (f := 100) rfl ?_); refine goesL_ (some 36) rfl rfl Try.func100 (by kernel_rfl) rfl #[.int .i64 a0, .int .u64 t717, .int .u64 t718] rfl (by (try simp only [List.map_toArray, List.map_cons, List.map_nil]); first | done | rfl | (simp only [List.length_drop, List.length_take]; rfl)) ?_; (with_reducible refine (order_Eq.calls kj9 a0 t717 t718 false _ A20.out).mono ?_); rintro e w30 ⟨rfl, hb⟩; refine ⟨_, rfl, ?_⟩; have n0_ := Aside0.mk (below_step (by repeat (first | (with_reducible first | exact HB.out | apply below_alloc | apply pw_below_drewN | apply below_drew1) | exact HB.out)) hb); clear HB; have HB := n0_; clear n0_; (try clear hb); (try clear hb2); (try clear hk); (try clear hi)))
              go_ret
              exact ⟨by first | rfl | (simp [errW_none, errW_some] <;> rfl) | (simp [*, errW_none, errW_some] <;> rfl), by repeat (first | (with_reducible first | exact HB.out | apply below_alloc | apply pw_below_drewN | apply below_drew1) | exact HB.out)⟩
  · replace c9 := Bool.eq_false_iff.mpr c9
    subst c9
    have H1 : (some 0) = some r := by rw [if_neg (show ¬ (false = true) by decide)] at H; exact H
    clear H
    have H := H1
    clear H1
    obtain rfl := Option.some.inj H
    go_enter Try.func152, Try.ntmps152
    go_wp2_with (first | ((with_reducible refine gate_callee (f := 42) rfl ?_); refine goesL_ (some 13) rfl rfl Try.func42 (by kernel_rfl) rfl #[.int .i64 a0, .int .u64 a1] rfl (by (try simp only [List.map_toArray, List.map_cons, List.map_nil]); first | done | rfl | (simp only [List.length_drop, List.length_take]; rfl)) ?_; (with_reducible refine (shape_Cut.calls a0 a1 t717 _ A6.out).mono ?_); rintro e w' ⟨rfl, ⟨nd, rfl⟩⟩; refine ⟨_, rfl, ?_⟩) | ((with_reducible refine gate_callee (f := 42) rfl ?_); refine goesL_ (some 16) rfl rfl Try.func42 (by kernel_rfl) rfl #[.int .i64 a0, .int .u64 a2] rfl (by (try simp only [List.map_toArray, List.map_cons, List.map_nil]); first | done | rfl | (simp only [List.length_drop, List.length_take]; rfl)) ?_; (with_reducible refine (shape_Cut.calls a0 a2 t718 _ A7.out).mono ?_); rintro e w' ⟨rfl, ⟨nd, rfl⟩⟩; refine ⟨_, rfl, ?_⟩) | ((with_reducible refine gate_callee (f := 153) rfl ?_); refine goesL_ (some 19) rfl rfl Try.func153 (by kernel_rfl) rfl #[.int .i64 a0] rfl (by (try simp only [List.map_toArray, List.map_cons, List.map_nil]); first | done | rfl | (simp only [List.length_drop, List.length_take]; rfl)) ?_; (with_reducible refine (order_known.calls a0 false _ A8.out).mono ?_); rintro e w' ⟨rfl, ⟨nd, rfl⟩⟩; refine ⟨_, rfl, ?_⟩))
    go_ret
    exact ⟨by first | rfl | (simp [errW_none, errW_some] <;> rfl) | (simp [*, errW_none, errW_some] <;> rfl), by repeat (first | (with_reducible first | exact HB.out | apply below_alloc | apply pw_below_drewN | apply below_drew1) | exact HB.out)⟩

end Go.Proofs.Ytmjfenbbgfohlaa.PA

namespace Go.Proofs.Ytmjfenbbgfohlaa.PA
open Go.RowKit Go.Proofs.YtmjfenbbgfohlaaW.PrintWords Go.Proofs.YtmjfenbbgfohlaaW.PrintLast Go.Proofs.YtmjfenbbgfohlaaW.PrintMore
attribute [local go_sem] max2_int min2_int max_two min_two max_three min_three max_four min_four   -- for this text's walks alone
set_option linter.unusedVariables false
set_option linter.unusedSimpArgs false

/-! ### order_Max: function 95 -/
def order_Max.f (k : Nat) (a0 : Int) (a1 : Int) (a2 : Int) : Option (Int) := (order_Gt.f k a0 a1 a2).bind fun t738 => ((order_pick.f k a0 a1 a2 false t738).bind fun t739 => (some t739))
theorem order_Max.mono : ∀ a0 a1 a2 k, LeO (order_Max.f k a0 a1 a2) (order_Max.f (k + 1) a0 a1 a2) := by
  intro a0 a1 a2 k
  unfold order_Max.f
  repeat' first
      | (with_reducible exact order_Gt.mono _ _ _ _)
      | (with_reducible exact order_pick.mono _ _ _ _ _ _)
      | (with_reducible exact LeO.refl _)
      | (with_reducible exact LeO.none _)
      | (with_reducible refine LeO.ite ?_ ?_)
      | (with_reducible refine LeO.bind ?_ (fun _ => ?_))
      | exact order_Gt.mono _ _ _ _
      | exact order_pick.mono _ _ _ _ _ _
      | exact LeO.none _
      | refine LeO.ite ?_ ?_
      | refine LeO.bind ?_ (fun _ => ?_)
set_option maxHeartbeats 8000000 in
set_option maxRecDepth 100000 in
theorem order_Max.calls (k : Nat) (a0 : Int) (a1 : Int) (a2 : Int) (r : Int) (w : World) (h : order_Max.f k a0 a1 a2 = some r) :
    Calls Try.prog 95 #[.int .i64 a0, .int .u64 a1, .int .u64 a2] w fun e w' => e = .returned (.int .u64 r) ∧ Below w.heap.size w w' := by
  have HB := Aside0.mk (Below.refl w.heap.size w)
  have H : ((order_Gt.f k a0 a1 a2).bind fun t738 => ((order_pick.f k a0 a1 a2 false t738).bind fun t739 => (some t739))) = some r := h
  clear h
  replace H := Option.bind_eq_some_iff.mp H
  obtain ⟨t738, A40, H⟩ := H
  replace H : ((order_pick.f k a0 a1 a2 false t738).bind fun t739 => (some t739)) = some r := H
  have A4 := Aside0.mk A40
  clear A40
  replace H := Option.bind_eq_some_iff.mp H
  obtain ⟨t739, A50, H⟩ := H
  replace H : (some t739) = some r := H
  have A5 := Aside0.mk A50
  clear A50
  obtain rfl := Option.some.inj H
  go_enter Try.func95, Try.ntmps95
  go_wp2_with (first | ((with_reducible refine gate_callee (f := 103) rfl ?_); refine goesL_ (some 13) rfl rfl Try.func103 (by kernel_rfl) rfl #[.int .i64 a0, .int .u64 a1, .int .u64 a2] rfl (by (try simp only [List.map_toArray, List.map_cons, List.map_nil]); first | done | rfl | (simp only [List.length_drop, List.length_take]; rfl)) ?_; (with_reducible refine (order_Gt.calls k a0 a1 a2 t738 _ A4.out).mono ?_); rintro e w6 ⟨rfl, hb⟩; refine ⟨_, rfl, ?_⟩; have n0_ := Aside0.mk (below_step (by repeat (first | (with_reducible first | exact HB.out | apply below_alloc | apply pw_below_drewN | apply below_drew1) | exact HB.out)) hb); clear HB; have HB := n0_; clear n0_; (try clear hb); (try clear hb2); (try clear hk); (try clear hi)) | ((with_reducible refine gate_callee (f := 152) rfl ?_); refine goesL_ (some 14) rfl rfl Try.func152 (by kernel_rfl) rfl #[.int .i64 a0, .int .u64 a1, .int .u64 a2, .bool false, .bool t738] rfl (by (try simp only [List.map_toArray, List.map_cons, List.map_nil]); first | done | rfl | (simp only [List.length_drop, List.length_take]; rfl)) ?_; (with_reducible refine (order_pick.calls k a0 a1 a2 false t738 t739 _ A5.out).mono ?_); rintro e w7 ⟨rfl, hb⟩; refine ⟨_, rfl, ?_⟩; have n0_ := Aside0.mk (below_step (by repeat (first | (with_reducible first | exact HB.out | apply below_alloc | apply pw_below_drewN | apply below_drew1) | exact HB.out)) hb); clear HB; have HB := n0_; clear n0_; (try clear hb); (try clear hb2); (try clear hk); (try clear hi)))
  go_ret
  exact ⟨by first | rfl | (simp [errW_none, errW_some] <;> rfl) | (simp [*, errW_none, errW_some] <;> rfl), by repeat (first | (with_reducible first | exact HB.out | apply below_alloc | apply pw_below_drewN | apply below_drew1) | exact HB.out)⟩

end Go.Proofs.Ytmjfenbbgfohlaa.PA

namespace Go.Proofs.Ytmjfenbbgfohlaa.PA
open Go.RowKit Go.Proofs.YtmjfenbbgfohlaaW.PrintWords Go.Proofs.YtmjfenbbgfohlaaW.PrintLast Go.Proofs.YtmjfenbbgfohlaaW.PrintMore
attribute [local go_sem] max2_int min2_int max_two min_two max_three min_three max_four min_four   -- for this text's walks alone
set_option linter.unusedVariables false
set_option linter.unusedSimpArgs false

/-! ### order_Min: function 94 -/
def order_Min.f (k : Nat) (a0 : Int) (a1 : Int) (a2 : Int) : Option (Int) := (order_Lt.f k a0 a1 a2).bind fun t728 => ((order_pick.f k a0 a1 a2 true t728).bind fun t729 => (some t729))
theorem order_Min.mono : ∀ a0 a1 a2 k, LeO (order_Min.f k a0 a1 a2) (order_Min.f (k + 1) a0 a1 a2) := by
  intro a0 a1 a2 k
  unfold order_Min.f
  repeat' first
      | (with_reducible exact order_Lt.mono _ _ _ _)
      | (with_reducible exact order_pick.mono _ _ _ _ _ _)
      | (with_reducible exact LeO.refl _)
      | (with_reducible exact LeO.none _)
      | (with_reducible refine LeO.ite ?_ ?_)
      | (with_reducible refine LeO.bind ?_ (fun _ => ?_))
      | exact order_Lt.mono _ _ _ _
      | exact order_pick.mono _ _ _ _ _ _
      | exact LeO.none _
      | refine LeO.ite ?_ ?_
      | refine LeO.bind ?_ (fun _ => ?_)
set_option maxHeartbeats 8000000 in
set_option maxRecDepth 100000 in
theorem order_Min.calls (k : Nat) (a0 : Int) (a1 : Int) (a2 : Int) (r : Int) (w : World) (h : order_Min.f k a0 a1 a2 = some r) :
    Calls Try.prog 94 #[.int .i64 a0, .int .u64 a1, .int .u64 a2] w fun e w' => e = .returned (.int .u64 r) ∧ Below w.heap.size w w' := by
  have HB := Aside0.mk (Below.refl w.heap.size w)
  have H : ((order_Lt.f k a0 a1 a2).bind fun t728 => ((order_pick.f k a0 a1 a2 true t728).bind fun t729 => (some t729))) = some r := h
  clear h
  replace H := Option.bind_eq_some_iff.mp H
  obtain ⟨t728, A40, H⟩ := H
  replace H : ((order_pick.f k a0 a1 a2 true t728).bind fun t729 => (some t729)) = some r := H
  have A4 := Aside0.mk A40
  clear A40
  replace H := Option.bind_eq_some_iff.mp H
  obtain ⟨t729, A50, H⟩ := H
  replace H : (some t729) = some r := H
  have A5 := Aside0.mk A50
  clear A50
  obtain rfl := Option.some.inj H
  go_enter Try.func94, Try.ntmps94
  go_wp2_with (first | ((with_reducible refine gate_callee (f := 102) rfl ?_); refine goesL_ (some 13) rfl rfl Try.func102 (by kernel_rfl) rfl #[.int .i64 a0, .int .u64 a1, .int .u64 a2] rfl (by (try simp only [List.map_toArray, List.map_cons, List.map_nil]); first | done | rfl | (simp only [List.length_drop, List.length_take]; rfl)) ?_; (with_reducible refine (order_Lt.calls k a0 a1 a2 t728 _ A4.out).mono ?_); rintro e w6 ⟨rfl, hb⟩; refine ⟨_, rfl, ?_⟩; have n0_ := Aside0.mk (below_step (by repeat (first | (with_reducible first | exact HB.out | apply below_alloc | apply pw_below_drewN | apply below_drew1) | exact HB.out)) hb); clear HB; have HB := n0_; clear n0_; (try clear hb); (try clear hb2); (try clear hk); (try clear hi)) | ((with_reducible refine gate_callee (f := 152) rfl ?_); refine goesL_ (some 14) rfl rfl Try.func152 (by kernel_rfl) rfl #[.int .i64 a0, .int .u64 a1, .int .u64 a2, .bool true, .bool t728] rfl (by (try simp only [List.map_toArray, List.map_cons, List.map_nil]); first | done | rfl | (simp only [List.length_drop, List.length_take]; rfl)) ?_; (with_reducible refine (order_pick.calls k a0 a1 a2 true t728 t729 _ A5.out).mono ?_); rintro e w7 ⟨rfl, hb⟩; refine ⟨_, rfl, ?_⟩; have n0_ := Aside0.mk (below_step (by repeat (first | (with_reducible first | exact HB.out | apply below_alloc | apply pw_below_drewN | apply below_drew1) | exact HB.out)) hb); clear HB; have HB := n0_; clear n0_; (try clear hb); (try clear hb2); (try clear hk); (try clear hi)))
  go_ret
  exact ⟨by first | rfl | (simp [errW_none, errW_some] <;> rfl) | (simp [*, errW_none, errW_some] <;> rfl), by repeat (first | (with_reducible first | exact HB.out | apply below_alloc | apply pw_below_drewN | apply below_drew1) | exact HB.out)⟩

end Go.Proofs.Ytmjfenbbgfohlaa.PA

namespace Go.Proofs.Ytmjfenbbgfohlaa.PA
open Go.RowKit Go.Proofs.YtmjfenbbgfohlaaW.PrintWords Go.Proofs.YtmjfenbbgfohlaaW.PrintLast Go.Proofs.YtmjfenbbgfohlaaW.PrintMore
attribute [local go_sem] max2_int min2_int max_two min_two max_three min_three max_four min_four   -- for this text's walks alone
set_option linter.unusedVariables false
set_option linter.unusedSimpArgs false

/-! ### order_Ne: function 101 -/
def order_Ne.f (k : Nat) (a0 : Int) (a1 : Int) (a2 : Int) : Option (Bool) := (order_known.f a0).bind fun t730 => (if t730 = true then ((order_Eq.f k a0 a1 a2).bind fun t731 => (some (!t731))) else (some false))
theorem order_Ne.mono : ∀ a0 a1 a2 k, LeO (order_Ne.f k a0 a1 a2) (order_Ne.f (k + 1) a0 a1 a2) := by
  intro a0 a1 a2 k
  unfold order_Ne.f
  repeat' first
      | (with_reducible exact order_Eq.mono _ _ _ _)
      | (with_reducible exact LeO.refl _)
      | (with_reducible exact LeO.none _)
      | (with_reducible refine LeO.ite ?_ ?_)
      | (with_reducible refine LeO.bind ?_ (fun _ => ?_))
      | exact order_Eq.mono _ _ _ _
      | exact LeO.none _
      | refine LeO.ite ?_ ?_
      | refine LeO.bind ?_ (fun _ => ?_)
set_option maxHeartbeats 8000000 in
set_option maxRecDepth 100000 in
theorem order_Ne.calls (k : Nat) (a0 : Int) (a1 : Int) (a2 : Int) (r : Bool) (w : World) (h : order_Ne.f k a0 a1 a2 = some r) :
    Calls Try.prog 101 #[.int .i64 a0, .int .u64 a1, .int .u64 a2] w fun e w' => e = .returned (.bool r) ∧ Below w.heap.size w w' := by
  have HB := Aside0.mk (Below.refl w.heap.size w)
  have H : ((order_known.f a0).bind fun t730 => (if t730 = true then ((order_Eq.f k a0 a1 a2).bind fun t731 => (some (!t731))) else (some false))) = some r := h
  clear h
  replace H := Option.bind_eq_some_iff.mp H
  obtain ⟨t730, A40, H⟩ := H
  replace H : (if t730 = true then ((order_Eq.f k a0 a1 a2).bind fun t731 => (some (!t731))) else (some false)) = some r := H
  have A4 := Aside0.mk A40
  clear A40
  by_cases c5 : t730 = true
  · subst c5
    have H1 : ((order_Eq.f k a0 a1 a2).bind fun t731 => (some (!t731))) = some r := by rw [if_pos rfl] at H; exact H
    clear H
    have H := H1
    clear H1
    replace H := Option.bind_eq_some_iff.mp H
    obtain ⟨t731, A60, H⟩ := H
    replace H : (some (!t731)) = some r := H
    have A6 := Aside0.mk A60
    clear A60
    obtain rfl := Option.some.inj H
    go_enter Try.func101, Try.ntmps101
    go_wp2_with (first | ((with_reducible refine gate_callee (f := 153) rfl ?_); refine goesL_ (some 8) rfl rfl Try.func153 (by kernel_rfl) rfl #[.int .i64 a0] rfl (by (try simp only [List.map_toArray, List.map_cons, List.map_nil]); first | done | rfl | (simp only [List.length_drop, List.length_take]; rfl)) ?_; (with_reducible refine (order_known.calls a0 true _ A4.out).mono ?_); rintro e w' ⟨rfl, ⟨nd, rfl⟩⟩; refine ⟨_, rfl, ?_⟩) | (go_at_call 100; (with_reducible refine (order_Eq.calls k a0 a1 a2 t731 _ A6.out).mono ?_); rintro e w7 ⟨rfl, hb⟩; have n0_ := Aside0.mk (below_step (by repeat (first | (with_reducible first | exact HB.out | apply below_alloc | apply pw_below_drewN | apply below_drew1) | exact HB.out)) hb); clear HB; have HB := n0_; clear n0_; (try clear hb); (try clear hb2); (try clear hk); (try clear hi)))
    go_ret
    exact ⟨by first | rfl | (simp [errW_none, errW_some] <;> rfl) | (simp [*, errW_none, errW_some] <;> rfl), by repeat (first | (with_reducible first | exact HB.out | apply below_alloc | apply pw_below_drewN | apply below_drew1) | exact HB.out)⟩
  · replace c5 := Bool.eq_false_iff.mpr c5
    subst c5
    have H1 : (some false) = some r := by rw [if_neg (show ¬ (false = true) by decide)] at H; exact H
    clear H
    have H := H1
    clear H1
    obtain rfl := Option.some.inj H
    go_enter Try.func101, Try.ntmps101
    go_wp2_with (first | ((with_reducible refine gate_callee (f := 153) rfl ?_); refine goesL_ (some 8) rfl rfl Try.func153 (by kernel_rfl) rfl #[.int .i64 a0] rfl (by (try simp only [List.map_toArray, List.map_cons, List.map_nil]); first | done | rfl | (simp only [List.length_drop, List.length_take]; rfl)) ?_; (with_reducible refine (order_known.calls a0 false _ A4.out).mono ?_); rintro e w' ⟨rfl, ⟨nd, rfl⟩⟩; refine ⟨_, rfl, ?_⟩))
    go_ret
    exact ⟨by first | rfl | (simp [errW_none, errW_some] <;> rfl) | (simp [*, errW_none, errW_some] <;> rfl), by repeat (first | (with_reducible first | exact HB.out | apply below_alloc | apply pw_below_drewN | apply below_drew1) | exact HB.out)⟩

end Go.Proofs.Ytmjfenbbgfohlaa.PA

namespace Go.Proofs.Ytmjfenbbgfohlaa.PA
open Go.RowKit Go.Proofs.YtmjfenbbgfohlaaW.PrintWords Go.Proofs.YtmjfenbbgfohlaaW.PrintLast Go.Proofs.YtmjfenbbgfohlaaW.PrintMore
attribute [local go_sem] max2_int min2_int max_two min_two max_three min_three max_four min_four   -- for this text's walks alone
set_option linter.unusedVariables false
set_option linter.unusedSimpArgs false

/-! ### trunnionlaw08_awake: function 93 -/
def trunnionlaw08_awake.f (k : Nat)  : Option (Bool) := (shape_Nan.f 64).bind fun t733 => ((order_Min.f k 64 0 9223372036854775808).bind fun t734 => (if t734 = 9223372036854775808 then (if t733 = 0 then (some false) else ((order_Lt.f k 64 t733 4607182418800017408).bind fun t735 => (if t735 = true then (some false) else ((order_Ne.f k 64 t733 t733).bind fun t736 => (if t736 = true then ((order_Gt.f k 64 4607182418800017408 9223372036854775808).bind fun t737 => (some t737)) else (some false)))))) else (some false)))
theorem trunnionlaw08_awake.mono : ∀ k, LeO (trunnionlaw08_awake.f k ) (trunnionlaw08_awake.f (k + 1) ) := by
  intro  k
  unfold trunnionlaw08_awake.f
  repeat' first
      | (with_reducible exact order_Gt.mono _ _ _ _)
      | (with_reducible exact order_Lt.mono _ _ _ _)
      | (with_reducible exact order_Min.mono _ _ _ _)
      | (with_reducible exact order_Ne.mono _ _ _ _)
      | (with_reducible exact LeO.refl _)
      | (with_reducible exact LeO.none _)
      | (with_reducible refine LeO.ite ?_ ?_)
      | (with_reducible refine LeO.bind ?_ (fun _ => ?_))
      | exact order_Gt.mono _ _ _ _
      | exact order_Lt.mono _ _ _ _
      | exact order_Min.mono _ _ _ _
      | exact order_Ne.mono _ _ _ _
      | exact LeO.none _
      | refine LeO.ite ?_ ?_
      | refine LeO.bind ?_ (fun _ => ?_)
set_option maxHeartbeats 8000000 in
set_option maxRecDepth 100000 in
theorem trunnionlaw08_awake.calls (k : Nat)  (r : Bool) (w : World) (h : trunnionlaw08_awake.f k  = some r) :
    Calls Try.prog 93 #[] w fun e w' => e = .returned (.bool r) ∧ Below w.heap.size w w' := by
  have HB := Aside0.mk (Below.refl w.heap.size w)
  have H : ((shape_Nan.f 64).bind fun t733 => ((order_Min.f k 64 0 9223372036854775808).bind fun t734 => (if t734 = 9223372036854775808 then (if t733 = 0 then (some false) else ((order_Lt.f k 64 t733 4607182418800017408).bind fun t735 => (if t735 = true then (some false) else ((order_Ne.f k 64 t733 t733).bind fun t736 => (if t736 = true then ((order_Gt.f k 64 4607182418800017408 9223372036854775808).bind fun t737 => (some t737)) else (some false)))))) else (some false)))) = some r := h
  clear h
  replace H := Option.bind_eq_some_iff.mp H
  obtain ⟨t733, A10, H⟩ := H
  replace H : ((order_Min.f k 64 0 9223372036854775808).bind fun t734 => (if t734 = 9223372036854775808 then (if t733 = 0 then (some false) else ((order_Lt.f k 64 t733 4607182418800017408).bind fun t735 => (if t735 = true then (some false) else ((order_Ne.f k 64 t733 t733).bind fun t736 => (if t736 = true then ((order_Gt.f k 64 4607182418800017408 9223372036854775808).bind fun t737 => (some t737)) else (some false)))))) else (some false))) = some r := H
  have A1 := Aside0.mk A10
  clear A10
  replace H := Option.bind_eq_some_iff.mp H
  obtain ⟨t734, A20, H⟩ := H
  replace H : (if t734 = 9223372036854775808 then (if t733 = 0 then (some false) else ((order_Lt.f k 64 t733 4607182418800017408).bind fun t735 => (if t735 = true then (some false) else ((order_Ne.f k 64 t733 t733).bind fun t736 => (if t736 = true then ((order_Gt.f k 64 4607182418800017408 9223372036854775808).bind fun t737 => (some t737)) else (some false)))))) else (some false)) = some r := H
  have A2 := Aside0.mk A20
  clear A20
  by_cases c3 : t734 = 9223372036854775808
  · rw [if_pos c3] at H
    have c3b0 : (t734 == 9223372036854775808) = true := beq_iff_eq.mpr c3
    have c3b1 : (t734 != 9223372036854775808) = false := bne_eq_false_iff_eq.mpr c3
    clear c3
    by_cases c4 : t733 = 0
    · rw [if_pos c4] at H
      have c4b0 : (t733 == 0) = true := beq_iff_eq.mpr c4
      have c4b1 : (t733 != 0) = false := bne_eq_false_iff_eq.mpr c4
      clear c4
      obtain rfl := Option.some.inj H
      go_enter Try.func93, Try.ntmps93
      go_wp2_with (first | ((with_reducible refine gate_callee (f := 60) rfl ?_); refine goesL_ (some 4) rfl rfl Try.func60 (by kernel_rfl) rfl #[.int .i64 64] rfl (by (try simp only [List.map_toArray, List.map_cons, List.map_nil]); first | done | rfl | (simp only [List.length_drop, List.length_take]; rfl)) ?_; (with_reducible refine (shape_Nan.calls 64 t733 _ A1.out).mono ?_); rintro e w5 ⟨rfl, hb⟩; refine ⟨_, rfl, ?_⟩; have n0_ := Aside0.mk (below_step (by repeat (first | (with_reducible first | exact HB.out | apply below_alloc | apply pw_below_drewN | apply below_drew1) | exact HB.out)) hb); clear HB; have HB := n0_; clear n0_; (try clear hb); (try clear hb2); (try clear hk); (try clear hi)) | ((with_reducible refine gate_callee (f := 94) rfl ?_); refine goesL_ (some 6) rfl rfl Try.func94 (by kernel_rfl) rfl #[.int .i64 64, .int .u64 0, .int .u64 9223372036854775808] rfl (by (try simp only [List.map_toArray, List.map_cons, List.map_nil]); first | done | rfl | (simp only [List.length_drop, List.length_take]; rfl)) ?_; (with_reducible refine (order_Min.calls k 64 0 9223372036854775808 t734 _ A2.out).mono ?_); rintro e w6 ⟨rfl, hb⟩; refine ⟨_, rfl, ?_⟩; have n0_ := Aside0.mk (below_step (by repeat (first | (with_reducible first | exact HB.out | apply below_alloc | apply pw_below_drewN | apply below_drew1) | exact HB.out)) hb); clear HB; have HB := n0_; clear n0_; (try clear hb); (try clear hb2); (try clear hk); (try clear hi)))
      go_ret
      exact ⟨by first | rfl | (simp [errW_none, errW_some] <;> rfl) | (simp [*, errW_none, errW_some] <;> rfl), by repeat (first | (with_reducible first | exact HB.out | apply below_alloc | apply pw_below_drewN | apply below_drew1) | exact HB.out)⟩
    · rw [if_neg c4] at H
      have c4b0 : (t733 == 0) = false := beq_eq_false_iff_ne.mpr c4
      have c4b1 : (t733 != 0) = true := bne_iff_ne.mpr c4
      replace H := Option.bind_eq_some_iff.mp H
      obtain ⟨t735, A70, H⟩ := H
      replace H : (if t735 = true then (some false) else ((order_Ne.f k 64 t733 t733).bind fun t736 => (if t736 = true then ((order_Gt.f k 64 4607182418800017408 9223372036854775808).bind fun t737 => (some t737)) else (some false)))) = some r := H
      have A7 := Aside0.mk A70
      clear A70
      by_cases c8 : t735 = true
      · subst c8
        have H1 : (some false) = some r := by rw [if_pos rfl] at H; exact H
        clear H
        have H := H1
        clear H1
        obtain rfl := Option.some.inj H
        go_enter Try.func93, Try.ntmps93
        go_wp2_with (first | ((with_reducible refine gate_callee (f := 60) rfl ?_); refine goesL_ (some 4) rfl rfl Try.func60 (by kernel_rfl) rfl #[.int .i64 64] rfl (by (try simp only [List.map_toArray, List.map_cons, List.map_nil]); first | done | rfl | (simp only [List.length_drop, List.length_take]; rfl)) ?_; (with_reducible refine (shape_Nan.calls 64 t733 _ A1.out).mono ?_); rintro e w9 ⟨rfl, hb⟩; refine ⟨_, rfl, ?_⟩; have n0_ := Aside0.mk (below_step (by repeat (first | (with_reducible first | exact HB.out | apply below_alloc | apply pw_below_drewN | apply below_drew1) | exact HB.out)) hb); clear HB; have HB := n0_; clear n0_; (try clear hb); (try clear hb2); (try clear hk); (try clear hi)) | ((with_reducible refine gate_callee (f := 94) rfl ?_); refine goesL_ (some 6) rfl rfl Try.func94 (by kernel_rfl) rfl #[.int .i64 64, .int .u64 0, .int .u64 9223372036854775808] rfl (by (try simp only [List.map_toArray, List.map_cons, List.map_nil]); first | done | rfl | (simp only [List.length_drop, List.length_take]; rfl)) ?_; (with_reducible refine (order_Min.calls k 64 0 9223372036854775808 t734 _ A2.out).mono ?_); rintro e w10 ⟨rfl, hb⟩; refine ⟨_, rfl, ?_⟩; have n0_ := Aside0.mk (below_step (by repeat (first | (with_reducible first | exact HB.out | apply below_alloc | apply pw_below_drewN | apply below_drew1) | exact HB.out)) hb); clear HB; have HB := n0_; clear n0_; (try clear hb); (try clear hb2); (try clear hk); (try clear hi)) | (go_at_call 102; (with_reducible refine (order_Lt.calls k 64 t733 4607182418800017408 true _ A7.out).mono ?_); rintro e w11 ⟨rfl, hb⟩; have n0_ := Aside0.mk (below_step (by repeat (first | (with_reducible first | exact HB.out | apply below_alloc | apply pw_below_drewN | apply below_drew1) | exact HB.out)) hb); clear HB; have HB := n0_; clear n0_; (try clear hb); (try clear hb2); (try clear hk); (try clear hi)))
        go_ret
        exact ⟨by first | rfl | (simp [errW_none, errW_some] <;> rfl) | (simp [*, errW_none, errW_some] <;> rfl), by repeat (first | (with_reducible first | exact HB.out | apply below_alloc | apply pw_below_drewN | apply below_drew1) | exact HB.out)⟩
      · replace c8 := Bool.eq_false_iff.mpr c8
        subst c8
        have H1 : ((order_Ne.f k 64 t733 t733).bind fun t736 => (if t736 = true then ((order_Gt.f k 64 4607182418800017408 9223372036854775808).bind fun t737 => (some t737)) else (some false))) = some r := by rw [if_neg (show ¬ (false = true) by decide)] at H; exact H
        clear H
        have H := H1
        clear H1
        replace H := Option.bind_eq_some_iff.mp H
        obtain ⟨t736, A120, H⟩ := H
        replace H : (if t736 = true then ((order_Gt.f k 64 4607182418800017408 9223372036854775808).bind fun t737 => (some t737)) else (some false)) = some r := H
        have A12 := Aside0.mk A120
        clear A120
        by_cases c13 : t736 = true
        · subst c13
          have H1 : ((order_Gt.f k 64 4607182418800017408 9223372036854775808).bind fun t737 => (some t737)) = some r := by rw [if_pos rfl] at H; exact H
          clear H
          have H := H1
          clear H1
          replace H := Option.bind_eq_some_iff.mp H
          obtain ⟨t737, A140, H⟩ := H
          replace H : (some t737) = some r := H
          have A14 := Aside0.mk A140
          clear A140
          obtain rfl := Option.some.inj H
          go_enter Try.func93, Try.ntmps93
          go_wp2_with (first | ((with_reducible refine gate_callee (f := 60) rfl ?_); refine goesL_ (some 4) rfl rfl Try.func60 (by kernel_rfl) rfl #[.int .i64 64] rfl (by (try simp only [List.map_toArray, List.map_cons, List.map_nil]); first | done | rfl | (simp only [List.length_drop, List.length_take]; rfl)) ?_; (with_reducible refine (shape_Nan.calls 64 t733 _ A1.out).mono ?_); rintro e w15 ⟨rfl, hb⟩; refine ⟨_, rfl, ?_⟩; have n0_ := Aside0.mk (below_step (by repeat (first | (with_reducible first | exact HB.out | apply below_alloc | apply pw_below_drewN | apply below_drew1) | exact HB.out)) hb); clear HB; have HB := n0_; clear n0_; (try clear hb); (try clear hb2); (try clear hk); (try clear hi)) | ((with_reducible refine gate_callee (f := 94) rfl ?_); refine goesL_ (some 6) rfl rfl Try.func94 (by kernel_rfl) rfl #[.int .i64 64, .int .u64 0, .int .u64 9223372036854775808] rfl (by (try simp only [List.map_toArray, List.map_cons, List.map_nil]); first | done | rfl | (simp only [List.length_drop, List.length_take]; rfl)) ?_; (with_reducible refine (order_Min.calls k 64 0 9223372036854775808 t734 _ A2.out).mono ?_); rintro e w16 ⟨rfl, hb⟩; refine ⟨_, rfl, ?_⟩; have n0_ := Aside0.mk (below_step (by repeat (first | (with_reducible first | exact HB.out | apply below_alloc | apply pw_below_drewN | apply below_drew1) | exact HB.out)) hb); clear HB; have HB := n0_; clear n0_; (try clear hb); (try clear hb2); (try clear hk); (try clear hi)) | (go_at_call 102; (with_reducible refine (order_Lt.calls k 64 t733 4607182418800017408 false _ A7.out).mono ?_); rintro e w17 ⟨rfl, hb⟩; have n0_ := Aside0.mk (below_step (by repeat (first | (with_reducible first | exact HB.out | apply below_alloc | apply pw_below_drewN | apply below_drew1) | exact HB.out)) hb); clear HB; have HB := n0_; clear n0_; (try clear hb); (try clear hb2); (try clear hk); (try clear hi)) | (go_at_call 101; (with_reducible refine (order_Ne.calls k 64 t733 t733 true _ A12.out).mono ?_); rintro e w18 ⟨rfl, hb⟩; have n0_ := Aside0.mk (below_step (by repeat (first | (with_reducible first | exact HB.out | apply below_alloc | apply pw_below_drewN | apply below_drew1) | exact HB.out)) hb); clear HB; have HB := n0_; clear n0_; (try clear hb); (try clear hb2); (try clear hk); (try clear hi)) | (go_at_call 103; (with_reducible refine (order_Gt.calls k 64 4607182418800017408 9223372036854775808 t737 _ A14.out).mono ?_); rintro e w19 ⟨rfl, hb⟩; have n0_ := Aside0.mk (below_step (by repeat (first | (with_reducible first | exact HB.out | apply below_alloc | apply pw_below_drewN | apply below_drew1) | exact HB.out)) hb); clear HB; have HB := n0_; clear n0_; (try clear hb); (try clear hb2); (try clear hk); (try clear hi)))
          go_ret
          exact ⟨by first | rfl | (simp [errW_none, errW_some] <;> rfl) | (simp [*, errW_none, errW_some] <;> rfl), by repeat (first | (with_reducible first | exact HB.out | apply below_alloc | apply pw_below_drewN | apply below_drew1) | exact HB.out)⟩
        · replace c13 := Bool.eq_false_iff.mpr c13
          subst c13
          have H1 : (some false) = some r := by rw [if_neg (show ¬ (false = true) by decide)] at H; exact H
          clear H
          have H := H1
          clear H1
          obtain rfl := Option.some.inj H
          go_enter Try.func93, Try.ntmps93
          go_wp2_with (first | ((with_reducible refine gate_callee (f := 60) rfl ?_); refine goesL_ (some 4) rfl rfl Try.func60 (by kernel_rfl) rfl #[.int .i64 64] rfl (by (try simp only [List.map_toArray, List.map_cons, List.map_nil]); first | done | rfl | (simp only [List.length_drop, List.length_take]; rfl)) ?_; (with_reducible refine (shape_Nan.calls 64 t733 _ A1.out).mono ?_); rintro e w20 ⟨rfl, hb⟩; refine ⟨_, rfl, ?_⟩; have n0_ := Aside0.mk (below_step (by repeat (first | (with_reducible first | exact HB.out | apply below_alloc | apply pw_below_drewN | apply below_drew1) | exact HB.out)) hb); clear HB; have HB := n0_; clear n0_; (try clear hb); (try clear hb2); (try clear hk); (try clear hi)) | ((with_reducible refine gate_callee (f := 94) rfl ?_); refine goesL_ (some 6) rfl rfl Try.func94 (by kernel_rfl) rfl #[.int .i64 64, .int .u64 0, .int .u64 9223372036854775808] rfl (by (try simp only [List.map_toArray, List.map_cons, List.map_nil]); first | done | rfl | (simp only [List.length_drop, List.length_take]; rfl)) ?_; (with_reducible refine (order_Min.calls k 64 0 9223372036854775808 t734 _ A2.out).mono ?_); rintro e w21 ⟨rfl, hb⟩; refine ⟨_, rfl, ?_⟩; have n0_ := Aside0.mk (below_step (by repeat (first | (with_reducible first | exact HB.out | apply below_alloc | apply pw_below_drewN | apply below_drew1) | exact HB.out)) hb); clear HB; have HB := n0_; clear n0_; (try clear hb); (try clear hb2); (try clear hk); (try clear hi)) | (go_at_call 102; (with_reducible refine (order_Lt.calls k 64 t733 4607182418800017408 false _ A7.out).mono ?_); rintro e w22 ⟨rfl, hb⟩; have n0_ := Aside0.mk (below_step (by repeat (first | (with_reducible first | exact HB.out | apply below_alloc | apply pw_below_drewN | apply below_drew1) | exact HB.out)) hb); clear HB; have HB := n0_; clear n0_; (try clear hb); (try clear hb2); (try clear hk); (try clear hi)) | (go_at_call 101; (with_reducible refine (order_Ne.calls k 64 t733 t733 false _ A12.out).mono ?_); rintro e w23 ⟨rfl, hb⟩; have n0_ := Aside0.mk (below_step (by repeat (first | (with_reducible first | exact HB.out | apply below_alloc | apply pw_below_drewN | apply below_drew1) | exact HB.out)) hb); clear HB; have HB := n0_; clear n0_; (try clear hb); (try clear hb2); (try clear hk); (try clear hi)))
          go_ret
          exact ⟨by first | rfl | (simp [errW_none, errW_some] <;> rfl) | (simp [*, errW_none, errW_some] <;> rfl), by repeat (first | (with_reducible first | exact HB.out | apply below_alloc | apply pw_below_drewN | apply below_drew1) | exact HB.out)⟩
  · rw [if_neg c3] at H
    have c3b0 : (t734 == 9223372036854775808) = false := beq_eq_false_iff_ne.mpr c3
    have c3b1 : (t734 != 9223372036854775808) = true := bne_iff_ne.mpr c3
    obtain rfl := Option.some.inj H
    go_enter Try.func93, Try.ntmps93
    go_wp2_with (first | ((with_reducible refine gate_callee (f := 60) rfl ?_); refine goesL_ (some 4) rfl rfl Try.func60 (by kernel_rfl) rfl #[.int .i64 64] rfl (by (try simp only [List.map_toArray, List.map_cons, List.map_nil]); first | done | rfl | (simp only [List.length_drop, List.length_take]; rfl)) ?_; (with_reducible refine (shape_Nan.calls 64 t733 _ A1.out).mono ?_); rintro e w24 ⟨rfl, hb⟩; refine ⟨_, rfl, ?_⟩; have n0_ := Aside0.mk (below_step (by repeat (first | (with_reducible first | exact HB.out | apply below_alloc | apply pw_below_drewN | apply below_drew1) | exact HB.out)) hb); clear HB; have HB := n0_; clear n0_; (try clear hb); (try clear hb2); (try clear hk); (try clear hi)) | ((with_reducible refine gate_callee (f := 94) rfl ?_); refine goesL_ (some 6) rfl rfl Try.func94 (by kernel_rfl) rfl #[.int .i64 64, .int .u64 0, .int .u64 9223372036854775808] rfl (by (try simp only [List.map_toArray, List.map_cons, List.map_nil]); first | done | rfl | (simp only [List.length_drop, List.length_take]; rfl)) ?_; (with_reducible refine (order_Min.calls k 64 0 9223372036854775808 t734 _ A2.out).mono ?_); rintro e w25 ⟨rfl, hb⟩; refine ⟨_, rfl, ?_⟩; have n0_ := Aside0.mk (below_step (by repeat (first | (with_reducible first | exact HB.out | apply below_alloc | apply pw_below_drewN | apply below_drew1) | exact HB.out)) hb); clear HB; have HB := n0_; clear n0_; (try clear hb); (try clear hb2); (try clear hk); (try clear hi)))
    go_ret
    exact ⟨by first | rfl | (simp [errW_none, errW_some] <;> rfl) | (simp [*, errW_none, errW_some] <;> rfl), by repeat (first | (with_reducible first | exact HB.out | apply below_alloc | apply pw_below_drewN | apply below_drew1) | exact HB.out)⟩

end Go.Proofs.Ytmjfenbbgfohlaa.PA

namespace Go.Proofs.Ytmjfenbbgfohlaa.PA
open Go.RowKit Go.Proofs.YtmjfenbbgfohlaaW.PrintWords Go.Proofs.YtmjfenbbgfohlaaW.PrintLast Go.Proofs.YtmjfenbbgfohlaaW.PrintMore
attribute [local go_sem] max2_int min2_int max_two min_two max_three min_three max_four min_four   -- for this text's walks alone
set_option linter.unusedVariables false
set_option linter.unusedSimpArgs false

/-! ### trunnionref02_Known: function 29 -/
def trunnionref02_Known.f (a0 : Int) : Option (Bool) := if a0 = 32 then (some true) else (some (a0 == 64))
set_option maxHeartbeats 8000000 in
set_option maxRecDepth 100000 in
theorem trunnionref02_Known.calls (a0 : Int) (r : Bool) (w : World) (h : trunnionref02_Known.f a0 = some r) :
    Calls Try.prog 29 #[.int .i64 a0] w fun e w' => e = .returned (.bool r) ∧ Drawn0 w w' := by
  have H : (if a0 = 32 then (some true) else (some (a0 == 64))) = some r := h
  clear h
  by_cases c2 : a0 = 32
  · rw [if_pos c2] at H
    have c2b0 : (a0 == 32) = true := beq_iff_eq.mpr c2
    have c2b1 : (a0 != 32) = false := bne_eq_false_iff_eq.mpr c2
    clear c2
    obtain rfl := Option.some.inj H
    go_enter Try.func29, Try.ntmps29
    go_wp2
    go_ret
    exact ⟨by first | rfl | (simp; done) | (simp [*]; done), by repeat (first | exact Drawn0.refl _ | apply Drawn0.step)⟩
  · rw [if_neg c2] at H
    have c2b0 : (a0 == 32) = false := beq_eq_false_iff_ne.mpr c2
    have c2b1 : (a0 != 32) = true := bne_iff_ne.mpr c2
    obtain rfl := Option.some.inj H
    go_enter Try.func29, Try.ntmps29
    go_wp2
    go_ret
    exact ⟨by first | rfl | (simp; done) | (simp [*]; done), by repeat (first | exact Drawn0.refl _ | apply Drawn0.step)⟩

end Go.Proofs.Ytmjfenbbgfohlaa.PA

namespace Go.Proofs.Ytmjfenbbgfohlaa.PA
open Go.RowKit Go.Proofs.YtmjfenbbgfohlaaW.PrintWords Go.Proofs.YtmjfenbbgfohlaaW.PrintLast Go.Proofs.YtmjfenbbgfohlaaW.PrintMore
attribute [local go_sem] max2_int min2_int max_two min_two max_three min_three max_four min_four   -- for this text's walks alone
set_option linter.unusedVariables false
set_option linter.unusedSimpArgs false

/-! ### trunnionlaw08_OrderChain: function 21 -/
def trunnionlaw08_OrderChain.j0 : Nat → Int → Bool → Int → Int → Int → Option (Bool)
  | 0, _, _, _, _, _ => none
  | k + 1, x0, x57, x857000, x857001, x857002 => if x57 = true then (some false) else ((order_Min.f k x0 x857000 x857001).bind fun t871 => ((order_Min.f k x0 t871 x857002).bind fun t872 => ((order_Min.f k x0 x857001 x857002).bind fun t873 => ((order_Min.f k x0 x857000 t873).bind fun t874 => (if t872 = t874 then ((order_Max.f k x0 x857000 x857001).bind fun t875 => ((order_Max.f k x0 t875 x857002).bind fun t876 => ((order_Max.f k x0 x857001 x857002).bind fun t877 => ((order_Max.f k x0 x857000 t877).bind fun t878 => (some (t876 == t878)))))) else (some false))))))
def trunnionlaw08_OrderChain.f (k : Nat) (a0 : Int) (a1_0 : Int) (a1_1 : Int) (a1_2 : Int) : Option (Bool) := (trunnionlaw08_awake.f k).bind fun t857 => (if t857 = true then ((trunnionref02_Known.f a0).bind fun t858 => (if t858 = true then ((order_Lt.f k a0 a1_0 a1_1).bind fun t859 => (if t859 = true then ((order_Lt.f k a0 a1_1 a1_2).bind fun t860 => (if t860 = true then ((order_Lt.f k a0 a1_0 a1_2).bind fun t861 => (if t861 = true then ((order_Le.f k a0 a1_0 a1_1).bind fun t862 => (if t862 = true then ((order_Le.f k a0 a1_1 a1_2).bind fun t863 => (if t863 = true then ((order_Le.f k a0 a1_0 a1_2).bind fun t864 => (trunnionlaw08_OrderChain.j0 k a0 (!t864) a1_0 a1_1 a1_2)) else (trunnionlaw08_OrderChain.j0 k a0 false a1_0 a1_1 a1_2))) else (trunnionlaw08_OrderChain.j0 k a0 false a1_0 a1_1 a1_2))) else (trunnionlaw08_OrderChain.j0 k a0 true a1_0 a1_1 a1_2))) else ((order_Le.f k a0 a1_0 a1_1).bind fun t865 => (if t865 = true then ((order_Le.f k a0 a1_1 a1_2).bind fun t866 => (if t866 = true then ((order_Le.f k a0 a1_0 a1_2).bind fun t867 => (trunnionlaw08_OrderChain.j0 k a0 (!t867) a1_0 a1_1 a1_2)) else (trunnionlaw08_OrderChain.j0 k a0 false a1_0 a1_1 a1_2))) else (trunnionlaw08_OrderChain.j0 k a0 false a1_0 a1_1 a1_2))))) else ((order_Le.f k a0 a1_0 a1_1).bind fun t868 => (if t868 = true then ((order_Le.f k a0 a1_1 a1_2).bind fun t869 => (if t869 = true then ((order_Le.f k a0 a1_0 a1_2).bind fun t870 => (trunnionlaw08_OrderChain.j0 k a0 (!t870) a1_0 a1_1 a1_2)) else (trunnionlaw08_OrderChain.j0 k a0 false a1_0 a1_1 a1_2))) else (trunnionlaw08_OrderChain.j0 k a0 false a1_0 a1_1 a1_2))))) else (some true))) else (some false))
theorem trunnionlaw08_OrderChain.mono_l : ∀ k, (∀ y0 y1 y2 y3 y4, LeO (trunnionlaw08_OrderChain.j0 k y0 y1 y2 y3 y4) (trunnionlaw08_OrderChain.j0 (k + 1) y0 y1 y2 y3 y4))
  | 0 => fun _ _ _ _ _ r h => by simp [trunnionlaw08_OrderChain.j0] at h
  | k + 1 => by
    have ih0 := trunnionlaw08_OrderChain.mono_l k
    · intro y0 y1 y2 y3 y4
      unfold trunnionlaw08_OrderChain.j0
      repeat' first
      | (with_reducible exact ih0 _ _ _ _ _)
      | (with_reducible exact order_Le.mono _ _ _ _)
      | (with_reducible exact order_Lt.mono _ _ _ _)
      | (with_reducible exact order_Max.mono _ _ _ _)
      | (with_reducible exact order_Min.mono _ _ _ _)
      | (with_reducible exact trunnionlaw08_awake.mono _)
      | (with_reducible exact LeO.refl _)
      | (with_reducible exact LeO.none _)
      | (with_reducible refine LeO.ite ?_ ?_)
      | (with_reducible refine LeO.bind ?_ (fun _ => ?_))
      | exact ih0 _ _ _ _ _
      | exact order_Le.mono _ _ _ _
      | exact order_Lt.mono _ _ _ _
      | exact order_Max.mono _ _ _ _
      | exact order_Min.mono _ _ _ _
      | exact trunnionlaw08_awake.mono _
      | exact LeO.none _
      | refine LeO.ite ?_ ?_
      | refine LeO.bind ?_ (fun _ => ?_)
theorem trunnionlaw08_OrderChain.mono : ∀ a0 a1 a2 a3 k, LeO (trunnionlaw08_OrderChain.f k a0 a1 a2 a3) (trunnionlaw08_OrderChain.f (k + 1) a0 a1 a2 a3) := by
  intro a0 a1 a2 a3 k
  have ih0 := trunnionlaw08_OrderChain.mono_l k
  unfold trunnionlaw08_OrderChain.f
  repeat' first
      | (with_reducible exact ih0 _ _ _ _ _)
      | (with_reducible exact order_Le.mono _ _ _ _)
      | (with_reducible exact order_Lt.mono _ _ _ _)
      | (with_reducible exact order_Max.mono _ _ _ _)
      | (with_reducible exact order_Min.mono _ _ _ _)
      | (with_reducible exact trunnionlaw08_awake.mono _)
      | (with_reducible exact LeO.refl _)
      | (with_reducible exact LeO.none _)
      | (with_reducible refine LeO.ite ?_ ?_)
      | (with_reducible refine LeO.bind ?_ (fun _ => ?_))
      | exact ih0 _ _ _ _ _
      | exact order_Le.mono _ _ _ _
      | exact order_Lt.mono _ _ _ _
      | exact order_Max.mono _ _ _ _
      | exact order_Min.mono _ _ _ _
      | exact trunnionlaw08_awake.mono _
      | exact LeO.none _
      | refine LeO.ite ?_ ?_
      | refine LeO.bind ?_ (fun _ => ?_)
def trunnionlaw08_OrderChain.T7 : Bool × List (List Nat × List Nat) := (true, [([], []), ([], []), ([], []), ([2], [2]), ([], []), ([4], [4]), ([1, 3, 5], [1, 3, 5]), ([], []), ([7], [7]), ([0, 6, 8, 6], [0, 6, 8]), ([], []), ([], []), ([11], [11]), ([], []), ([], []), ([14], [14]), ([], []), ([16], [16]), ([13, 15, 17, 9], [13, 15, 17]), ([10, 12, 18, 18], [10, 12, 18]), ([9, 19], [9, 19]), ([20, 19], [20]), ([21], [21]), ([21], [21]), ([21], [21]), ([24, 21], [21, 24]), ([21], [21]), ([26, 21], [21, 26]), ([23, 25, 27, 21, 21], [21, 23, 25, 27]), ([21], [21]), ([29, 21], [21, 29]), ([22, 28, 30, 28, 21], [21, 22, 28, 30]), ([21], [21]), ([21], [21]), ([33, 21], [21, 33]), ([21], [21]), ([21], [21]), ([36, 21], [21, 36]), ([21], [21]), ([38, 21], [21, 38]), ([35, 37, 39, 31, 21], [21, 35, 37, 39]), ([32, 34, 40, 40, 21], [21, 32, 34, 40]), ([31, 41, 21], [21, 31, 41]), ([21, 42], [21, 42]), ([43, 41, 0, 1, 2, 3, 4, 5, 6, 7, 8, 9, 10, 11, 12, 13, 14, 15, 16, 17, 18, 19, 20, 21, 22, 23, 24, 25, 26, 27, 28, 29, 30, 31, 32, 33, 34, 35, 36, 37, 38, 39, 40, 41, 42, 43], [43])])
def trunnionlaw08_OrderChain.B7 : List Nat := [0, 0, 0, 4, 0, 16, 62, 0, 128, 511, 0, 0, 2048, 0, 0, 16384, 0, 65536, 254975, 524287, 1048575, 2097151, 4194303, 4194303, 4194303, 20971519, 4194303, 71303167, 264241151, 4194303, 541065215, 2147483647, 4194303, 4194303, 8594128895, 4194303, 4194303, 68723671039, 4194303, 274882101247, 1069446856703, 2199023255551, 4398046511103, 8796093022207, 17592186044415]
theorem trunnionlaw08_OrderChain.tab7 : rtab .any (opsOf Try.f21 7) = trunnionlaw08_OrderChain.T7 := by kernel_rfl
theorem trunnionlaw08_OrderChain.bits7 : waitsOk trunnionlaw08_OrderChain.T7.2 trunnionlaw08_OrderChain.B7 = true := by kernel_rfl
set_option maxHeartbeats 8000000 in
set_option maxRecDepth 100000 in
theorem trunnionlaw08_OrderChain.calls (k : Nat) (a0 : Int) (a1_0 : Int) (a1_1 : Int) (a1_2 : Int) (r : Bool) (w : World) (h : trunnionlaw08_OrderChain.f k a0 a1_0 a1_1 a1_2 = some r) :
    Calls Try.prog 21 #[.int .i64 a0, .agg #[.int .u64 a1_0, .int .u64 a1_1, .int .u64 a1_2]] w fun e w' => e = .returned (.bool r) ∧ Below w.heap.size w w' := by
  have hu91 := Try.underlying91
  have HB := Aside0.mk (Below.refl w.heap.size w)
  have H : ((trunnionlaw08_awake.f k).bind fun t857 => (if t857 = true then ((trunnionref02_Known.f a0).bind fun t858 => (if t858 = true then ((order_Lt.f k a0 a1_0 a1_1).bind fun t859 => (if t859 = true then ((order_Lt.f k a0 a1_1 a1_2).bind fun t860 => (if t860 = true then ((order_Lt.f k a0 a1_0 a1_2).bind fun t861 => (if t861 = true then ((order_Le.f k a0 a1_0 a1_1).bind fun t862 => (if t862 = true then ((order_Le.f k a0 a1_1 a1_2).bind fun t863 => (if t863 = true then ((order_Le.f k a0 a1_0 a1_2).bind fun t864 => (trunnionlaw08_OrderChain.j0 k a0 (!t864) a1_0 a1_1 a1_2)) else (trunnionlaw08_OrderChain.j0 k a0 false a1_0 a1_1 a1_2))) else (trunnionlaw08_OrderChain.j0 k a0 false a1_0 a1_1 a1_2))) else (trunnionlaw08_OrderChain.j0 k a0 true a1_0 a1_1 a1_2))) else ((order_Le.f k a0 a1_0 a1_1).bind fun t865 => (if t865 = true then ((order_Le.f k a0 a1_1 a1_2).bind fun t866 => (if t866 = true then ((order_Le.f k a0 a1_0 a1_2).bind fun t867 => (trunnionlaw08_OrderChain.j0 k a0 (!t867) a1_0 a1_1 a1_2)) else (trunnionlaw08_OrderChain.j0 k a0 false a1_0 a1_1 a1_2))) else (trunnionlaw08_OrderChain.j0 k a0 false a1_0 a1_1 a1_2))))) else ((order_Le.f k a0 a1_0 a1_1).bind fun t868 => (if t868 = true then ((order_Le.f k a0 a1_1 a1_2).bind fun t869 => (if t869 = true then ((order_Le.f k a0 a1_0 a1_2).bind fun t870 => (trunnionlaw08_OrderChain.j0 k a0 (!t870) a1_0 a1_1 a1_2)) else (trunnionlaw08_OrderChain.j0 k a0 false a1_0 a1_1 a1_2))) else (trunnionlaw08_OrderChain.j0 k a0 false a1_0 a1_1 a1_2))))) else (some true))) else (some false))) = some r := h
  clear h
  replace H := Option.bind_eq_some_iff.mp H
  obtain ⟨t857, A30, H⟩ := H
  replace H : (if t857 = true then ((trunnionref02_Known.f a0).bind fun t858 => (if t858 = true then ((order_Lt.f k a0 a1_0 a1_1).bind fun t859 => (if t859 = true then ((order_Lt.f k a0 a1_1 a1_2).bind fun t860 => (if t860 = true then ((order_Lt.f k a0 a1_0 a1_2).bind fun t861 => (if t861 = true then ((order_Le.f k a0 a1_0 a1_1).bind fun t862 => (if t862 = true then ((order_Le.f k a0 a1_1 a1_2).bind fun t863 => (if t863 = true then ((order_Le.f k a0 a1_0 a1_2).bind fun t864 => (trunnionlaw08_OrderChain.j0 k a0 (!t864) a1_0 a1_1 a1_2)) else (trunnionlaw08_OrderChain.j0 k a0 false a1_0 a1_1 a1_2))) else (trunnionlaw08_OrderChain.j0 k a0 false a1_0 a1_1 a1_2))) else (trunnionlaw08_OrderChain.j0 k a0 true a1_0 a1_1 a1_2))) else ((order_Le.f k a0 a1_0 a1_1).bind fun t865 => (if t865 = true then ((order_Le.f k a0 a1_1 a1_2).bind fun t866 => (if t866 = true then ((order_Le.f k a0 a1_0 a1_2).bind fun t867 => (trunnionlaw08_OrderChain.j0 k a0 (!t867) a1_0 a1_1 a1_2)) else (trunnionlaw08_OrderChain.j0 k a0 false a1_0 a1_1 a1_2))) else (trunnionlaw08_OrderChain.j0 k a0 false a1_0 a1_1 a1_2))))) else ((order_Le.f k a0 a1_0 a1_1).bind fun t868 => (if t868 = true then ((order_Le.f k a0 a1_1 a1_2).bind fun t869 => (if t869 = true then ((order_Le.f k a0 a1_0 a1_2).bind fun t870 => (trunnionlaw08_OrderChain.j0 k a0 (!t870) a1_0 a1_1 a1_2)) else (trunnionlaw08_OrderChain.j0 k a0 false a1_0 a1_1 a1_2))) else (trunnionlaw08_OrderChain.j0 k a0 false a1_0 a1_1 a1_2))))) else (some true))) else (some false)) = some r := H
  have A3 := Aside0.mk A30
  clear A30
  by_cases c4 : t857 = true
  · subst c4
    have H1 : ((trunnionref02_Known.f a0).bind fun t858 => (if t858 = true then ((order_Lt.f k a0 a1_0 a1_1).bind fun t859 => (if t859 = true then ((order_Lt.f k a0 a1_1 a1_2).bind fun t860 => (if t860 = true then ((order_Lt.f k a0 a1_0 a1_2).bind fun t861 => (if t861 = true then ((order_Le.f k a0 a1_0 a1_1).bind fun t862 => (if t862 = true then ((order_Le.f k a0 a1_1 a1_2).bind fun t863 => (if t863 = true then ((order_Le.f k a0 a1_0 a1_2).bind fun t864 => (trunnionlaw08_OrderChain.j0 k a0 (!t864) a1_0 a1_1 a1_2)) else (trunnionlaw08_OrderChain.j0 k a0 false a1_0 a1_1 a1_2))) else (trunnionlaw08_OrderChain.j0 k a0 false a1_0 a1_1 a1_2))) else (trunnionlaw08_OrderChain.j0 k a0 true a1_0 a1_1 a1_2))) else ((order_Le.f k a0 a1_0 a1_1).bind fun t865 => (if t865 = true then ((order_Le.f k a0 a1_1 a1_2).bind fun t866 => (if t866 = true then ((order_Le.f k a0 a1_0 a1_2).bind fun t867 => (trunnionlaw08_OrderChain.j0 k a0 (!t867) a1_0 a1_1 a1_2)) else (trunnionlaw08_OrderChain.j0 k a0 false a1_0 a1_1 a1_2))) else (trunnionlaw08_OrderChain.j0 k a0 false a1_0 a1_1 a1_2))))) else ((order_Le.f k a0 a1_0 a1_1).bind fun t868 => (if t868 = true then ((order_Le.f k a0 a1_1 a1_2).bind fun t869 => (if t869 = true then ((order_Le.f k a0 a1_0 a1_2).bind fun t870 => (trunnionlaw08_OrderChain.j0 k a0 (!t870) a1_0 a1_1 a1_2)) else (trunnionlaw08_OrderChain.j0 k a0 false a1_0 a1_1 a1_2))) else (trunnionlaw08_OrderChain.j0 k a0 false a1_0 a1_1 a1_2))))) else (some true))) = some r := by rw [if_pos rfl] at H; exact H
    clear H
    have H := H1
    clear H1
    replace H := Option.bind_eq_some_iff.mp H
    obtain ⟨t858, A50, H⟩ := H
    replace H : (if t858 = true then ((order_Lt.f k a0 a1_0 a1_1).bind fun t859 => (if t859 = true then ((order_Lt.f k a0 a1_1 a1_2).bind fun t860 => (if t860 = true then ((order_Lt.f k a0 a1_0 a1_2).bind fun t861 => (if t861 = true then ((order_Le.f k a0 a1_0 a1_1).bind fun t862 => (if t862 = true then ((order_Le.f k a0 a1_1 a1_2).bind fun t863 => (if t863 = true then ((order_Le.f k a0 a1_0 a1_2).bind fun t864 => (trunnionlaw08_OrderChain.j0 k a0 (!t864) a1_0 a1_1 a1_2)) else (trunnionlaw08_OrderChain.j0 k a0 false a1_0 a1_1 a1_2))) else (trunnionlaw08_OrderChain.j0 k a0 false a1_0 a1_1 a1_2))) else (trunnionlaw08_OrderChain.j0 k a0 true a1_0 a1_1 a1_2))) else ((order_Le.f k a0 a1_0 a1_1).bind fun t865 => (if t865 = true then ((order_Le.f k a0 a1_1 a1_2).bind fun t866 => (if t866 = true then ((order_Le.f k a0 a1_0 a1_2).bind fun t867 => (trunnionlaw08_OrderChain.j0 k a0 (!t867) a1_0 a1_1 a1_2)) else (trunnionlaw08_OrderChain.j0 k a0 false a1_0 a1_1 a1_2))) else (trunnionlaw08_OrderChain.j0 k a0 false a1_0 a1_1 a1_2))))) else ((order_Le.f k a0 a1_0 a1_1).bind fun t868 => (if t868 = true then ((order_Le.f k a0 a1_1 a1_2).bind fun t869 => (if t869 = true then ((order_Le.f k a0 a1_0 a1_2).bind fun t870 => (trunnionlaw08_OrderChain.j0 k a0 (!t870) a1_0 a1_1 a1_2)) else (trunnionlaw08_OrderChain.j0 k a0 false a1_0 a1_1 a1_2))) else (trunnionlaw08_OrderChain.j0 k a0 false a1_0 a1_1 a1_2))))) else (some true)) = some r := H
    have A5 := Aside0.mk A50
    clear A50
    by_cases c6 : t858 = true
    · subst c6
      have H1 : ((order_Lt.f k a0 a1_0 a1_1).bind fun t859 => (if t859 = true then ((order_Lt.f k a0 a1_1 a1_2).bind fun t860 => (if t860 = true then ((order_Lt.f k a0 a1_0 a1_2).bind fun t861 => (if t861 = true then ((order_Le.f k a0 a1_0 a1_1).bind fun t862 => (if t862 = true then ((order_Le.f k a0 a1_1 a1_2).bind fun t863 => (if t863 = true then ((order_Le.f k a0 a1_0 a1_2).bind fun t864 => (trunnionlaw08_OrderChain.j0 k a0 (!t864) a1_0 a1_1 a1_2)) else (trunnionlaw08_OrderChain.j0 k a0 false a1_0 a1_1 a1_2))) else (trunnionlaw08_OrderChain.j0 k a0 false a1_0 a1_1 a1_2))) else (trunnionlaw08_OrderChain.j0 k a0 true a1_0 a1_1 a1_2))) else ((order_Le.f k a0 a1_0 a1_1).bind fun t865 => (if t865 = true then ((order_Le.f k a0 a1_1 a1_2).bind fun t866 => (if t866 = true then ((order_Le.f k a0 a1_0 a1_2).bind fun t867 => (trunnionlaw08_OrderChain.j0 k a0 (!t867) a1_0 a1_1 a1_2)) else (trunnionlaw08_OrderChain.j0 k a0 false a1_0 a1_1 a1_2))) else (trunnionlaw08_OrderChain.j0 k a0 false a1_0 a1_1 a1_2))))) else ((order_Le.f k a0 a1_0 a1_1).bind fun t868 => (if t868 = true then ((order_Le.f k a0 a1_1 a1_2).bind fun t869 => (if t869 = true then ((order_Le.f k a0 a1_0 a1_2).bind fun t870 => (trunnionlaw08_OrderChain.j0 k a0 (!t870) a1_0 a1_1 a1_2)) else (trunnionlaw08_OrderChain.j0 k a0 false a1_0 a1_1 a1_2))) else (trunnionlaw08_OrderChain.j0 k a0 false a1_0 a1_1 a1_2))))) = some r := by rw [if_pos rfl] at H; exact H
      clear H
      have H := H1
      clear H1
      have HC7 := Aside0.mk H
      clear H
      go_enter Try.func21, Try.ntmps21
      go_upto_region 5 with (first | ((with_reducible refine gate_dst (N := 3) rfl ?_); refine box_event ?hg (N := 3) ?hd (cs := #[.int .u64 a1_0, .int .u64 a1_1, .int .u64 a1_2]) (t := 91) ?hr ?_; (case hd => rfl); (case hg => rfl); (case hr => first | (go_simp; done) | (go_simp; rfl)); intro gb856 hg w8 hbox hb; have n0_ := Aside0.mk (below_step (by repeat (first | (with_reducible first | exact HB.out | apply below_alloc | apply pw_below_drewN | apply below_drew1) | exact HB.out)) hb); have n1_ := Aside0.mk (hbox); have n2_ := Aside0.mk ((by rw [hg]; exact (below_size (by repeat (first | (with_reducible first | exact HB.out | apply below_alloc | apply pw_below_drewN | apply below_drew1) | exact HB.out))) : w.heap.size ≤ gb856)); have n3_ := Aside0.mk ((by rw [hg]; exact (below_size (by repeat (first | (with_reducible first | exact HB.out | apply below_alloc | apply pw_below_drewN | apply below_drew1) | exact HB.out))) : w.heap.size ≤ gb856)); clear HB; have HB := n0_; have BK856 := n1_; have GW856 := n2_; have GE856 := n3_; clear n0_ n1_ n2_ n3_; clear hb hbox hg) | ((with_reducible refine gate_callee (f := 93) rfl ?_); refine goesL_ (some 5) rfl rfl Try.func93 (by kernel_rfl) rfl #[] rfl (by (try simp only [List.map_toArray, List.map_cons, List.map_nil]); first | done | rfl | (simp only [List.length_drop, List.length_take]; rfl)) ?_; (with_reducible refine (trunnionlaw08_awake.calls k  true _ A3.out).mono ?_); rintro e w9 ⟨rfl, hb⟩; refine ⟨_, rfl, ?_⟩; have n0_ := Aside0.mk (blk_below (g := gb856) (o := .cells #[.int .u64 a1_0, .int .u64 a1_1, .int .u64 a1_2] 91 (0, 0)) (by (with_reducible repeat (first | refine blk_drewN ?_ _ | refine blk_drew ?_ | refine blk_alloc ?_ _)); exact BK856.out) hb); have n1_ := Aside0.mk (below_step (by repeat (first | (with_reducible first | exact HB.out | apply below_alloc | apply pw_below_drewN | apply below_drew1 | refine below_set ?_ GE856.out) | exact HB.out)) hb); clear BK856; clear HB; have BK856 := n0_; have HB := n1_; clear n0_ n1_; (try clear hb); (try clear hb2); (try clear hk); (try clear hi)) | ((with_reducible refine gate_callee (f := 29) rfl ?_); refine goesL_ (some 8) rfl rfl Try.func29 (by kernel_rfl) rfl #[.int .i64 a0] rfl (by (try simp only [List.map_toArray, List.map_cons, List.map_nil]); first | done | rfl | (simp only [List.length_drop, List.length_take]; rfl)) ?_; (with_reducible refine (trunnionref02_Known.calls a0 true _ A5.out).mono ?_); rintro e w' ⟨rfl, ⟨nd, rfl⟩⟩; refine ⟨_, rfl, ?_⟩))
      (try simp only [Act.put, List.setIfInBounds_toArray, List.set_cons_zero, List.set_cons_succ])
      go_cut [57] (fun v57 wc => ∃ (kq : Nat) (x57_6 : Bool), v57 = .bool x57_6 ∧ Aside0 (trunnionlaw08_OrderChain.j0 kq a0 x57_6 a1_0 a1_1 a1_2 = some r) ∧ Aside0 (kq ≤ k) ∧ Aside0 (wc.heap[gb856]? = some (.cells #[.int .u64 a1_0, .int .u64 a1_1, .int .u64 a1_2] 91 (0, 0))) ∧ Aside0 (Below w.heap.size w wc))
      case first =>
        have H := HC7.out
        clear HC7
        replace H := Option.bind_eq_some_iff.mp H
        obtain ⟨t859, A100, H⟩ := H
        replace H : (if t859 = true then ((order_Lt.f k a0 a1_1 a1_2).bind fun t860 => (if t860 = true then ((order_Lt.f k a0 a1_0 a1_2).bind fun t861 => (if t861 = true then ((order_Le.f k a0 a1_0 a1_1).bind fun t862 => (if t862 = true then ((order_Le.f k a0 a1_1 a1_2).bind fun t863 => (if t863 = true then ((order_Le.f k a0 a1_0 a1_2).bind fun t864 => (trunnionlaw08_OrderChain.j0 k a0 (!t864) a1_0 a1_1 a1_2)) else (trunnionlaw08_OrderChain.j0 k a0 false a1_0 a1_1 a1_2))) else (trunnionlaw08_OrderChain.j0 k a0 false a1_0 a1_1 a1_2))) else (trunnionlaw08_OrderChain.j0 k a0 true a1_0 a1_1 a1_2))) else ((order_Le.f k a0 a1_0 a1_1).bind fun t865 => (if t865 = true then ((order_Le.f k a0 a1_1 a1_2).bind fun t866 => (if t866 = true then ((order_Le.f k a0 a1_0 a1_2).bind fun t867 => (trunnionlaw08_OrderChain.j0 k a0 (!t867) a1_0 a1_1 a1_2)) else (trunnionlaw08_OrderChain.j0 k a0 false a1_0 a1_1 a1_2))) else (trunnionlaw08_OrderChain.j0 k a0 false a1_0 a1_1 a1_2))))) else ((order_Le.f k a0 a1_0 a1_1).bind fun t868 => (if t868 = true then ((order_Le.f k a0 a1_1 a1_2).bind fun t869 => (if t869 = true then ((order_Le.f k a0 a1_0 a1_2).bind fun t870 => (trunnionlaw08_OrderChain.j0 k a0 (!t870) a1_0 a1_1 a1_2)) else (trunnionlaw08_OrderChain.j0 k a0 false a1_0 a1_1 a1_2))) else (trunnionlaw08_OrderChain.j0 k a0 false a1_0 a1_1 a1_2)))) = some r := H
        have A10 := Aside0.mk A100
        clear A100
        by_cases c11 : t859 = true
        · subst c11
          have H1 : ((order_Lt.f k a0 a1_1 a1_2).bind fun t860 => (if t860 = true then ((order_Lt.f k a0 a1_0 a1_2).bind fun t861 => (if t861 = true then ((order_Le.f k a0 a1_0 a1_1).bind fun t862 => (if t862 = true then ((order_Le.f k a0 a1_1 a1_2).bind fun t863 => (if t863 = true then ((order_Le.f k a0 a1_0 a1_2).bind fun t864 => (trunnionlaw08_OrderChain.j0 k a0 (!t864) a1_0 a1_1 a1_2)) else (trunnionlaw08_OrderChain.j0 k a0 false a1_0 a1_1 a1_2))) else (trunnionlaw08_OrderChain.j0 k a0 false a1_0 a1_1 a1_2))) else (trunnionlaw08_OrderChain.j0 k a0 true a1_0 a1_1 a1_2))) else ((order_Le.f k a0 a1_0 a1_1).bind fun t865 => (if t865 = true then ((order_Le.f k a0 a1_1 a1_2).bind fun t866 => (if t866 = true then ((order_Le.f k a0 a1_0 a1_2).bind fun t867 => (trunnionlaw08_OrderChain.j0 k a0 (!t867) a1_0 a1_1 a1_2)) else (trunnionlaw08_OrderChain.j0 k a0 false a1_0 a1_1 a1_2))) else (trunnionlaw08_OrderChain.j0 k a0 false a1_0 a1_1 a1_2))))) = some r := by rw [if_pos rfl] at H; exact H
          clear H
          have H := H1
          clear H1
          replace H := Option.bind_eq_some_iff.mp H
          obtain ⟨t860, A120, H⟩ := H
          replace H : (if t860 = true then ((order_Lt.f k a0 a1_0 a1_2).bind fun t861 => (if t861 = true then ((order_Le.f k a0 a1_0 a1_1).bind fun t862 => (if t862 = true then ((order_Le.f k a0 a1_1 a1_2).bind fun t863 => (if t863 = true then ((order_Le.f k a0 a1_0 a1_2).bind fun t864 => (trunnionlaw08_OrderChain.j0 k a0 (!t864) a1_0 a1_1 a1_2)) else (trunnionlaw08_OrderChain.j0 k a0 false a1_0 a1_1 a1_2))) else (trunnionlaw08_OrderChain.j0 k a0 false a1_0 a1_1 a1_2))) else (trunnionlaw08_OrderChain.j0 k a0 true a1_0 a1_1 a1_2))) else ((order_Le.f k a0 a1_0 a1_1).bind fun t865 => (if t865 = true then ((order_Le.f k a0 a1_1 a1_2).bind fun t866 => (if t866 = true then ((order_Le.f k a0 a1_0 a1_2).bind fun t867 => (trunnionlaw08_OrderChain.j0 k a0 (!t867) a1_0 a1_1 a1_2)) else (trunnionlaw08_OrderChain.j0 k a0 false a1_0 a1_1 a1_2))) else (trunnionlaw08_OrderChain.j0 k a0 false a1_0 a1_1 a1_2)))) = some r := H
          have A12 := Aside0.mk A120
          clear A120
          by_cases c13 : t860 = true
          · subst c13
            have H1 : ((order_Lt.f k a0 a1_0 a1_2).bind fun t861 => (if t861 = true then ((order_Le.f k a0 a1_0 a1_1).bind fun t862 => (if t862 = true then ((order_Le.f k a0 a1_1 a1_2).bind fun t863 => (if t863 = true then ((order_Le.f k a0 a1_0 a1_2).bind fun t864 => (trunnionlaw08_OrderChain.j0 k a0 (!t864) a1_0 a1_1 a1_2)) else (trunnionlaw08_OrderChain.j0 k a0 false a1_0 a1_1 a1_2))) else (trunnionlaw08_OrderChain.j0 k a0 false a1_0 a1_1 a1_2))) else (trunnionlaw08_OrderChain.j0 k a0 true a1_0 a1_1 a1_2))) = some r := by rw [if_pos rfl] at H; exact H
            clear H
            have H := H1
            clear H1
            replace H := Option.bind_eq_some_iff.mp H
            obtain ⟨t861, A140, H⟩ := H
            replace H : (if t861 = true then ((order_Le.f k a0 a1_0 a1_1).bind fun t862 => (if t862 = true then ((order_Le.f k a0 a1_1 a1_2).bind fun t863 => (if t863 = true then ((order_Le.f k a0 a1_0 a1_2).bind fun t864 => (trunnionlaw08_OrderChain.j0 k a0 (!t864) a1_0 a1_1 a1_2)) else (trunnionlaw08_OrderChain.j0 k a0 false a1_0 a1_1 a1_2))) else (trunnionlaw08_OrderChain.j0 k a0 false a1_0 a1_1 a1_2))) else (trunnionlaw08_OrderChain.j0 k a0 true a1_0 a1_1 a1_2)) = some r := H
            have A14 := Aside0.mk A140
            clear A140
            by_cases c15 : t861 = true
            · subst c15
              have H1 : ((order_Le.f k a0 a1_0 a1_1).bind fun t862 => (if t862 = true then ((order_Le.f k a0 a1_1 a1_2).bind fun t863 => (if t863 = true then ((order_Le.f k a0 a1_0 a1_2).bind fun t864 => (trunnionlaw08_OrderChain.j0 k a0 (!t864) a1_0 a1_1 a1_2)) else (trunnionlaw08_OrderChain.j0 k a0 false a1_0 a1_1 a1_2))) else (trunnionlaw08_OrderChain.j0 k a0 false a1_0 a1_1 a1_2))) = some r := by rw [if_pos rfl] at H; exact H
              clear H
              have H := H1
              clear H1
              replace H := Option.bind_eq_some_iff.mp H
              obtain ⟨t862, A160, H⟩ := H
              replace H : (if t862 = true then ((order_Le.f k a0 a1_1 a1_2).bind fun t863 => (if t863 = true then ((order_Le.f k a0 a1_0 a1_2).bind fun t864 => (trunnionlaw08_OrderChain.j0 k a0 (!t864) a1_0 a1_1 a1_2)) else (trunnionlaw08_OrderChain.j0 k a0 false a1_0 a1_1 a1_2))) else (trunnionlaw08_OrderChain.j0 k a0 false a1_0 a1_1 a1_2)) = some r := H
              have A16 := Aside0.mk A160
              clear A160
              by_cases c17 : t862 = true
              · subst c17
                have H1 : ((order_Le.f k a0 a1_1 a1_2).bind fun t863 => (if t863 = true then ((order_Le.f k a0 a1_0 a1_2).bind fun t864 => (trunnionlaw08_OrderChain.j0 k a0 (!t864) a1_0 a1_1 a1_2)) else (trunnionlaw08_OrderChain.j0 k a0 false a1_0 a1_1 a1_2))) = some r := by rw [if_pos rfl] at H; exact H
                clear H
                have H := H1
                clear H1
                replace H := Option.bind_eq_some_iff.mp H
                obtain ⟨t863, A180, H⟩ := H
                replace H : (if t863 = true then ((order_Le.f k a0 a1_0 a1_2).bind fun t864 => (trunnionlaw08_OrderChain.j0 k a0 (!t864) a1_0 a1_1 a1_2)) else (trunnionlaw08_OrderChain.j0 k a0 false a1_0 a1_1 a1_2)) = some r := H
                have A18 := Aside0.mk A180
                clear A180
                by_cases c19 : t863 = true
                · subst c19
                  have H1 : ((order_Le.f k a0 a1_0 a1_2).bind fun t864 => (trunnionlaw08_OrderChain.j0 k a0 (!t864) a1_0 a1_1 a1_2)) = some r := by rw [if_pos rfl] at H; exact H
                  clear H
                  have H := H1
                  clear H1
                  replace H := Option.bind_eq_some_iff.mp H
                  obtain ⟨t864, A200, H⟩ := H
                  replace H : (trunnionlaw08_OrderChain.j0 k a0 (!t864) a1_0 a1_1 a1_2) = some r := H
                  have A20 := Aside0.mk A200
                  clear A200
                  have H' := Aside0.mk H
                  clear H
                  have hcz21_0 : w9.cell? ⟨gb856, 0, none⟩ = some (.int .u64 a1_0) := (blk_cell BK856.out 0).trans rfl
                  have hcz21_1 : w9.cell? ⟨gb856, 1, none⟩ = some (.int .u64 a1_1) := (blk_cell BK856.out 1).trans rfl
                  have hcz21_2 : w9.cell? ⟨gb856, 2, none⟩ = some (.int .u64 a1_2) := (blk_cell BK856.out 2).trans rfl
                  have hfz21_0 := blk_frozen BK856.out 0
                  have hfz21_1 := blk_frozen BK856.out 1
                  have hfz21_2 := blk_frozen BK856.out 2
                  go_wp2_with (first | ((with_reducible refine gate_callee (f := 102) rfl ?_); refine goesL_ (some 15) rfl rfl Try.func102 (by kernel_rfl) rfl #[.int .i64 a0, .int .u64 a1_0, .int .u64 a1_1] rfl (by (try simp only [List.map_toArray, List.map_cons, List.map_nil]); first | done | rfl | (simp only [List.length_drop, List.length_take]; rfl)) ?_; (with_reducible refine (order_Lt.calls k a0 a1_0 a1_1 true _ A10.out).mono ?_); rintro e w22 ⟨rfl, hb⟩; refine ⟨_, rfl, ?_⟩; have n0_ := Aside0.mk (blk_below (g := gb856) (o := .cells #[.int .u64 a1_0, .int .u64 a1_1, .int .u64 a1_2] 91 (0, 0)) (by (with_reducible repeat (first | refine blk_drewN ?_ _ | refine blk_drew ?_ | refine blk_alloc ?_ _)); exact BK856.out) hb); have n1_ := Aside0.mk (below_step (by repeat (first | (with_reducible first | exact HB.out | apply below_alloc | apply pw_below_drewN | apply below_drew1 | refine below_set ?_ GE856.out) | exact HB.out)) hb); clear BK856; clear HB; have BK856 := n0_; have HB := n1_; clear n0_ n1_; (try clear hb); (try clear hb2); (try clear hk); (try clear hi); have hcz23_0 : w22.cell? ⟨gb856, 0, none⟩ = some (.int .u64 a1_0) := (blk_cell BK856.out 0).trans rfl; have hcz23_1 : w22.cell? ⟨gb856, 1, none⟩ = some (.int .u64 a1_1) := (blk_cell BK856.out 1).trans rfl; have hcz23_2 : w22.cell? ⟨gb856, 2, none⟩ = some (.int .u64 a1_2) := (blk_cell BK856.out 2).trans rfl; have hfz23_0 := blk_frozen BK856.out 0; have hfz23_1 := blk_frozen BK856.out 1; have hfz23_2 := blk_frozen BK856.out 2) | (go_at_call 102; (with_reducible refine (order_Lt.calls k a0 a1_1 a1_2 true _ A12.out).mono ?_); rintro e w24 ⟨rfl, hb⟩; have n0_ := Aside0.mk (blk_below (g := gb856) (o := .cells #[.int .u64 a1_0, .int .u64 a1_1, .int .u64 a1_2] 91 (0, 0)) (by (with_reducible repeat (first | refine blk_drewN ?_ _ | refine blk_drew ?_ | refine blk_alloc ?_ _)); exact BK856.out) hb); have n1_ := Aside0.mk (below_step (by repeat (first | (with_reducible first | exact HB.out | apply below_alloc | apply pw_below_drewN | apply below_drew1 | refine below_set ?_ GE856.out) | exact HB.out)) hb); clear BK856; clear HB; have BK856 := n0_; have HB := n1_; clear n0_ n1_; (try clear hb); (try clear hb2); (try clear hk); (try clear hi); have hcz25_0 : w24.cell? ⟨gb856, 0, none⟩ = some (.int .u64 a1_0) := (blk_cell BK856.out 0).trans rfl; have hcz25_1 : w24.cell? ⟨gb856, 1, none⟩ = some (.int .u64 a1_1) := (blk_cell BK856.out 1).trans rfl; have hcz25_2 : w24.cell? ⟨gb856, 2, none⟩ = some (.int .u64 a1_2) := (blk_cell BK856.out 2).trans rfl; have hfz25_0 := blk_frozen BK856.out 0; have hfz25_1 := blk_frozen BK856.out 1; have hfz25_2 := blk_frozen BK856.out 2) | (go_at_call 102; (with_reducible refine (order_Lt.calls k a0 a1_0 a1_2 true _ A14.out).mono ?_); rintro e w26 ⟨rfl, hb⟩; have n0_ := Aside0.mk (blk_below (g := gb856) (o := .cells #[.int .u64 a1_0, .int .u64 a1_1, .int .u64 a1_2] 91 (0, 0)) (by (with_reducible repeat (first | refine blk_drewN ?_ _ | refine blk_drew ?_ | refine blk_alloc ?_ _)); exact BK856.out) hb); have n1_ := Aside0.mk (below_step (by repeat (first | (with_reducible first | exact HB.out | apply below_alloc | apply pw_below_drewN | apply below_drew1 | refine below_set ?_ GE856.out) | exact HB.out)) hb); clear BK856; clear HB; have BK856 := n0_; have HB := n1_; clear n0_ n1_; (try clear hb); (try clear hb2); (try clear hk); (try clear hi); have hcz27_0 : w26.cell? ⟨gb856, 0, none⟩ = some (.int .u64 a1_0) := (blk_cell BK856.out 0).trans rfl; have hcz27_1 : w26.cell? ⟨gb856, 1, none⟩ = some (.int .u64 a1_1) := (blk_cell BK856.out 1).trans rfl; have hcz27_2 : w26.cell? ⟨gb856, 2, none⟩ = some (.int .u64 a1_2) := (blk_cell BK856.out 2).trans rfl; have hfz27_0 := blk_frozen BK856.out 0; have hfz27_1 := blk_frozen BK856.out 1; have hfz27_2 := blk_frozen BK856.out 2) | (go_at_call 104; (with_reducible refine (order_Le.calls k a0 a1_0 a1_1 true _ A16.out).mono ?_); rintro e w28 ⟨rfl, hb⟩; have n0_ := Aside0.mk (blk_below (g := gb856) (o := .cells #[.int .u64 a1_0, .int .u64 a1_1, .int .u64 a1_2] 91 (0, 0)) (by (with_reducible repeat (first | refine blk_drewN ?_ _ | refine blk_drew ?_ | refine blk_alloc ?_ _)); exact BK856.out) hb); have n1_ := Aside0.mk (below_step (by repeat (first | (with_reducible first | exact HB.out | apply below_alloc | apply pw_below_drewN | apply below_drew1 | refine below_set ?_ GE856.out) | exact HB.out)) hb); clear BK856; clear HB; have BK856 := n0_; have HB := n1_; clear n0_ n1_; (try clear hb); (try clear hb2); (try clear hk); (try clear hi); have hcz29_0 : w28.cell? ⟨gb856, 0, none⟩ = some (.int .u64 a1_0) := (blk_cell BK856.out 0).trans rfl; have hcz29_1 : w28.cell? ⟨gb856, 1, none⟩ = some (.int .u64 a1_1) := (blk_cell BK856.out 1).trans rfl; have hcz29_2 : w28.cell? ⟨gb856, 2, none⟩ = some (.int .u64 a1_2) := (blk_cell BK856.out 2).trans rfl; have hfz29_0 := blk_frozen BK856.out 0; have hfz29_1 := blk_frozen BK856.out 1; have hfz29_2 := blk_frozen BK856.out 2) | (go_at_call 104; (with_reducible refine (order_Le.calls k a0 a1_1 a1_2 true _ A18.out).mono ?_); rintro e w30 ⟨rfl, hb⟩; have n0_ := Aside0.mk (blk_below (g := gb856) (o := .cells #[.int .u64 a1_0, .int .u64 a1_1, .int .u64 a1_2] 91 (0, 0)) (by (with_reducible repeat (first | refine blk_drewN ?_ _ | refine blk_drew ?_ | refine blk_alloc ?_ _)); exact BK856.out) hb); have n1_ := Aside0.mk (below_step (by repeat (first | (with_reducible first | exact HB.out | apply below_alloc | apply pw_below_drewN | apply below_drew1 | refine below_set ?_ GE856.out) | exact HB.out)) hb); clear BK856; clear HB; have BK856 := n0_; have HB := n1_; clear n0_ n1_; (try clear hb); (try clear hb2); (try clear hk); (try clear hi); have hcz31_0 : w30.cell? ⟨gb856, 0, none⟩ = some (.int .u64 a1_0) := (blk_cell BK856.out 0).trans rfl; have hcz31_1 : w30.cell? ⟨gb856, 1, none⟩ = some (.int .u64 a1_1) := (blk_cell BK856.out 1).trans rfl; have hcz31_2 : w30.cell? ⟨gb856, 2, none⟩ = some (.int .u64 a1_2) := (blk_cell BK856.out 2).trans rfl; have hfz31_0 := blk_frozen BK856.out 0; have hfz31_1 := blk_frozen BK856.out 1; have hfz31_2 := blk_frozen BK856.out 2) | (go_at_call 104; (with_reducible refine (order_Le.calls k a0 a1_0 a1_2 t864 _ A20.out).mono ?_); rintro e w32 ⟨rfl, hb⟩; have n0_ := Aside0.mk (blk_below (g := gb856) (o := .cells #[.int .u64 a1_0, .int .u64 a1_1, .int .u64 a1_2] 91 (0, 0)) (by (with_reducible repeat (first | refine blk_drewN ?_ _ | refine blk_drew ?_ | refine blk_alloc ?_ _)); exact BK856.out) hb); have n1_ := Aside0.mk (below_step (by repeat (first | (with_reducible first | exact HB.out | apply below_alloc | apply pw_below_drewN | apply below_drew1 | refine below_set ?_ GE856.out) | exact HB.out)) hb); clear BK856; clear HB; have BK856 := n0_; have HB := n1_; clear n0_ n1_; (try clear hb); (try clear hb2); (try clear hk); (try clear hi)))
                  go_meet
                  case rel => exact ⟨_, (!t864), (by first | rfl | (simp; done) | (simp [*]; done)), H', ⟨by first | omega | exact Nat.le_refl _⟩, ⟨by (with_reducible repeat (first | refine blk_drewN ?_ _ | refine blk_drew ?_ | refine blk_alloc ?_ _)); exact BK856.out⟩, ⟨by repeat (first | (with_reducible first | exact HB.out | apply below_alloc | apply pw_below_drewN | apply below_drew1 | refine below_set ?_ GE856.out) | exact HB.out)⟩⟩
                · replace c19 := Bool.eq_false_iff.mpr c19
                  subst c19
                  have H1 : (trunnionlaw08_OrderChain.j0 k a0 false a1_0 a1_1 a1_2) = some r := by rw [if_neg (show ¬ (false = true) by decide)] at H; exact H
                  clear H
                  have H := H1
                  clear H1
                  have H' := Aside0.mk H
                  clear H
                  have hcz33_0 : w9.cell? ⟨gb856, 0, none⟩ = some (.int .u64 a1_0) := (blk_cell BK856.out 0).trans rfl
                  have hcz33_1 : w9.cell? ⟨gb856, 1, none⟩ = some (.int .u64 a1_1) := (blk_cell BK856.out 1).trans rfl
                  have hcz33_2 : w9.cell? ⟨gb856, 2, none⟩ = some (.int .u64 a1_2) := (blk_cell BK856.out 2).trans rfl
                  have hfz33_0 := blk_frozen BK856.out 0
                  have hfz33_1 := blk_frozen BK856.out 1
                  have hfz33_2 := blk_frozen BK856.out 2
                  go_wp2_with (first | ((with_reducible refine gate_callee (f := 102) rfl ?_); refine goesL_ (some 15) rfl rfl Try.func102 (by kernel_rfl) rfl #[.int .i64 a0, .int .u64 a1_0, .int .u64 a1_1] rfl (by (try simp only [List.map_toArray, List.map_cons, List.map_nil]); first | done | rfl | (simp only [List.length_drop, List.length_take]; rfl)) ?_; (with_reducible refine (order_Lt.calls k a0 a1_0 a1_1 true _ A10.out).mono ?_); rintro e w34 ⟨rfl, hb⟩; refine ⟨_, rfl, ?_⟩; have n0_ := Aside0.mk (blk_below (g := gb856) (o := .cells #[.int .u64 a1_0, .int .u64 a1_1, .int .u64 a1_2] 91 (0, 0)) (by (with_reducible repeat (first | refine blk_drewN ?_ _ | refine blk_drew ?_ | refine blk_alloc ?_ _)); exact BK856.out) hb); have n1_ := Aside0.mk (below_step (by repeat (first | (with_reducible first | exact HB.out | apply below_alloc | apply pw_below_drewN | apply below_drew1 | refine below_set ?_ GE856.out) | exact HB.out)) hb); clear BK856; clear HB; have BK856 := n0_; have HB := n1_; clear n0_ n1_; (try clear hb); (try clear hb2); (try clear hk); (try clear hi); have hcz35_0 : w34.cell? ⟨gb856, 0, none⟩ = some (.int .u64 a1_0) := (blk_cell BK856.out 0).trans rfl; have hcz35_1 : w34.cell? ⟨gb856, 1, none⟩ = some (.int .u64 a1_1) := (blk_cell BK856.out 1).trans rfl; have hcz35_2 : w34.cell? ⟨gb856, 2, none⟩ = some (.int .u64 a1_2) := (blk_cell BK856.out 2).trans rfl; have hfz35_0 := blk_frozen BK856.out 0; have hfz35_1 := blk_frozen BK856.out 1; have hfz35_2 := blk_frozen BK856.out 2) | (go_at_call 102; (with_reducible refine (order_Lt.calls k a0 a1_1 a1_2 true _ A12.out).mono ?_); rintro e w36 ⟨rfl, hb⟩; have n0_ := Aside0.mk (blk_below (g := gb856) (o := .cells #[.int .u64 a1_0, .int .u64 a1_1, .int .u64 a1_2] 91 (0, 0)) (by (with_reducible repeat (first | refine blk_drewN ?_ _ | refine blk_drew ?_ | refine blk_alloc ?_ _)); exact BK856.out) hb); have n1_ := Aside0.mk (below_step (by repeat (first | (with_reducible first | exact HB.out | apply below_alloc | apply pw_below_drewN | apply below_drew1 | refine below_set ?_ GE856.out) | exact HB.out)) hb); clear BK856; clear HB; have BK856 := n0_; have HB := n1_; clear n0_ n1_; (try clear hb); (try clear hb2); (try clear hk); (try clear hi); have hcz37_0 : w36.cell? ⟨gb856, 0, none⟩ = some (.int .u64 a1_0) := (blk_cell BK856.out 0).trans rfl; have hcz37_1 : w36.cell? ⟨gb856, 1, none⟩ = some (.int .u64 a1_1) := (blk_cell BK856.out 1).trans rfl; have hcz37_2 : w36.cell? ⟨gb856, 2, none⟩ = some (.int .u64 a1_2) := (blk_cell BK856.out 2).trans rfl; have hfz37_0 := blk_frozen BK856.out 0; have hfz37_1 := blk_frozen BK856.out 1; have hfz37_2 := blk_frozen BK856.out 2) | (go_at_call 102; (with_reducible refine (order_Lt.calls k a0 a1_0 a1_2 true _ A14.out).mono ?_); rintro e w38 ⟨rfl, hb⟩; have n0_ := Aside0.mk (blk_below (g := gb856) (o := .cells #[.int .u64 a1_0, .int .u64 a1_1, .int .u64 a1_2] 91 (0, 0)) (by (with_reducible repeat (first | refine blk_drewN ?_ _ | refine blk_drew ?_ | refine blk_alloc ?_ _)); exact BK856.out) hb); have n1_ := Aside0.mk (below_step (by repeat (first | (with_reducible first | exact HB.out | apply below_alloc | apply pw_below_drewN | apply below_drew1 | refine below_set ?_ GE856.out) | exact HB.out)) hb); clear BK856; clear HB; have BK856 := n0_; have HB := n1_; clear n0_ n1_; (try clear hb); (try clear hb2); (try clear hk); (try clear hi); have hcz39_0 : w38.cell? ⟨gb856, 0, none⟩ = some (.int .u64 a1_0) := (blk_cell BK856.out 0).trans rfl; have hcz39_1 : w38.cell? ⟨gb856, 1, none⟩ = some (.int .u64 a1_1) := (blk_cell BK856.out 1).trans rfl; have hcz39_2 : w38.cell? ⟨gb856, 2, none⟩ = some (.int .u64 a1_2) := (blk_cell BK856.out 2).trans rfl; have hfz39_0 := blk_frozen BK856.out 0; have hfz39_1 := blk_frozen BK856.out 1; have hfz39_2 := blk_frozen BK856.out 2) | (go_at_call 104; (with_reducible refine (order_Le.calls k a0 a1_0 a1_1 true _ A16.out).mono ?_); rintro e w40 ⟨rfl, hb⟩; have n0_ := Aside0.mk (blk_below (g := gb856) (o := .cells #[.int .u64 a1_0, .int .u64 a1_1, .int .u64 a1_2] 91 (0, 0)) (by (with_reducible repeat (first | refine blk_drewN ?_ _ | refine blk_drew ?_ | refine blk_alloc ?_ _)); exact BK856.out) hb); have n1_ := Aside0.mk (below_step (by repeat (first | (with_reducible first | exact HB.out | apply below_alloc | apply pw_below_drewN | apply below_drew1 | refine below_set ?_ GE856.out) | exact HB.out)) hb); clear BK856; clear HB; have BK856 := n0_; have HB := n1_; clear n0_ n1_; (try clear hb); (try clear hb2); (try clear hk); (try clear hi); have hcz41_0 : w40.cell? ⟨gb856, 0, none⟩ = some (.int .u64 a1_0) := (blk_cell BK856.out 0).trans rfl; have hcz41_1 : w40.cell? ⟨gb856, 1, none⟩ = some (.int .u64 a1_1) := (blk_cell BK856.out 1).trans rfl; have hcz41_2 : w40.cell? ⟨gb856, 2, none⟩ = some (.int .u64 a1_2) := (blk_cell BK856.out 2).trans rfl; have hfz41_0 := blk_frozen BK856.out 0; have hfz41_1 := blk_frozen BK856.out 1; have hfz41_2 := blk_frozen BK856.out 2) | (go_at_call 104; (with_reducible refine (order_Le.calls k a0 a1_1 a1_2 false _ A18.out).mono ?_); rintro e w42 ⟨rfl, hb⟩; have n0_ := Aside0.mk (blk_below (g := gb856) (o := .cells #[.int .u64 a1_0, .int .u64 a1_1, .int .u64 a1_2] 91 (0, 0)) (by (with_reducible repeat (first | refine blk_drewN ?_ _ | refine blk_drew ?_ | refine blk_alloc ?_ _)); exact BK856.out) hb); have n1_ := Aside0.mk (below_step (by repeat (first | (with_reducible first | exact HB.out | apply below_alloc | apply pw_below_drewN | apply below_drew1 | refine below_set ?_ GE856.out) | exact HB.out)) hb); clear BK856; clear HB; have BK856 := n0_; have HB := n1_; clear n0_ n1_; (try clear hb); (try clear hb2); (try clear hk); (try clear hi)))
                  go_meet
                  case rel => exact ⟨_, (false), (by first | rfl | (simp; done) | (simp [*]; done)), H', ⟨by first | omega | exact Nat.le_refl _⟩, ⟨by (with_reducible repeat (first | refine blk_drewN ?_ _ | refine blk_drew ?_ | refine blk_alloc ?_ _)); exact BK856.out⟩, ⟨by repeat (first | (with_reducible first | exact HB.out | apply below_alloc | apply pw_below_drewN | apply below_drew1 | refine below_set ?_ GE856.out) | exact HB.out)⟩⟩
              · replace c17 := Bool.eq_false_iff.mpr c17
                subst c17
                have H1 : (trunnionlaw08_OrderChain.j0 k a0 false a1_0 a1_1 a1_2) = some r := by rw [if_neg (show ¬ (false = true) by decide)] at H; exact H
                clear H
                have H := H1
                clear H1
                have H' := Aside0.mk H
                clear H
                have hcz43_0 : w9.cell? ⟨gb856, 0, none⟩ = some (.int .u64 a1_0) := (blk_cell BK856.out 0).trans rfl
                have hcz43_1 : w9.cell? ⟨gb856, 1, none⟩ = some (.int .u64 a1_1) := (blk_cell BK856.out 1).trans rfl
                have hcz43_2 : w9.cell? ⟨gb856, 2, none⟩ = some (.int .u64 a1_2) := (blk_cell BK856.out 2).trans rfl
                have hfz43_0 := blk_frozen BK856.out 0
                have hfz43_1 := blk_frozen BK856.out 1
                have hfz43_2 := blk_frozen BK856.out 2
                go_wp2_with (first | ((with_reducible refine gate_callee (f := 102) rfl ?_); refine goesL_ (some 15) rfl rfl Try.func102 (by kernel_rfl) rfl #[.int .i64 a0, .int .u64 a1_0, .int .u64 a1_1] rfl (by (try simp only [List.map_toArray, List.map_cons, List.map_nil]); first | done | rfl | (simp only [List.length_drop, List.length_take]; rfl)) ?_; (with_reducible refine (order_Lt.calls k a0 a1_0 a1_1 true _ A10.out).mono ?_); rintro e w44 ⟨rfl, hb⟩; refine ⟨_, rfl, ?_⟩; have n0_ := Aside0.mk (blk_below (g := gb856) (o := .cells #[.int .u64 a1_0, .int .u64 a1_1, .int .u64 a1_2] 91 (0, 0)) (by (with_reducible repeat (first | refine blk_drewN ?_ _ | refine blk_drew ?_ | refine blk_alloc ?_ _)); exact BK856.out) hb); have n1_ := Aside0.mk (below_step (by repeat (first | (with_reducible first | exact HB.out | apply below_alloc | apply pw_below_drewN | apply below_drew1 | refine below_set ?_ GE856.out) | exact HB.out)) hb); clear BK856; clear HB; have BK856 := n0_; have HB := n1_; clear n0_ n1_; (try clear hb); (try clear hb2); (try clear hk); (try clear hi); have hcz45_0 : w44.cell? ⟨gb856, 0, none⟩ = some (.int .u64 a1_0) := (blk_cell BK856.out 0).trans rfl; have hcz45_1 : w44.cell? ⟨gb856, 1, none⟩ = some (.int .u64 a1_1) := (blk_cell BK856.out 1).trans rfl; have hcz45_2 : w44.cell? ⟨gb856, 2, none⟩ = some (.int .u64 a1_2) := (blk_cell BK856.out 2).trans rfl; have hfz45_0 := blk_frozen BK856.out 0; have hfz45_1 := blk_frozen BK856.out 1; have hfz45_2 := blk_frozen BK856.out 2) | (go_at_call 102; (with_reducible refine (order_Lt.calls k a0 a1_1 a1_2 true _ A12.out).mono ?_); rintro e w46 ⟨rfl, hb⟩; have n0_ := Aside0.mk (blk_below (g := gb856) (o := .cells #[.int .u64 a1_0, .int .u64 a1_1, .int .u64 a1_2] 91 (0, 0)) (by (with_reducible repeat (first | refine blk_drewN ?_ _ | refine blk_drew ?_ | refine blk_alloc ?_ _)); exact BK856.out) hb); have n1_ := Aside0.mk (below_step (by repeat (first | (with_reducible first | exact HB.out | apply below_alloc | apply pw_below_drewN | apply below_drew1 | refine below_set ?_ GE856.out) | exact HB.out)) hb); clear BK856; clear HB; have BK856 := n0_; have HB := n1_; clear n0_ n1_; (try clear hb); (try clear hb2); (try clear hk); (try clear hi); have hcz47_0 : w46.cell? ⟨gb856, 0, none⟩ = some (.int .u64 a1_0) := (blk_cell BK856.out 0).trans rfl; have hcz47_1 : w46.cell? ⟨gb856, 1, none⟩ = some (.int .u64 a1_1) := (blk_cell BK856.out 1).trans rfl; have hcz47_2 : w46.cell? ⟨gb856, 2, none⟩ = some (.int .u64 a1_2) := (blk_cell BK856.out 2).trans rfl; have hfz47_0 := blk_frozen BK856.out 0; have hfz47_1 := blk_frozen BK856.out 1; have hfz47_2 := blk_frozen BK856.out 2) | (go_at_call 102; (with_reducible refine (order_Lt.calls k a0 a1_0 a1_2 true _ A14.out).mono ?_); rintro e w48 ⟨rfl, hb⟩; have n0_ := Aside0.mk (blk_below (g := gb856) (o := .cells #[.int .u64 a1_0, .int .u64 a1_1, .int .u64 a1_2] 91 (0, 0)) (by (with_reducible repeat (first | refine blk_drewN ?_ _ | refine blk_drew ?_ | refine blk_alloc ?_ _)); exact BK856.out) hb); have n1_ := Aside0.mk (below_step (by repeat (first | (with_reducible first | exact HB.out | apply below_alloc | apply pw_below_drewN | apply below_drew1 | refine below_set ?_ GE856.out) | exact HB.out)) hb); clear BK856; clear HB; have BK856 := n0_; have HB := n1_; clear n0_ n1_; (try clear hb); (try clear hb2); (try clear hk); (try clear hi); have hcz49_0 : w48.cell? ⟨gb856, 0, none⟩ = some (.int .u64 a1_0) := (blk_cell BK856.out 0).trans rfl; have hcz49_1 : w48.cell? ⟨gb856, 1, none⟩ = some (.int .u64 a1_1) := (blk_cell BK856.out 1).trans rfl; have hcz49_2 : w48.cell? ⟨gb856, 2, none⟩ = some (.int .u64 a1_2) := (blk_cell BK856.out 2).trans rfl; have hfz49_0 := blk_frozen BK856.out 0; have hfz49_1 := blk_frozen BK856.out 1; have hfz49_2 := blk_frozen BK856.out 2) | (go_at_call 104; (with_reducible refine (order_Le.calls k a0 a1_0 a1_1 false _ A16.out).mono ?_); rintro e w50 ⟨rfl, hb⟩; have n0_ := Aside0.mk (blk_below (g := gb856) (o := .cells #[.int .u64 a1_0, .int .u64 a1_1, .int .u64 a1_2] 91 (0, 0)) (by (with_reducible repeat (first | refine blk_drewN ?_ _ | refine blk_drew ?_ | refine blk_alloc ?_ _)); exact BK856.out) hb); have n1_ := Aside0.mk (below_step (by repeat (first | (with_reducible first | exact HB.out | apply below_alloc | apply pw_below_drewN | apply below_drew1 | refine below_set ?_ GE856.out) | exact HB.out)) hb); clear BK856; clear HB; have BK856 := n0_; have HB := n1_; clear n0_ n1_; (try clear hb); (try clear hb2); (try clear hk); (try clear hi)))
                go_meet
                case rel => exact ⟨_, (false), (by first | rfl | (simp; done) | (simp [*]; done)), H', ⟨by first | omega | exact Nat.le_refl _⟩, ⟨by (with_reducible repeat (first | refine blk_drewN ?_ _ | refine blk_drew ?_ | refine blk_alloc ?_ _)); exact BK856.out⟩, ⟨by repeat (first | (with_reducible first | exact HB.out | apply below_alloc | apply pw_below_drewN | apply below_drew1 | refine below_set ?_ GE856.out) | exact HB.out)⟩⟩
            · replace c15 := Bool.eq_false_iff.mpr c15
              subst c15
              have H1 : (trunnionlaw08_OrderChain.j0 k a0 true a1_0 a1_1 a1_2) = some r := by rw [if_neg (show ¬ (false = true) by decide)] at H; exact H
              clear H
              have H := H1
              clear H1
              have H' := Aside0.mk H
              clear H
              have hcz51_0 : w9.cell? ⟨gb856, 0, none⟩ = some (.int .u64 a1_0) := (blk_cell BK856.out 0).trans rfl
              have hcz51_1 : w9.cell? ⟨gb856, 1, none⟩ = some (.int .u64 a1_1) := (blk_cell BK856.out 1).trans rfl
              have hcz51_2 : w9.cell? ⟨gb856, 2, none⟩ = some (.int .u64 a1_2) := (blk_cell BK856.out 2).trans rfl
              have hfz51_0 := blk_frozen BK856.out 0
              have hfz51_1 := blk_frozen BK856.out 1
              have hfz51_2 := blk_frozen BK856.out 2
              go_wp2_with (first | ((with_reducible refine gate_callee (f := 102) rfl ?_); refine goesL_ (some 15) rfl rfl Try.func102 (by kernel_rfl) rfl #[.int .i64 a0, .int .u64 a1_0, .int .u64 a1_1] rfl (by (try simp only [List.map_toArray, List.map_cons, List.map_nil]); first | done | rfl | (simp only [List.length_drop, List.length_take]; rfl)) ?_; (with_reducible refine (order_Lt.calls k a0 a1_0 a1_1 true _ A10.out).mono ?_); rintro e w52 ⟨rfl, hb⟩; refine ⟨_, rfl, ?_⟩; have n0_ := Aside0.mk (blk_below (g := gb856) (o := .cells #[.int .u64 a1_0, .int .u64 a1_1, .int .u64 a1_2] 91 (0, 0)) (by (with_reducible repeat (first | refine blk_drewN ?_ _ | refine blk_drew ?_ | refine blk_alloc ?_ _)); exact BK856.out) hb); have n1_ := Aside0.mk (below_step (by repeat (first | (with_reducible first | exact HB.out | apply below_alloc | apply pw_below_drewN | apply below_drew1 | refine below_set ?_ GE856.out) | exact HB.out)) hb); clear BK856; clear HB; have BK856 := n0_; have HB := n1_; clear n0_ n1_; (try clear hb); (try clear hb2); (try clear hk); (try clear hi); have hcz53_0 : w52.cell? ⟨gb856, 0, none⟩ = some (.int .u64 a1_0) := (blk_cell BK856.out 0).trans rfl; have hcz53_1 : w52.cell? ⟨gb856, 1, none⟩ = some (.int .u64 a1_1) := (blk_cell BK856.out 1).trans rfl; have hcz53_2 : w52.cell? ⟨gb856, 2, none⟩ = some (.int .u64 a1_2) := (blk_cell BK856.out 2).trans rfl; have hfz53_0 := blk_frozen BK856.out 0; have hfz53_1 := blk_frozen BK856.out 1; have hfz53_2 := blk_frozen BK856.out 2) | (go_at_call 102; (with_reducible refine (order_Lt.calls k a0 a1_1 a1_2 true _ A12.out).mono ?_); rintro e w54 ⟨rfl, hb⟩; have n0_ := Aside0.mk (blk_below (g := gb856) (o := .cells #[.int .u64 a1_0, .int .u64 a1_1, .int .u64 a1_2] 91 (0, 0)) (by (with_reducible repeat (first | refine blk_drewN ?_ _ | refine blk_drew ?_ | refine blk_alloc ?_ _)); exact BK856.out) hb); have n1_ := Aside0.mk (below_step (by repeat (first | (with_reducible first | exact HB.out | apply below_alloc | apply pw_below_drewN | apply below_drew1 | refine below_set ?_ GE856.out) | exact HB.out)) hb); clear BK856; clear HB; have BK856 := n0_; have HB := n1_; clear n0_ n1_; (try clear hb); (try clear hb2); (try clear hk); (try clear hi); have hcz55_0 : w54.cell? ⟨gb856, 0, none⟩ = some (.int .u64 a1_0) := (blk_cell BK856.out 0).trans rfl; have hcz55_1 : w54.cell? ⟨gb856, 1, none⟩ = some (.int .u64 a1_1) := (blk_cell BK856.out 1).trans rfl; have hcz55_2 : w54.cell? ⟨gb856, 2, none⟩ = some (.int .u64 a1_2) := (blk_cell BK856.out 2).trans rfl; have hfz55_0 := blk_frozen BK856.out 0; have hfz55_1 := blk_frozen BK856.out 1; have hfz55_2 := blk_frozen BK856.out 2) | (go_at_call 102; (with_reducible refine (order_Lt.calls k a0 a1_0 a1_2 false _ A14.out).mono ?_); rintro e w56 ⟨rfl, hb⟩; have n0_ := Aside0.mk (blk_below (g := gb856) (o := .cells #[.int .u64 a1_0, .int .u64 a1_1, .int .u64 a1_2] 91 (0, 0)) (by (with_reducible repeat (first | refine blk_drewN ?_ _ | refine blk_drew ?_ | refine blk_alloc ?_ _)); exact BK856.out) hb); have n1_ := Aside0.mk (below_step (by repeat (first | (with_reducible first | exact HB.out | apply below_alloc | apply pw_below_drewN | apply below_drew1 | refine below_set ?_ GE856.out) | exact HB.out)) hb); clear BK856; clear HB; have BK856 := n0_; have HB := n1_; clear n0_ n1_; (try clear hb); (try clear hb2); (try clear hk); (try clear hi)))
              go_meet
              case rel => exact ⟨_, (true), (by first | rfl | (simp; done) | (simp [*]; done)), H', ⟨by first | omega | exact Nat.le_refl _⟩, ⟨by (with_reducible repeat (first | refine blk_drewN ?_ _ | refine blk_drew ?_ | refine blk_alloc ?_ _)); exact BK856.out⟩, ⟨by repeat (first | (with_reducible first | exact HB.out | apply below_alloc | apply pw_below_drewN | apply below_drew1 | refine below_set ?_ GE856.out) | exact HB.out)⟩⟩
          · replace c13 := Bool.eq_false_iff.mpr c13
            subst c13
            have H1 : ((order_Le.f k a0 a1_0 a1_1).bind fun t865 => (if t865 = true then ((order_Le.f k a0 a1_1 a1_2).bind fun t866 => (if t866 = true then ((order_Le.f k a0 a1_0 a1_2).bind fun t867 => (trunnionlaw08_OrderChain.j0 k a0 (!t867) a1_0 a1_1 a1_2)) else (trunnionlaw08_OrderChain.j0 k a0 false a1_0 a1_1 a1_2))) else (trunnionlaw08_OrderChain.j0 k a0 false a1_0 a1_1 a1_2))) = some r := by rw [if_neg (show ¬ (false = true) by decide)] at H; exact H
            clear H
            have H := H1
            clear H1
            replace H := Option.bind_eq_some_iff.mp H
            obtain ⟨t865, A570, H⟩ := H
            replace H : (if t865 = true then ((order_Le.f k a0 a1_1 a1_2).bind fun t866 => (if t866 = true then ((order_Le.f k a0 a1_0 a1_2).bind fun t867 => (trunnionlaw08_OrderChain.j0 k a0 (!t867) a1_0 a1_1 a1_2)) else (trunnionlaw08_OrderChain.j0 k a0 false a1_0 a1_1 a1_2))) else (trunnionlaw08_OrderChain.j0 k a0 false a1_0 a1_1 a1_2)) = some r := H
            have A57 := Aside0.mk A570
            clear A570
            by_cases c58 : t865 = true
            · subst c58
              have H1 : ((order_Le.f k a0 a1_1 a1_2).bind fun t866 => (if t866 = true then ((order_Le.f k a0 a1_0 a1_2).bind fun t867 => (trunnionlaw08_OrderChain.j0 k a0 (!t867) a1_0 a1_1 a1_2)) else (trunnionlaw08_OrderChain.j0 k a0 false a1_0 a1_1 a1_2))) = some r := by rw [if_pos rfl] at H; exact H
              clear H
              have H := H1
              clear H1
              replace H := Option.bind_eq_some_iff.mp H
              obtain ⟨t866, A590, H⟩ := H
              replace H : (if t866 = true then ((order_Le.f k a0 a1_0 a1_2).bind fun t867 => (trunnionlaw08_OrderChain.j0 k a0 (!t867) a1_0 a1_1 a1_2)) else (trunnionlaw08_OrderChain.j0 k a0 false a1_0 a1_1 a1_2)) = some r := H
              have A59 := Aside0.mk A590
              clear A590
              by_cases c60 : t866 = true
              · subst c60
                have H1 : ((order_Le.f k a0 a1_0 a1_2).bind fun t867 => (trunnionlaw08_OrderChain.j0 k a0 (!t867) a1_0 a1_1 a1_2)) = some r := by rw [if_pos rfl] at H; exact H
                clear H
                have H := H1
                clear H1
                replace H := Option.bind_eq_some_iff.mp H
                obtain ⟨t867, A610, H⟩ := H
                replace H : (trunnionlaw08_OrderChain.j0 k a0 (!t867) a1_0 a1_1 a1_2) = some r := H
                have A61 := Aside0.mk A610
                clear A610
                have H' := Aside0.mk H
                clear H
                have hcz62_0 : w9.cell? ⟨gb856, 0, none⟩ = some (.int .u64 a1_0) := (blk_cell BK856.out 0).trans rfl
                have hcz62_1 : w9.cell? ⟨gb856, 1, none⟩ = some (.int .u64 a1_1) := (blk_cell BK856.out 1).trans rfl
                have hcz62_2 : w9.cell? ⟨gb856, 2, none⟩ = some (.int .u64 a1_2) := (blk_cell BK856.out 2).trans rfl
                have hfz62_0 := blk_frozen BK856.out 0
                have hfz62_1 := blk_frozen BK856.out 1
                have hfz62_2 := blk_frozen BK856.out 2
                go_wp2_with (first | ((with_reducible refine gate_callee (f := 102) rfl ?_); refine goesL_ (some 15) rfl rfl Try.func102 (by kernel_rfl) rfl #[.int .i64 a0, .int .u64 a1_0, .int .u64 a1_1] rfl (by (try simp only [List.map_toArray, List.map_cons, List.map_nil]); first | done | rfl | (simp only [List.length_drop, List.length_take]; rfl)) ?_; (with_reducible refine (order_Lt.calls k a0 a1_0 a1_1 true _ A10.out).mono ?_); rintro e w63 ⟨rfl, hb⟩; refine ⟨_, rfl, ?_⟩; have n0_ := Aside0.mk (blk_below (g := gb856) (o := .cells #[.int .u64 a1_0, .int .u64 a1_1, .int .u64 a1_2] 91 (0, 0)) (by (with_reducible repeat (first | refine blk_drewN ?_ _ | refine blk_drew ?_ | refine blk_alloc ?_ _)); exact BK856.out) hb); have n1_ := Aside0.mk (below_step (by repeat (first | (with_reducible first | exact HB.out | apply below_alloc | apply pw_below_drewN | apply below_drew1 | refine below_set ?_ GE856.out) | exact HB.out)) hb); clear BK856; clear HB; have BK856 := n0_; have HB := n1_; clear n0_ n1_; (try clear hb); (try clear hb2); (try clear hk); (try clear hi); have hcz64_0 : w63.cell? ⟨gb856, 0, none⟩ = some (.int .u64 a1_0) := (blk_cell BK856.out 0).trans rfl; have hcz64_1 : w63.cell? ⟨gb856, 1, none⟩ = some (.int .u64 a1_1) := (blk_cell BK856.out 1).trans rfl; have hcz64_2 : w63.cell? ⟨gb856, 2, none⟩ = some (.int .u64 a1_2) := (blk_cell BK856.out 2).trans rfl; have hfz64_0 := blk_frozen BK856.out 0; have hfz64_1 := blk_frozen BK856.out 1; have hfz64_2 := blk_frozen BK856.out 2) | (go_at_call 102; (with_reducible refine (order_Lt.calls k a0 a1_1 a1_2 false _ A12.out).mono ?_); rintro e w65 ⟨rfl, hb⟩; have n0_ := Aside0.mk (blk_below (g := gb856) (o := .cells #[.int .u64 a1_0, .int .u64 a1_1, .int .u64 a1_2] 91 (0, 0)) (by (with_reducible repeat (first | refine blk_drewN ?_ _ | refine blk_drew ?_ | refine blk_alloc ?_ _)); exact BK856.out) hb); have n1_ := Aside0.mk (below_step (by repeat (first | (with_reducible first | exact HB.out | apply below_alloc | apply pw_below_drewN | apply below_drew1 | refine below_set ?_ GE856.out) | exact HB.out)) hb); clear BK856; clear HB; have BK856 := n0_; have HB := n1_; clear n0_ n1_; (try clear hb); (try clear hb2); (try clear hk); (try clear hi); have hcz66_0 : w65.cell? ⟨gb856, 0, none⟩ = some (.int .u64 a1_0) := (blk_cell BK856.out 0).trans rfl; have hcz66_1 : w65.cell? ⟨gb856, 1, none⟩ = some (.int .u64 a1_1) := (blk_cell BK856.out 1).trans rfl; have hcz66_2 : w65.cell? ⟨gb856, 2, none⟩ = some (.int .u64 a1_2) := (blk_cell BK856.out 2).trans rfl; have hfz66_0 := blk_frozen BK856.out 0; have hfz66_1 := blk_frozen BK856.out 1; have hfz66_2 := blk_frozen BK856.out 2) | (go_at_call 104; (with_reducible refine (order_Le.calls k a0 a1_0 a1_1 true _ A57.out).mono ?_); rintro e w67 ⟨rfl, hb⟩; have n0_ := Aside0.mk (blk_below (g := gb856) (o := .cells #[.int .u64 a1_0, .int .u64 a1_1, .int .u64 a1_2] 91 (0, 0)) (by (with_reducible repeat (first | refine blk_drewN ?_ _ | refine blk_drew ?_ | refine blk_alloc ?_ _)); exact BK856.out) hb); have n1_ := Aside0.mk (below_step (by repeat (first | (with_reducible first | exact HB.out | apply below_alloc | apply pw_below_drewN | apply below_drew1 | refine below_set ?_ GE856.out) | exact HB.out)) hb); clear BK856; clear HB; have BK856 := n0_; have HB := n1_; clear n0_ n1_; (try clear hb); (try clear hb2); (try clear hk); (try clear hi); have hcz68_0 : w67.cell? ⟨gb856, 0, none⟩ = some (.int .u64 a1_0) := (blk_cell BK856.out 0).trans rfl; have hcz68_1 : w67.cell? ⟨gb856, 1, none⟩ = some (.int .u64 a1_1) := (blk_cell BK856.out 1).trans rfl; have hcz68_2 : w67.cell? ⟨gb856, 2, none⟩ = some (.int .u64 a1_2) := (blk_cell BK856.out 2).trans rfl; have hfz68_0 := blk_frozen BK856.out 0; have hfz68_1 := blk_frozen BK856.out 1; have hfz68_2 := blk_frozen BK856.out 2) | (go_at_call 104; (with_reducible refine (order_Le.calls k a0 a1_1 a1_2 true _ A59.out).mono ?_); rintro e w69 ⟨rfl, hb⟩; have n0_ := Aside0.mk (blk_below (g := gb856) (o := .cells #[.int .u64 a1_0, .int .u64 a1_1, .int .u64 a1_2] 91 (0, 0)) (by (with_reducible repeat (first | refine blk_drewN ?_ _ | refine blk_drew ?_ | refine blk_alloc ?_ _)); exact BK856.out) hb); have n1_ := Aside0.mk (below_step (by repeat (first | (with_reducible first | exact HB.out | apply below_alloc | apply pw_below_drewN | apply below_drew1 | refine below_set ?_ GE856.out) | exact HB.out)) hb); clear BK856; clear HB; have BK856 := n0_; have HB := n1_; clear n0_ n1_; (try clear hb); (try clear hb2); (try clear hk); (try clear hi); have hcz70_0 : w69.cell? ⟨gb856, 0, none⟩ = some (.int .u64 a1_0) := (blk_cell BK856.out 0).trans rfl; have hcz70_1 : w69.cell? ⟨gb856, 1, none⟩ = some (.int .u64 a1_1) := (blk_cell BK856.out 1).trans rfl; have hcz70_2 : w69.cell? ⟨gb856, 2, none⟩ = some (.int .u64 a1_2) := (blk_cell BK856.out 2).trans rfl; have hfz70_0 := blk_frozen BK856.out 0; have hfz70_1 := blk_frozen BK856.out 1; have hfz70_2 := blk_frozen BK856.out 2) | (go_at_call 104; (with_reducible refine (order_Le.calls k a0 a1_0 a1_2 t867 _ A61.out).mono ?_); rintro e w71 ⟨rfl, hb⟩; have n0_ := Aside0.mk (blk_below (g := gb856) (o := .cells #[.int .u64 a1_0, .int .u64 a1_1, .int .u64 a1_2] 91 (0, 0)) (by (with_reducible repeat (first | refine blk_drewN ?_ _ | refine blk_drew ?_ | refine blk_alloc ?_ _)); exact BK856.out) hb); have n1_ := Aside0.mk (below_step (by repeat (first | (with_reducible first | exact HB.out | apply below_alloc | apply pw_below_drewN | apply below_drew1 | refine below_set ?_ GE856.out) | exact HB.out)) hb); clear BK856; clear HB; have BK856 := n0_; have HB := n1_; clear n0_ n1_; (try clear hb); (try clear hb2); (try clear hk); (try clear hi)))
                go_meet
                case rel => exact ⟨_, (!t867), (by first | rfl | (simp; done) | (simp [*]; done)), H', ⟨by first | omega | exact Nat.le_refl _⟩, ⟨by (with_reducible repeat (first | refine blk_drewN ?_ _ | refine blk_drew ?_ | refine blk_alloc ?_ _)); exact BK856.out⟩, ⟨by repeat (first | (with_reducible first | exact HB.out | apply below_alloc | apply pw_below_drewN | apply below_drew1 | refine below_set ?_ GE856.out) | exact HB.out)⟩⟩
              · replace c60 := Bool.eq_false_iff.mpr c60
                subst c60
                have H1 : (trunnionlaw08_OrderChain.j0 k a0 false a1_0 a1_1 a1_2) = some r := by rw [if_neg (show ¬ (false = true) by decide)] at H; exact H
                clear H
                have H := H1
                clear H1
                have H' := Aside0.mk H
                clear H
                have hcz72_0 : w9.cell? ⟨gb856, 0, none⟩ = some (.int .u64 a1_0) := (blk_cell BK856.out 0).trans rfl
                have hcz72_1 : w9.cell? ⟨gb856, 1, none⟩ = some (.int .u64 a1_1) := (blk_cell BK856.out 1).trans rfl
                have hcz72_2 : w9.cell? ⟨gb856, 2, none⟩ = some (.int .u64 a1_2) := (blk_cell BK856.out 2).trans rfl
                have hfz72_0 := blk_frozen BK856.out 0
                have hfz72_1 := blk_frozen BK856.out 1
                have hfz72_2 := blk_frozen BK856.out 2
                go_wp2_with (first | ((with_reducible refine gate_callee (f := 102) rfl ?_); refine goesL_ (some 15) rfl rfl Try.func102 (by kernel_rfl) rfl #[.int .i64 a0, .int .u64 a1_0, .int .u64 a1_1] rfl (by (try simp only [List.map_toArray, List.map_cons, List.map_nil]); first | done | rfl | (simp only [List.length_drop, List.length_take]; rfl)) ?_; (with_reducible refine (order_Lt.calls k a0 a1_0 a1_1 true _ A10.out).mono ?_); rintro e w73 ⟨rfl, hb⟩; refine ⟨_, rfl, ?_⟩; have n0_ := Aside0.mk (blk_below (g := gb856) (o := .cells #[.int .u64 a1_0, .int .u64 a1_1, .int .u64 a1_2] 91 (0, 0)) (by (with_reducible repeat (first | refine blk_drewN ?_ _ | refine blk_drew ?_ | refine blk_alloc ?_ _)); exact BK856.out) hb); have n1_ := Aside0.mk (below_step (by repeat (first | (with_reducible first | exact HB.out | apply below_alloc | apply pw_below_drewN | apply below_drew1 | refine below_set ?_ GE856.out) | exact HB.out)) hb); clear BK856; clear HB; have BK856 := n0_; have HB := n1_; clear n0_ n1_; (try clear hb); (try clear hb2); (try clear hk); (try clear hi); have hcz74_0 : w73.cell? ⟨gb856, 0, none⟩ = some (.int .u64 a1_0) := (blk_cell BK856.out 0).trans rfl; have hcz74_1 : w73.cell? ⟨gb856, 1, none⟩ = some (.int .u64 a1_1) := (blk_cell BK856.out 1).trans rfl; have hcz74_2 : w73.cell? ⟨gb856, 2, none⟩ = some (.int .u64 a1_2) := (blk_cell BK856.out 2).trans rfl; have hfz74_0 := blk_frozen BK856.out 0; have hfz74_1 := blk_frozen BK856.out 1; have hfz74_2 := blk_frozen BK856.out 2) | (go_at_call 102; (with_reducible refine (order_Lt.calls k a0 a1_1 a1_2 false _ A12.out).mono ?_); rintro e w75 ⟨rfl, hb⟩; have n0_ := Aside0.mk (blk_below (g := gb856) (o := .cells #[.int .u64 a1_0, .int .u64 a1_1, .int .u64 a1_2] 91 (0, 0)) (by (with_reducible repeat (first | refine blk_drewN ?_ _ | refine blk_drew ?_ | refine blk_alloc ?_ _)); exact BK856.out) hb); have n1_ := Aside0.mk (below_step (by repeat (first | (with_reducible first | exact HB.out | apply below_alloc | apply pw_below_drewN | apply below_drew1 | refine below_set ?_ GE856.out) | exact HB.out)) hb); clear BK856; clear HB; have BK856 := n0_; have HB := n1_; clear n0_ n1_; (try clear hb); (try clear hb2); (try clear hk); (try clear hi); have hcz76_0 : w75.cell? ⟨gb856, 0, none⟩ = some (.int .u64 a1_0) := (blk_cell BK856.out 0).trans rfl; have hcz76_1 : w75.cell? ⟨gb856, 1, none⟩ = some (.int .u64 a1_1) := (blk_cell BK856.out 1).trans rfl; have hcz76_2 : w75.cell? ⟨gb856, 2, none⟩ = some (.int .u64 a1_2) := (blk_cell BK856.out 2).trans rfl; have hfz76_0 := blk_frozen BK856.out 0; have hfz76_1 := blk_frozen BK856.out 1; have hfz76_2 := blk_frozen BK856.out 2) | (go_at_call 104; (with_reducible refine (order_Le.calls k a0 a1_0 a1_1 true _ A57.out).mono ?_); rintro e w77 ⟨rfl, hb⟩; have n0_ := Aside0.mk (blk_below (g := gb856) (o := .cells #[.int .u64 a1_0, .int .u64 a1_1, .int .u64 a1_2] 91 (0, 0)) (by (with_reducible repeat (first | refine blk_drewN ?_ _ | refine blk_drew ?_ | refine blk_alloc ?_ _)); exact BK856.out) hb); have n1_ := Aside0.mk (below_step (by repeat (first | (with_reducible first | exact HB.out | apply below_alloc | apply pw_below_drewN | apply below_drew1 | refine below_set ?_ GE856.out) | exact HB.out)) hb); clear BK856; clear HB; have BK856 := n0_; have HB := n1_; clear n0_ n1_; (try clear hb); (try clear hb2); (try clear hk); (try clear hi); have hcz78_0 : w77.cell? ⟨gb856, 0, none⟩ = some (.int .u64 a1_0) := (blk_cell BK856.out 0).trans rfl; have hcz78_1 : w77.cell? ⟨gb856, 1, none⟩ = some (.int .u64 a1_1) := (blk_cell BK856.out 1).trans rfl; have hcz78_2 : w77.cell? ⟨gb856, 2, none⟩ = some (.int .u64 a1_2) := (blk_cell BK856.out 2).trans rfl; have hfz78_0 := blk_frozen BK856.out 0; have hfz78_1 := blk_frozen BK856.out 1; have hfz78_2 := blk_frozen BK856.out 2) | (go_at_call 104; (with_reducible refine (order_Le.calls k a0 a1_1 a1_2 false _ A59.out).mono ?_); rintro e w79 ⟨rfl, hb⟩; have n0_ := Aside0.mk (blk_below (g := gb856) (o := .cells #[.int .u64 a1_0, .int .u64 a1_1, .int .u64 a1_2] 91 (0, 0)) (by (with_reducible repeat (first | refine blk_drewN ?_ _ | refine blk_drew ?_ | refine blk_alloc ?_ _)); exact BK856.out) hb); have n1_ := Aside0.mk (below_step (by repeat (first | (with_reducible first | exact HB.out | apply below_alloc | apply pw_below_drewN | apply below_drew1 | refine below_set ?_ GE856.out) | exact HB.out)) hb); clear BK856; clear HB; have BK856 := n0_; have HB := n1_; clear n0_ n1_; (try clear hb); (try clear hb2); (try clear hk); (try clear hi)))
                go_meet
                case rel => exact ⟨_, (false), (by first | rfl | (simp; done) | (simp [*]; done)), H', ⟨by first | omega | exact Nat.le_refl _⟩, ⟨by (with_reducible repeat (first | refine blk_drewN ?_ _ | refine blk_drew ?_ | refine blk_alloc ?_ _)); exact BK856.out⟩, ⟨by repeat (first | (with_reducible first | exact HB.out | apply below_alloc | apply pw_below_drewN | apply below_drew1 | refine below_set ?_ GE856.out) | exact HB.out)⟩⟩
            · replace c58 := Bool.eq_false_iff.mpr c58
              subst c58
              have H1 : (trunnionlaw08_OrderChain.j0 k a0 false a1_0 a1_1 a1_2) = some r := by rw [if_neg (show ¬ (false = true) by decide)] at H; exact H
              clear H
              have H := H1
              clear H1
              have H' := Aside0.mk H
              clear H
              have hcz80_0 : w9.cell? ⟨gb856, 0, none⟩ = some (.int .u64 a1_0) := (blk_cell BK856.out 0).trans rfl
              have hcz80_1 : w9.cell? ⟨gb856, 1, none⟩ = some (.int .u64 a1_1) := (blk_cell BK856.out 1).trans rfl
              have hcz80_2 : w9.cell? ⟨gb856, 2, none⟩ = some (.int .u64 a1_2) := (blk_cell BK856.out 2).trans rfl
              have hfz80_0 := blk_frozen BK856.out 0
              have hfz80_1 := blk_frozen BK856.out 1
              have hfz80_2 := blk_frozen BK856.out 2
              go_wp2_with (first | ((with_reducible refine gate_callee (f := 102) rfl ?_); refine goesL_ (some 15) rfl rfl Try.func102 (by kernel_rfl) rfl #[.int .i64 a0, .int .u64 a1_0, .int .u64 a1_1] rfl (by (try simp only [List.map_toArray, List.map_cons, List.map_nil]); first | done | rfl | (simp only [List.length_drop, List.length_take]; rfl)) ?_; (with_reducible refine (order_Lt.calls k a0 a1_0 a1_1 true _ A10.out).mono ?_); rintro e w81 ⟨rfl, hb⟩; refine ⟨_, rfl, ?_⟩; have n0_ := Aside0.mk (blk_below (g := gb856) (o := .cells #[.int .u64 a1_0, .int .u64 a1_1, .int .u64 a1_2] 91 (0, 0)) (by (with_reducible repeat (first | refine blk_drewN ?_ _ | refine blk_drew ?_ | refine blk_alloc ?_ _)); exact BK856.out) hb); have n1_ := Aside0.mk (below_step (by repeat (first | (with_reducible first | exact HB.out | apply below_alloc | apply pw_below_drewN | apply below_drew1 | refine below_set ?_ GE856.out) | exact HB.out)) hb); clear BK856; clear HB; have BK856 := n0_; have HB := n1_; clear n0_ n1_; (try clear hb); (try clear hb2); (try clear hk); (try clear hi); have hcz82_0 : w81.cell? ⟨gb856, 0, none⟩ = some (.int .u64 a1_0) := (blk_cell BK856.out 0).trans rfl; have hcz82_1 : w81.cell? ⟨gb856, 1, none⟩ = some (.int .u64 a1_1) := (blk_cell BK856.out 1).trans rfl; have hcz82_2 : w81.cell? ⟨gb856, 2, none⟩ = some (.int .u64 a1_2) := (blk_cell BK856.out 2).trans rfl; have hfz82_0 := blk_frozen BK856.out 0; have hfz82_1 := blk_frozen BK856.out 1; have hfz82_2 := blk_frozen BK856.out 2) | (go_at_call 102; (with_reducible refine (order_Lt.calls k a0 a1_1 a1_2 false _ A12.out).mono ?_); rintro e w83 ⟨rfl, hb⟩; have n0_ := Aside0.mk (blk_below (g := gb856) (o := .cells #[.int .u64 a1_0, .int .u64 a1_1, .int .u64 a1_2] 91 (0, 0)) (by (with_reducible repeat (first | refine blk_drewN ?_ _ | refine blk_drew ?_ | refine blk_alloc ?_ _)); exact BK856.out) hb); have n1_ := Aside0.mk (below_step (by repeat (first | (with_reducible first | exact HB.out | apply below_alloc | apply pw_below_drewN | apply below_drew1 | refine below_set ?_ GE856.out) | exact HB.out)) hb); clear BK856; clear HB; have BK856 := n0_; have HB := n1_; clear n0_ n1_; (try clear hb); (try clear hb2); (try clear hk); (try clear hi); have hcz84_0 : w83.cell? ⟨gb856, 0, none⟩ = some (.int .u64 a1_0) := (blk_cell BK856.out 0).trans rfl; have hcz84_1 : w83.cell? ⟨gb856, 1, none⟩ = some (.int .u64 a1_1) := (blk_cell BK856.out 1).trans rfl; have hcz84_2 : w83.cell? ⟨gb856, 2, none⟩ = some (.int .u64 a1_2) := (blk_cell BK856.out 2).trans rfl; have hfz84_0 := blk_frozen BK856.out 0; have hfz84_1 := blk_frozen BK856.out 1; have hfz84_2 := blk_frozen BK856.out 2) | (go_at_call 104; (with_reducible refine (order_Le.calls k a0 a1_0 a1_1 false _ A57.out).mono ?_); rintro e w85 ⟨rfl, hb⟩; have n0_ := Aside0.mk (blk_below (g := gb856) (o := .cells #[.int .u64 a1_0, .int .u64 a1_1, .int .u64 a1_2] 91 (0, 0)) (by (with_reducible repeat (first | refine blk_drewN ?_ _ | refine blk_drew ?_ | refine blk_alloc ?_ _)); exact BK856.out) hb); have n1_ := Aside0.mk (below_step (by repeat (first | (with_reducible first | exact HB.out | apply below_alloc | apply pw_below_drewN | apply below_drew1 | refine below_set ?_ GE856.out) | exact HB.out)) hb); clear BK856; clear HB; have BK856 := n0_; have HB := n1_; clear n0_ n1_; (try clear hb); (try clear hb2); (try clear hk); (try clear hi)))
              go_meet
              case rel => exact ⟨_, (false), (by first | rfl | (simp; done) | (simp [*]; done)), H', ⟨by first | omega | exact Nat.le_refl _⟩, ⟨by (with_reducible repeat (first | refine blk_drewN ?_ _ | refine blk_drew ?_ | refine blk_alloc ?_ _)); exact BK856.out⟩, ⟨by repeat (first | (with_reducible first | exact HB.out | apply below_alloc | apply pw_below_drewN | apply below_drew1 | refine below_set ?_ GE856.out) | exact HB.out)⟩⟩
        · replace c11 := Bool.eq_false_iff.mpr c11
          subst c11
          have H1 : ((order_Le.f k a0 a1_0 a1_1).bind fun t868 => (if t868 = true then ((order_Le.f k a0 a1_1 a1_2).bind fun t869 => (if t869 = true then ((order_Le.f k a0 a1_0 a1_2).bind fun t870 => (trunnionlaw08_OrderChain.j0 k a0 (!t870) a1_0 a1_1 a1_2)) else (trunnionlaw08_OrderChain.j0 k a0 false a1_0 a1_1 a1_2))) else (trunnionlaw08_OrderChain.j0 k a0 false a1_0 a1_1 a1_2))) = some r := by rw [if_neg (show ¬ (false = true) by decide)] at H; exact H
          clear H
          have H := H1
          clear H1
          replace H := Option.bind_eq_some_iff.mp H
          obtain ⟨t868, A860, H⟩ := H
          replace H : (if t868 = true then ((order_Le.f k a0 a1_1 a1_2).bind fun t869 => (if t869 = true then ((order_Le.f k a0 a1_0 a1_2).bind fun t870 => (trunnionlaw08_OrderChain.j0 k a0 (!t870) a1_0 a1_1 a1_2)) else (trunnionlaw08_OrderChain.j0 k a0 false a1_0 a1_1 a1_2))) else (trunnionlaw08_OrderChain.j0 k a0 false a1_0 a1_1 a1_2)) = some r := H
          have A86 := Aside0.mk A860
          clear A860
          by_cases c87 : t868 = true
          · subst c87
            have H1 : ((order_Le.f k a0 a1_1 a1_2).bind fun t869 => (if t869 = true then ((order_Le.f k a0 a1_0 a1_2).bind fun t870 => (trunnionlaw08_OrderChain.j0 k a0 (!t870) a1_0 a1_1 a1_2)) else (trunnionlaw08_OrderChain.j0 k a0 false a1_0 a1_1 a1_2))) = some r := by rw [if_pos rfl] at H; exact H
            clear H
            have H := H1
            clear H1
            replace H := Option.bind_eq_some_iff.mp H
            obtain ⟨t869, A880, H⟩ := H
            replace H : (if t869 = true then ((order_Le.f k a0 a1_0 a1_2).bind fun t870 => (trunnionlaw08_OrderChain.j0 k a0 (!t870) a1_0 a1_1 a1_2)) else (trunnionlaw08_OrderChain.j0 k a0 false a1_0 a1_1 a1_2)) = some r := H
            have A88 := Aside0.mk A880
            clear A880
            by_cases c89 : t869 = true
            · subst c89
              have H1 : ((order_Le.f k a0 a1_0 a1_2).bind fun t870 => (trunnionlaw08_OrderChain.j0 k a0 (!t870) a1_0 a1_1 a1_2)) = some r := by rw [if_pos rfl] at H; exact H
              clear H
              have H := H1
              clear H1
              replace H := Option.bind_eq_some_iff.mp H
              obtain ⟨t870, A900, H⟩ := H
              replace H : (trunnionlaw08_OrderChain.j0 k a0 (!t870) a1_0 a1_1 a1_2) = some r := H
              have A90 := Aside0.mk A900
              clear A900
              have H' := Aside0.mk H
              clear H
              have hcz91_0 : w9.cell? ⟨gb856, 0, none⟩ = some (.int .u64 a1_0) := (blk_cell BK856.out 0).trans rfl
              have hcz91_1 : w9.cell? ⟨gb856, 1, none⟩ = some (.int .u64 a1_1) := (blk_cell BK856.out 1).trans rfl
              have hcz91_2 : w9.cell? ⟨gb856, 2, none⟩ = some (.int .u64 a1_2) := (blk_cell BK856.out 2).trans rfl
              have hfz91_0 := blk_frozen BK856.out 0
              have hfz91_1 := blk_frozen BK856.out 1
              have hfz91_2 := blk_frozen BK856.out 2
              go_wp2_with (first | ((with_reducible refine gate_callee (f := 102) rfl ?_); refine goesL_ (some 15) rfl rfl Try.func102 (by kernel_rfl) rfl #[.int .i64 a0, .int .u64 a1_0, .int .u64 a1_1] rfl (by (try simp only [List.map_toArray, List.map_cons, List.map_nil]); first | done | rfl | (simp only [List.length_drop, List.length_take]; rfl)) ?_; (with_reducible refine (order_Lt.calls k a0 a1_0 a1_1 false _ A10.out).mono ?_); rintro e w92 ⟨rfl, hb⟩; refine ⟨_, rfl, ?_⟩; have n0_ := Aside0.mk (blk_below (g := gb856) (o := .cells #[.int .u64 a1_0, .int .u64 a1_1, .int .u64 a1_2] 91 (0, 0)) (by (with_reducible repeat (first | refine blk_drewN ?_ _ | refine blk_drew ?_ | refine blk_alloc ?_ _)); exact BK856.out) hb); have n1_ := Aside0.mk (below_step (by repeat (first | (with_reducible first | exact HB.out | apply below_alloc | apply pw_below_drewN | apply below_drew1 | refine below_set ?_ GE856.out) | exact HB.out)) hb); clear BK856; clear HB; have BK856 := n0_; have HB := n1_; clear n0_ n1_; (try clear hb); (try clear hb2); (try clear hk); (try clear hi); have hcz93_0 : w92.cell? ⟨gb856, 0, none⟩ = some (.int .u64 a1_0) := (blk_cell BK856.out 0).trans rfl; have hcz93_1 : w92.cell? ⟨gb856, 1, none⟩ = some (.int .u64 a1_1) := (blk_cell BK856.out 1).trans rfl; have hcz93_2 : w92.cell? ⟨gb856, 2, none⟩ = some (.int .u64 a1_2) := (blk_cell BK856.out 2).trans rfl; have hfz93_0 := blk_frozen BK856.out 0; have hfz93_1 := blk_frozen BK856.out 1; have hfz93_2 := blk_frozen BK856.out 2) | (go_at_call 104; (with_reducible refine (order_Le.calls k a0 a1_0 a1_1 true _ A86.out).mono ?_); rintro e w94 ⟨rfl, hb⟩; have n0_ := Aside0.mk (blk_below (g := gb856) (o := .cells #[.int .u64 a1_0, .int .u64 a1_1, .int .u64 a1_2] 91 (0, 0)) (by (with_reducible repeat (first | refine blk_drewN ?_ _ | refine blk_drew ?_ | refine blk_alloc ?_ _)); exact BK856.out) hb); have n1_ := Aside0.mk (below_step (by repeat (first | (with_reducible first | exact HB.out | apply below_alloc | apply pw_below_drewN | apply below_drew1 | refine below_set ?_ GE856.out) | exact HB.out)) hb); clear BK856; clear HB; have BK856 := n0_; have HB := n1_; clear n0_ n1_; (try clear hb); (try clear hb2); (try clear hk); (try clear hi); have hcz95_0 : w94.cell? ⟨gb856, 0, none⟩ = some (.int .u64 a1_0) := (blk_cell BK856.out 0).trans rfl; have hcz95_1 : w94.cell? ⟨gb856, 1, none⟩ = some (.int .u64 a1_1) := (blk_cell BK856.out 1).trans rfl; have hcz95_2 : w94.cell? ⟨gb856, 2, none⟩ = some (.int .u64 a1_2) := (blk_cell BK856.out 2).trans rfl; have hfz95_0 := blk_frozen BK856.out 0; have hfz95_1 := blk_frozen BK856.out 1; have hfz95_2 := blk_frozen BK856.out 2) | (go_at_call 104; (with_reducible refine (order_Le.calls k a0 a1_1 a1_2 true _ A88.out).mono ?_); rintro e w96 ⟨rfl, hb⟩; have n0_ := Aside0.mk (blk_below (g := gb856) (o := .cells #[.int .u64 a1_0, .int .u64 a1_1, .int .u64 a1_2] 91 (0, 0)) (by (with_reducible repeat (first | refine blk_drewN ?_ _ | refine blk_drew ?_ | refine blk_alloc ?_ _)); exact BK856.out) hb); have n1_ := Aside0.mk (below_step (by repeat (first | (with_reducible first | exact HB.out | apply below_alloc | apply pw_below_drewN | apply below_drew1 | refine below_set ?_ GE856.out) | exact HB.out)) hb); clear BK856; clear HB; have BK856 := n0_; have HB := n1_; clear n0_ n1_; (try clear hb); (try clear hb2); (try clear hk); (try clear hi); have hcz97_0 : w96.cell? ⟨gb856, 0, none⟩ = some (.int .u64 a1_0) := (blk_cell BK856.out 0).trans rfl; have hcz97_1 : w96.cell? ⟨gb856, 1, none⟩ = some (.int .u64 a1_1) := (blk_cell BK856.out 1).trans rfl; have hcz97_2 : w96.cell? ⟨gb856, 2, none⟩ = some (.int .u64 a1_2) := (blk_cell BK856.out 2).trans rfl; have hfz97_0 := blk_frozen BK856.out 0; have hfz97_1 := blk_frozen BK856.out 1; have hfz97_2 := blk_frozen BK856.out 2) | (go_at_call 104; (with_reducible refine (order_Le.calls k a0 a1_0 a1_2 t870 _ A90.out).mono ?_); rintro e w98 ⟨rfl, hb⟩; have n0_ := Aside0.mk (blk_below (g := gb856) (o := .cells #[.int .u64 a1_0, .int .u64 a1_1, .int .u64 a1_2] 91 (0, 0)) (by (with_reducible repeat (first | refine blk_drewN ?_ _ | refine blk_drew ?_ | refine blk_alloc ?_ _)); exact BK856.out) hb); have n1_ := Aside0.mk (below_step (by repeat (first | (with_reducible first | exact HB.out | apply below_alloc | apply pw_below_drewN | apply below_drew1 | refine below_set ?_ GE856.out) | exact HB.out)) hb); clear BK856; clear HB; have BK856 := n0_; have HB := n1_; clear n0_ n1_; (try clear hb); (try clear hb2); (try clear hk); (try clear hi)))
              go_meet
              case rel => exact ⟨_, (!t870), (by first | rfl | (simp; done) | (simp [*]; done)), H', ⟨by first | omega | exact Nat.le_refl _⟩, ⟨by (with_reducible repeat (first | refine blk_drewN ?_ _ | refine blk_drew ?_ | refine blk_alloc ?_ _)); exact BK856.out⟩, ⟨by repeat (first | (with_reducible first | exact HB.out | apply below_alloc | apply pw_below_drewN | apply below_drew1 | refine below_set ?_ GE856.out) | exact HB.out)⟩⟩
            · replace c89 := Bool.eq_false_iff.mpr c89
              subst c89
              have H1 : (trunnionlaw08_OrderChain.j0 k a0 false a1_0 a1_1 a1_2) = some r := by rw [if_neg (show ¬ (false = true) by decide)] at H; exact H
              clear H
              have H := H1
              clear H1
              have H' := Aside0.mk H
              clear H
              have hcz99_0 : w9.cell? ⟨gb856, 0, none⟩ = some (.int .u64 a1_0) := (blk_cell BK856.out 0).trans rfl
              have hcz99_1 : w9.cell? ⟨gb856, 1, none⟩ = some (.int .u64 a1_1) := (blk_cell BK856.out 1).trans rfl
              have hcz99_2 : w9.cell? ⟨gb856, 2, none⟩ = some (.int .u64 a1_2) := (blk_cell BK856.out 2).trans rfl
              have hfz99_0 := blk_frozen BK856.out 0
              have hfz99_1 := blk_frozen BK856.out 1
              have hfz99_2 := blk_frozen BK856.out 2
              go_wp2_with (first | ((with_reducible refine gate_callee (f := 102) rfl ?_); refine goesL_ (some 15) rfl rfl Try.func102 (by kernel_rfl) rfl #[.int .i64 a0, .int .u64 a1_0, .int .u64 a1_1] rfl (by (try simp only [List.map_toArray, List.map_cons, List.map_nil]); first | done | rfl | (simp only [List.length_drop, List.length_take]; rfl)) ?_; (with_reducible refine (order_Lt.calls k a0 a1_0 a1_1 false _ A10.out).mono ?_); rintro e w100 ⟨rfl, hb⟩; refine ⟨_, rfl, ?_⟩; have n0_ := Aside0.mk (blk_below (g := gb856) (o := .cells #[.int .u64 a1_0, .int .u64 a1_1, .int .u64 a1_2] 91 (0, 0)) (by (with_reducible repeat (first | refine blk_drewN ?_ _ | refine blk_drew ?_ | refine blk_alloc ?_ _)); exact BK856.out) hb); have n1_ := Aside0.mk (below_step (by repeat (first | (with_reducible first | exact HB.out | apply below_alloc | apply pw_below_drewN | apply below_drew1 | refine below_set ?_ GE856.out) | exact HB.out)) hb); clear BK856; clear HB; have BK856 := n0_; have HB := n1_; clear n0_ n1_; (try clear hb); (try clear hb2); (try clear hk); (try clear hi); have hcz101_0 : w100.cell? ⟨gb856, 0, none⟩ = some (.int .u64 a1_0) := (blk_cell BK856.out 0).trans rfl; have hcz101_1 : w100.cell? ⟨gb856, 1, none⟩ = some (.int .u64 a1_1) := (blk_cell BK856.out 1).trans rfl; have hcz101_2 : w100.cell? ⟨gb856, 2, none⟩ = some (.int .u64 a1_2) := (blk_cell BK856.out 2).trans rfl; have hfz101_0 := blk_frozen BK856.out 0; have hfz101_1 := blk_frozen BK856.out 1; have hfz101_2 := blk_frozen BK856.out 2) | (go_at_call 104; (with_reducible refine (order_Le.calls k a0 a1_0 a1_1 true _ A86.out).mono ?_); rintro e w102 ⟨rfl, hb⟩; have n0_ := Aside0.mk (blk_below (g := gb856) (o := .cells #[.int .u64 a1_0, .int .u64 a1_1, .int .u64 a1_2] 91 (0, 0)) (by (with_reducible repeat (first | refine blk_drewN ?_ _ | refine blk_drew ?_ | refine blk_alloc ?_ _)); exact BK856.out) hb); have n1_ := Aside0.mk (below_step (by repeat (first | (with_reducible first | exact HB.out | apply below_alloc | apply pw_below_drewN | apply below_drew1 | refine below_set ?_ GE856.out) | exact HB.out)) hb); clear BK856; clear HB; have BK856 := n0_; have HB := n1_; clear n0_ n1_; (try clear hb); (try clear hb2); (try clear hk); (try clear hi); have hcz103_0 : w102.cell? ⟨gb856, 0, none⟩ = some (.int .u64 a1_0) := (blk_cell BK856.out 0).trans rfl; have hcz103_1 : w102.cell? ⟨gb856, 1, none⟩ = some (.int .u64 a1_1) := (blk_cell BK856.out 1).trans rfl; have hcz103_2 : w102.cell? ⟨gb856, 2, none⟩ = some (.int .u64 a1_2) := (blk_cell BK856.out 2).trans rfl; have hfz103_0 := blk_frozen BK856.out 0; have hfz103_1 := blk_frozen BK856.out 1; have hfz103_2 := blk_frozen BK856.out 2) | (go_at_call 104; (with_reducible refine (order_Le.calls k a0 a1_1 a1_2 false _ A88.out).mono ?_); rintro e w104 ⟨rfl, hb⟩; have n0_ := Aside0.mk (blk_below (g := gb856) (o := .cells #[.int .u64 a1_0, .int .u64 a1_1, .int .u64 a1_2] 91 (0, 0)) (by (with_reducible repeat (first | refine blk_drewN ?_ _ | refine blk_drew ?_ | refine blk_alloc ?_ _)); exact BK856.out) hb); have n1_ := Aside0.mk (below_step (by repeat (first | (with_reducible first | exact HB.out | apply below_alloc | apply pw_below_drewN | apply below_drew1 | refine below_set ?_ GE856.out) | exact HB.out)) hb); clear BK856; clear HB; have BK856 := n0_; have HB := n1_; clear n0_ n1_; (try clear hb); (try clear hb2); (try clear hk); (try clear hi)))
              go_meet
              case rel => exact ⟨_, (false), (by first | rfl | (simp; done) | (simp [*]; done)), H', ⟨by first | omega | exact Nat.le_refl _⟩, ⟨by (with_reducible repeat (first | refine blk_drewN ?_ _ | refine blk_drew ?_ | refine blk_alloc ?_ _)); exact BK856.out⟩, ⟨by repeat (first | (with_reducible first | exact HB.out | apply below_alloc | apply pw_below_drewN | apply below_drew1 | refine below_set ?_ GE856.out) | exact HB.out)⟩⟩
          · replace c87 := Bool.eq_false_iff.mpr c87
            subst c87
            have H1 : (trunnionlaw08_OrderChain.j0 k a0 false a1_0 a1_1 a1_2) = some r := by rw [if_neg (show ¬ (false = true) by decide)] at H; exact H
            clear H
            have H := H1
            clear H1
            have H' := Aside0.mk H
            clear H
            have hcz105_0 : w9.cell? ⟨gb856, 0, none⟩ = some (.int .u64 a1_0) := (blk_cell BK856.out 0).trans rfl
            have hcz105_1 : w9.cell? ⟨gb856, 1, none⟩ = some (.int .u64 a1_1) := (blk_cell BK856.out 1).trans rfl
            have hcz105_2 : w9.cell? ⟨gb856, 2, none⟩ = some (.int .u64 a1_2) := (blk_cell BK856.out 2).trans rfl
            have hfz105_0 := blk_frozen BK856.out 0
            have hfz105_1 := blk_frozen BK856.out 1
            have hfz105_2 := blk_frozen BK856.out 2
            go_wp2_with (first | ((with_reducible refine gate_callee (f := 102) rfl ?_); refine goesL_ (some 15) rfl rfl Try.func102 (by kernel_rfl) rfl #[.int .i64 a0, .int .u64 a1_0, .int .u64 a1_1] rfl (by (try simp only [List.map_toArray, List.map_cons, List.map_nil]); first | done | rfl | (simp only [List.length_drop, List.length_take]; rfl)) ?_; (with_reducible refine (order_Lt.calls k a0 a1_0 a1_1 false _ A10.out).mono ?_); rintro e w106 ⟨rfl, hb⟩; refine ⟨_, rfl, ?_⟩; have n0_ := Aside0.mk (blk_below (g := gb856) (o := .cells #[.int .u64 a1_0, .int .u64 a1_1, .int .u64 a1_2] 91 (0, 0)) (by (with_reducible repeat (first | refine blk_drewN ?_ _ | refine blk_drew ?_ | refine blk_alloc ?_ _)); exact BK856.out) hb); have n1_ := Aside0.mk (below_step (by repeat (first | (with_reducible first | exact HB.out | apply below_alloc | apply pw_below_drewN | apply below_drew1 | refine below_set ?_ GE856.out) | exact HB.out)) hb); clear BK856; clear HB; have BK856 := n0_; have HB := n1_; clear n0_ n1_; (try clear hb); (try clear hb2); (try clear hk); (try clear hi); have hcz107_0 : w106.cell? ⟨gb856, 0, none⟩ = some (.int .u64 a1_0) := (blk_cell BK856.out 0).trans rfl; have hcz107_1 : w106.cell? ⟨gb856, 1, none⟩ = some (.int .u64 a1_1) := (blk_cell BK856.out 1).trans rfl; have hcz107_2 : w106.cell? ⟨gb856, 2, none⟩ = some (.int .u64 a1_2) := (blk_cell BK856.out 2).trans rfl; have hfz107_0 := blk_frozen BK856.out 0; have hfz107_1 := blk_frozen BK856.out 1; have hfz107_2 := blk_frozen BK856.out 2) | (go_at_call 104; (with_reducible refine (order_Le.calls k a0 a1_0 a1_1 false _ A86.out).mono ?_); rintro e w108 ⟨rfl, hb⟩; have n0_ := Aside0.mk (blk_below (g := gb856) (o := .cells #[.int .u64 a1_0, .int .u64 a1_1, .int .u64 a1_2] 91 (0, 0)) (by (with_reducible repeat (first | refine blk_drewN ?_ _ | refine blk_drew ?_ | refine blk_alloc ?_ _)); exact BK856.out) hb); have n1_ := Aside0.mk (below_step (by repeat (first | (with_reducible first | exact HB.out | apply below_alloc | apply pw_below_drewN | apply below_drew1 | refine below_set ?_ GE856.out) | exact HB.out)) hb); clear BK856; clear HB; have BK856 := n0_; have HB := n1_; clear n0_ n1_; (try clear hb); (try clear hb2); (try clear hk); (try clear hi)))
            go_meet
            case rel => exact ⟨_, (false), (by first | rfl | (simp; done) | (simp [*]; done)), H', ⟨by first | omega | exact Nat.le_refl _⟩, ⟨by (with_reducible repeat (first | refine blk_drewN ?_ _ | refine blk_drew ?_ | refine blk_alloc ?_ _)); exact BK856.out⟩, ⟨by repeat (first | (with_reducible first | exact HB.out | apply below_alloc | apply pw_below_drewN | apply below_drew1 | refine below_set ?_ GE856.out) | exact HB.out)⟩⟩
      case rest =>
        clear HC7
        try clear c1
        try clear c2
        try clear p2
        try clear c4
        try clear c5
        try clear c6
        try clear c8
        try clear c9
        try clear c10
        try clear c11
        try clear c13
        try clear c15
        try clear c17
        try clear c19
        try clear c21
        try clear c29
        try clear c58
        try clear c60
        try clear c87
        try clear c89
        try clear c93
        try clear c102
        try clear hcz101_0
        try clear hcz101_1
        try clear hcz101_2
        try clear hcz103_0
        try clear hcz103_1
        try clear hcz103_2
        try clear hcz105_0
        try clear hcz105_1
        try clear hcz105_2
        try clear hcz107_0
        try clear hcz107_1
        try clear hcz107_2
        try clear hcz21_0
        try clear hcz21_1
        try clear hcz21_2
        try clear hcz23_0
        try clear hcz23_1
        try clear hcz23_2
        try clear hcz25_0
        try clear hcz25_1
        try clear hcz25_2
        try clear hcz27_0
        try clear hcz27_1
        try clear hcz27_2
        try clear hcz29_0
        try clear hcz29_1
        try clear hcz29_2
        try clear hcz31_0
        try clear hcz31_1
        try clear hcz31_2
        try clear hcz33_0
        try clear hcz33_1
        try clear hcz33_2
        try clear hcz35_0
        try clear hcz35_1
        try clear hcz35_2
        try clear hcz37_0
        try clear hcz37_1
        try clear hcz37_2
        try clear hcz39_0
        try clear hcz39_1
        try clear hcz39_2
        try clear hcz41_0
        try clear hcz41_1
        try clear hcz41_2
        try clear hcz43_0
        try clear hcz43_1
        try clear hcz43_2
        try clear hcz45_0
        try clear hcz45_1
        try clear hcz45_2
        try clear hcz47_0
        try clear hcz47_1
        try clear hcz47_2
        try clear hcz49_0
        try clear hcz49_1
        try clear hcz49_2
        try clear hcz51_0
        try clear hcz51_1
        try clear hcz51_2
        try clear hcz53_0
        try clear hcz53_1
        try clear hcz53_2
        try clear hcz55_0
        try clear hcz55_1
        try clear hcz55_2
        try clear hcz62_0
        try clear hcz62_1
        try clear hcz62_2
        try clear hcz64_0
        try clear hcz64_1
        try clear hcz64_2
        try clear hcz66_0
        try clear hcz66_1
        try clear hcz66_2
        try clear hcz68_0
        try clear hcz68_1
        try clear hcz68_2
        try clear hcz70_0
        try clear hcz70_1
        try clear hcz70_2
        try clear hcz72_0
        try clear hcz72_1
        try clear hcz72_2
        try clear hcz74_0
        try clear hcz74_1
        try clear hcz74_2
        try clear hcz76_0
        try clear hcz76_1
        try clear hcz76_2
        try clear hcz78_0
        try clear hcz78_1
        try clear hcz78_2
        try clear hcz80_0
        try clear hcz80_1
        try clear hcz80_2
        try clear hcz82_0
        try clear hcz82_1
        try clear hcz82_2
        try clear hcz84_0
        try clear hcz84_1
        try clear hcz84_2
        try clear hcz91_0
        try clear hcz91_1
        try clear hcz91_2
        try clear hcz93_0
        try clear hcz93_1
        try clear hcz93_2
        try clear hcz95_0
        try clear hcz95_1
        try clear hcz95_2
        try clear hcz97_0
        try clear hcz97_1
        try clear hcz97_2
        try clear hcz99_0
        try clear hcz99_1
        try clear hcz99_2
        try clear hfz101_0
        try clear hfz101_1
        try clear hfz101_2
        try clear hfz103_0
        try clear hfz103_1
        try clear hfz103_2
        try clear hfz105_0
        try clear hfz105_1
        try clear hfz105_2
        try clear hfz107_0
        try clear hfz107_1
        try clear hfz107_2
        try clear hfz21_0
        try clear hfz21_1
        try clear hfz21_2
        try clear hfz23_0
        try clear hfz23_1
        try clear hfz23_2
        try clear hfz25_0
        try clear hfz25_1
        try clear hfz25_2
        try clear hfz27_0
        try clear hfz27_1
        try clear hfz27_2
        try clear hfz29_0
        try clear hfz29_1
        try clear hfz29_2
        try clear hfz31_0
        try clear hfz31_1
        try clear hfz31_2
        try clear hfz33_0
        try clear hfz33_1
        try clear hfz33_2
        try clear hfz35_0
        try clear hfz35_1
        try clear hfz35_2
        try clear hfz37_0
        try clear hfz37_1
        try clear hfz37_2
        try clear hfz39_0
        try clear hfz39_1
        try clear hfz39_2
        try clear hfz41_0
        try clear hfz41_1
        try clear hfz41_2
        try clear hfz43_0
        try clear hfz43_1
        try clear hfz43_2
        try clear hfz45_0
        try clear hfz45_1
        try clear hfz45_2
        try clear hfz47_0
        try clear hfz47_1
        try clear hfz47_2
        try clear hfz49_0
        try clear hfz49_1
        try clear hfz49_2
        try clear hfz51_0
        try clear hfz51_1
        try clear hfz51_2
        try clear hfz53_0
        try clear hfz53_1
        try clear hfz53_2
        try clear hfz55_0
        try clear hfz55_1
        try clear hfz55_2
        try clear hfz62_0
        try clear hfz62_1
        try clear hfz62_2
        try clear hfz64_0
        try clear hfz64_1
        try clear hfz64_2
        try clear hfz66_0
        try clear hfz66_1
        try clear hfz66_2
        try clear hfz68_0
        try clear hfz68_1
        try clear hfz68_2
        try clear hfz70_0
        try clear hfz70_1
        try clear hfz70_2
        try clear hfz72_0
        try clear hfz72_1
        try clear hfz72_2
        try clear hfz74_0
        try clear hfz74_1
        try clear hfz74_2
        try clear hfz76_0
        try clear hfz76_1
        try clear hfz76_2
        try clear hfz78_0
        try clear hfz78_1
        try clear hfz78_2
        try clear hfz80_0
        try clear hfz80_1
        try clear hfz80_2
        try clear hfz82_0
        try clear hfz82_1
        try clear hfz82_2
        try clear hfz84_0
        try clear hfz84_1
        try clear hfz84_2
        try clear hfz91_0
        try clear hfz91_1
        try clear hfz91_2
        try clear hfz93_0
        try clear hfz93_1
        try clear hfz93_2
        try clear hfz95_0
        try clear hfz95_1
        try clear hfz95_2
        try clear hfz97_0
        try clear hfz97_1
        try clear hfz97_2
        try clear hfz99_0
        try clear hfz99_1
        try clear hfz99_2
        obtain ⟨kq, x57_6, rfl, HA, HJ6, BK856, HB⟩ := hcut
        cases kq with
        | zero => exact absurd HA.out (by simp [trunnionlaw08_OrderChain.j0])
        | succ kj6 =>
          have H := HA.out
          clear HA
          simp only [trunnionlaw08_OrderChain.j0] at H
          by_cases c109 : x57_6 = true
          · subst c109
            have H1 : (some false) = some r := by rw [if_pos rfl] at H; exact H
            clear H
            have H := H1
            clear H1
            obtain rfl := Option.some.inj H
            go_wp2
            go_ret
            exact ⟨by first | rfl | (simp [errW_none, errW_some] <;> rfl) | (simp [*, errW_none, errW_some] <;> rfl), by repeat (first | (with_reducible first | exact HB.out | apply below_alloc | apply pw_below_drewN | apply below_drew1 | refine below_set ?_ GE856.out) | exact HB.out)⟩
          · replace c109 := Bool.eq_false_iff.mpr c109
            subst c109
            have H1 : ((order_Min.f kj6 a0 a1_0 a1_1).bind fun t871 => ((order_Min.f kj6 a0 t871 a1_2).bind fun t872 => ((order_Min.f kj6 a0 a1_1 a1_2).bind fun t873 => ((order_Min.f kj6 a0 a1_0 t873).bind fun t874 => (if t872 = t874 then ((order_Max.f kj6 a0 a1_0 a1_1).bind fun t875 => ((order_Max.f kj6 a0 t875 a1_2).bind fun t876 => ((order_Max.f kj6 a0 a1_1 a1_2).bind fun t877 => ((order_Max.f kj6 a0 a1_0 t877).bind fun t878 => (some (t876 == t878)))))) else (some false)))))) = some r := by rw [if_neg (show ¬ (false = true) by decide)] at H; exact H
            clear H
            have H := H1
            clear H1
            replace H := Option.bind_eq_some_iff.mp H
            obtain ⟨t871, A1100, H⟩ := H
            replace H : ((order_Min.f kj6 a0 t871 a1_2).bind fun t872 => ((order_Min.f kj6 a0 a1_1 a1_2).bind fun t873 => ((order_Min.f kj6 a0 a1_0 t873).bind fun t874 => (if t872 = t874 then ((order_Max.f kj6 a0 a1_0 a1_1).bind fun t875 => ((order_Max.f kj6 a0 t875 a1_2).bind fun t876 => ((order_Max.f kj6 a0 a1_1 a1_2).bind fun t877 => ((order_Max.f kj6 a0 a1_0 t877).bind fun t878 => (some (t876 == t878)))))) else (some false))))) = some r := H
            have A110 := Aside0.mk A1100
            clear A1100
            replace H := Option.bind_eq_some_iff.mp H
            obtain ⟨t872, A1110, H⟩ := H
            replace H : ((order_Min.f kj6 a0 a1_1 a1_2).bind fun t873 => ((order_Min.f kj6 a0 a1_0 t873).bind fun t874 => (if t872 = t874 then ((order_Max.f kj6 a0 a1_0 a1_1).bind fun t875 => ((order_Max.f kj6 a0 t875 a1_2).bind fun t876 => ((order_Max.f kj6 a0 a1_1 a1_2).bind fun t877 => ((order_Max.f kj6 a0 a1_0 t877).bind fun t878 => (some (t876 == t878)))))) else (some false)))) = some r := H
            have A111 := Aside0.mk A1110
            clear A1110
            replace H := Option.bind_eq_some_iff.mp H
            obtain ⟨t873, A1120, H⟩ := H
            replace H : ((order_Min.f kj6 a0 a1_0 t873).bind fun t874 => (if t872 = t874 then ((order_Max.f kj6 a0 a1_0 a1_1).bind fun t875 => ((order_Max.f kj6 a0 t875 a1_2).bind fun t876 => ((order_Max.f kj6 a0 a1_1 a1_2).bind fun t877 => ((order_Max.f kj6 a0 a1_0 t877).bind fun t878 => (some (t876 == t878)))))) else (some false))) = some r := H
            have A112 := Aside0.mk A1120
            clear A1120
            replace H := Option.bind_eq_some_iff.mp H
            obtain ⟨t874, A1130, H⟩ := H
            replace H : (if t872 = t874 then ((order_Max.f kj6 a0 a1_0 a1_1).bind fun t875 => ((order_Max.f kj6 a0 t875 a1_2).bind fun t876 => ((order_Max.f kj6 a0 a1_1 a1_2).bind fun t877 => ((order_Max.f kj6 a0 a1_0 t877).bind fun t878 => (some (t876 == t878)))))) else (some false)) = some r := H
            have A113 := Aside0.mk A1130
            clear A1130
            by_cases c114 : t872 = t874
            · rw [if_pos c114] at H
              have c114b0 : (t872 == t874) = true := beq_iff_eq.mpr c114
              have c114b1 : (t872 != t874) = false := bne_eq_false_iff_eq.mpr c114
              clear c114
              replace H := Option.bind_eq_some_iff.mp H
              obtain ⟨t875, A1150, H⟩ := H
              replace H : ((order_Max.f kj6 a0 t875 a1_2).bind fun t876 => ((order_Max.f kj6 a0 a1_1 a1_2).bind fun t877 => ((order_Max.f kj6 a0 a1_0 t877).bind fun t878 => (some (t876 == t878))))) = some r := H
              have A115 := Aside0.mk A1150
              clear A1150
              replace H := Option.bind_eq_some_iff.mp H
              obtain ⟨t876, A1160, H⟩ := H
              replace H : ((order_Max.f kj6 a0 a1_1 a1_2).bind fun t877 => ((order_Max.f kj6 a0 a1_0 t877).bind fun t878 => (some (t876 == t878)))) = some r := H
              have A116 := Aside0.mk A1160
              clear A1160
              replace H := Option.bind_eq_some_iff.mp H
              obtain ⟨t877, A1170, H⟩ := H
              replace H : ((order_Max.f kj6 a0 a1_0 t877).bind fun t878 => (some (t876 == t878))) = some r := H
              have A117 := Aside0.mk A1170
              clear A1170
              replace H := Option.bind_eq_some_iff.mp H
              obtain ⟨t878, A1180, H⟩ := H
              replace H : (some (t876 == t878)) = some r := H
              have A118 := Aside0.mk A1180
              clear A1180
              obtain rfl := Option.some.inj H
              try go_wp2
              have n0_ := Aside0.mk (blk_drew BK856.out)
              have n1_ := Aside0.mk (below_drew1 HB.out)
              clear BK856
              clear HB
              have BK856 := n0_
              have HB := n1_
              clear n0_ n1_
              refine start_ (n := 45) (S := fun w' => w'.cell? ⟨gb856, 0, none⟩ = some (.int .u64 a1_0) ∧ w'.cell? ⟨gb856, 1, none⟩ = some (.int .u64 a1_1) ∧ w'.cell? ⟨gb856, 2, none⟩ = some (.int .u64 a1_2)) (ds := []) #[false, false, false, false, false, false, false, false, false, false, false, false, false, false, false, false, false, false, false, false, false, false, false, false, false, false, false, false, false, false, false, false, false, false, false, false, false, false, false, false, false, false, false, false, false] (by kernel_rfl) rfl rfl ⟨(blk_cell BK856.out 0).trans rfl, (blk_cell BK856.out 1).trans rfl, (blk_cell BK856.out 2).trans rfl⟩ (fun hHeld => ?_); refine with_tabW trunnionlaw08_OrderChain.tab7 trunnionlaw08_OrderChain.bits7 (fun HT_ HW_ => ?_)
              generalize wc.drew = w119 at BK856 HB hHeld ⊢
              refine pure_ (i := 0) (N := some 58) (v := ?_) (a' := ?_) #[true, false, false, false, false, false, false, false, false, false, false, false, false, false, false, false, false, false, false, false, false, false, false, false, false, false, false, false, false, false, false, false, false, false, false, false, false, false, false, false, false, false, false, false, false] rfl rfl (any_of HT_.out (by kernel_rfl)) (fun _ _ _ h => h) (Or.inl ⟨by rfl, ?_⟩) ?_ ?_
              rotate_left
              · intro w'
                go_simp
                with_reducible rfl
              rotate_left
              · simp only [Act.put, List.setIfInBounds_toArray, List.set_cons_zero, List.set_cons_succ, i64_w, i32_w]
                rfl
              refine pure_ (i := 1) (N := some 59) (v := ?_) (a' := ?_) #[true, true, false, false, false, false, false, false, false, false, false, false, false, false, false, false, false, false, false, false, false, false, false, false, false, false, false, false, false, false, false, false, false, false, false, false, false, false, false, false, false, false, false, false, false] rfl rfl (any_of HT_.out (by kernel_rfl)) (fun _ _ _ h => h) (Or.inl ⟨by rfl, ?_⟩) ?_ ?_
              rotate_left
              · intro w'
                go_simp
                with_reducible rfl
              rotate_left
              · simp only [Act.put, List.setIfInBounds_toArray, List.set_cons_zero, List.set_cons_succ, i64_w, i32_w]
                rfl
              refine pure_ (i := 2) (N := some 60) (v := ?_) (a' := ?_) #[true, true, true, false, false, false, false, false, false, false, false, false, false, false, false, false, false, false, false, false, false, false, false, false, false, false, false, false, false, false, false, false, false, false, false, false, false, false, false, false, false, false, false, false, false] rfl rfl (any_of HT_.out (by kernel_rfl)) (fun _ _ _ h => h) (Or.inl ⟨by rfl, ?_⟩) ?_ ?_
              rotate_left
              · intro w'
                go_simp
                with_reducible rfl
              rotate_left
              · simp only [Act.put, List.setIfInBounds_toArray, List.set_cons_zero, List.set_cons_succ, i64_w, i32_w]
                rfl
              refine pure_ (i := 4) (N := some 62) (v := ?_) (a' := ?_) #[true, true, true, false, true, false, false, false, false, false, false, false, false, false, false, false, false, false, false, false, false, false, false, false, false, false, false, false, false, false, false, false, false, false, false, false, false, false, false, false, false, false, false, false, false] rfl rfl (any_of HT_.out (by kernel_rfl)) (fun _ _ _ h => h) (Or.inl ⟨by rfl, ?_⟩) ?_ ?_
              rotate_left
              · intro w'
                go_simp
                with_reducible rfl
              rotate_left
              · simp only [Act.put, List.setIfInBounds_toArray, List.set_cons_zero, List.set_cons_succ, i64_w, i32_w]
                rfl
              refine pure_ (i := 7) (N := some 65) (v := ?_) (a' := ?_) #[true, true, true, false, true, false, false, true, false, false, false, false, false, false, false, false, false, false, false, false, false, false, false, false, false, false, false, false, false, false, false, false, false, false, false, false, false, false, false, false, false, false, false, false, false] rfl rfl (any_of HT_.out (by kernel_rfl)) (fun _ _ _ h => h) (Or.inl ⟨by rfl, ?_⟩) ?_ ?_
              rotate_left
              · intro w'
                go_simp
                with_reducible rfl
              rotate_left
              · simp only [Act.put, List.setIfInBounds_toArray, List.set_cons_zero, List.set_cons_succ, i64_w, i32_w]
                rfl
              refine pure_ (i := 10) (N := some 68) (v := ?_) (a' := ?_) #[true, true, true, false, true, false, false, true, false, false, true, false, false, false, false, false, false, false, false, false, false, false, false, false, false, false, false, false, false, false, false, false, false, false, false, false, false, false, false, false, false, false, false, false, false] rfl rfl (any_of HT_.out (by kernel_rfl)) (fun _ _ _ h => h) (Or.inl ⟨by rfl, ?_⟩) ?_ ?_
              rotate_left
              · intro w'
                go_simp
                with_reducible rfl
              rotate_left
              · simp only [Act.put, List.setIfInBounds_toArray, List.set_cons_zero, List.set_cons_succ, i64_w, i32_w]
                rfl
              refine pure_ (i := 11) (N := some 69) (v := ?_) (a' := ?_) #[true, true, true, false, true, false, false, true, false, false, true, true, false, false, false, false, false, false, false, false, false, false, false, false, false, false, false, false, false, false, false, false, false, false, false, false, false, false, false, false, false, false, false, false, false] rfl rfl (any_of HT_.out (by kernel_rfl)) (fun _ _ _ h => h) (Or.inl ⟨by rfl, ?_⟩) ?_ ?_
              rotate_left
              · intro w'
                go_simp
                with_reducible rfl
              rotate_left
              · simp only [Act.put, List.setIfInBounds_toArray, List.set_cons_zero, List.set_cons_succ, i64_w, i32_w]
                rfl
              refine pure_ (i := 13) (N := some 71) (v := ?_) (a' := ?_) #[true, true, true, false, true, false, false, true, false, false, true, true, false, true, false, false, false, false, false, false, false, false, false, false, false, false, false, false, false, false, false, false, false, false, false, false, false, false, false, false, false, false, false, false, false] rfl rfl (any_of HT_.out (by kernel_rfl)) (fun _ _ _ h => h) (Or.inl ⟨by rfl, ?_⟩) ?_ ?_
              rotate_left
              · intro w'
                go_simp
                with_reducible rfl
              rotate_left
              · simp only [Act.put, List.setIfInBounds_toArray, List.set_cons_zero, List.set_cons_succ, i64_w, i32_w]
                rfl
              refine pure_ (i := 14) (N := some 72) (v := ?_) (a' := ?_) #[true, true, true, false, true, false, false, true, false, false, true, true, false, true, true, false, false, false, false, false, false, false, false, false, false, false, false, false, false, false, false, false, false, false, false, false, false, false, false, false, false, false, false, false, false] rfl rfl (any_of HT_.out (by kernel_rfl)) (fun _ _ _ h => h) (Or.inl ⟨by rfl, ?_⟩) ?_ ?_
              rotate_left
              · intro w'
                go_simp
                with_reducible rfl
              rotate_left
              · simp only [Act.put, List.setIfInBounds_toArray, List.set_cons_zero, List.set_cons_succ, i64_w, i32_w]
                rfl
              refine pure_ (i := 16) (N := some 74) (v := ?_) (a' := ?_) #[true, true, true, false, true, false, false, true, false, false, true, true, false, true, true, false, true, false, false, false, false, false, false, false, false, false, false, false, false, false, false, false, false, false, false, false, false, false, false, false, false, false, false, false, false] rfl rfl (any_of HT_.out (by kernel_rfl)) (fun _ _ _ h => h) (Or.inl ⟨by rfl, ?_⟩) ?_ ?_
              rotate_left
              · intro w'
                go_simp
                with_reducible rfl
              rotate_left
              · simp only [Act.put, List.setIfInBounds_toArray, List.set_cons_zero, List.set_cons_succ, i64_w, i32_w]
                rfl
              refine take_ (i := 3) (N := some 61) (v := ?_) (a' := ?_) #[true, true, true, true, true, false, false, true, false, false, true, true, false, true, true, false, true, false, false, false, false, false, false, false, false, false, false, false, false, false, false, false, false, false, false, false, false, false, false, false, false, false, false, false, false] rfl rfl (take_ofW HT_.out HW_.out (by kernel_rfl)) (fun _ _ _ h => h) (Or.inl ⟨by rfl, ?_⟩) hHeld ?_ ?_
              rotate_left
              · rintro w' ⟨s0, s1, s2⟩
                go_simp
                with_reducible rfl
              rotate_left
              · simp only [Act.put, List.setIfInBounds_toArray, List.set_cons_zero, List.set_cons_succ, i64_w, i32_w]
                rfl
              refine take_ (i := 5) (N := some 63) (v := ?_) (a' := ?_) #[true, true, true, true, true, true, false, true, false, false, true, true, false, true, true, false, true, false, false, false, false, false, false, false, false, false, false, false, false, false, false, false, false, false, false, false, false, false, false, false, false, false, false, false, false] rfl rfl (take_ofW HT_.out HW_.out (by kernel_rfl)) (fun _ _ _ h => h) (Or.inl ⟨by rfl, ?_⟩) hHeld ?_ ?_
              rotate_left
              · rintro w' ⟨s0, s1, s2⟩
                go_simp
                with_reducible rfl
              rotate_left
              · simp only [Act.put, List.setIfInBounds_toArray, List.set_cons_zero, List.set_cons_succ, i64_w, i32_w]
                rfl
              refine take_ (i := 8) (N := some 66) (v := ?_) (a' := ?_) #[true, true, true, true, true, true, false, true, true, false, true, true, false, true, true, false, true, false, false, false, false, false, false, false, false, false, false, false, false, false, false, false, false, false, false, false, false, false, false, false, false, false, false, false, false] rfl rfl (take_ofW HT_.out HW_.out (by kernel_rfl)) (fun _ _ _ h => h) (Or.inl ⟨by rfl, ?_⟩) hHeld ?_ ?_
              rotate_left
              · rintro w' ⟨s0, s1, s2⟩
                go_simp
                with_reducible rfl
              rotate_left
              · simp only [Act.put, List.setIfInBounds_toArray, List.set_cons_zero, List.set_cons_succ, i64_w, i32_w]
                rfl
              refine take_ (i := 12) (N := some 70) (v := ?_) (a' := ?_) #[true, true, true, true, true, true, false, true, true, false, true, true, true, true, true, false, true, false, false, false, false, false, false, false, false, false, false, false, false, false, false, false, false, false, false, false, false, false, false, false, false, false, false, false, false] rfl rfl (take_ofW HT_.out HW_.out (by kernel_rfl)) (fun _ _ _ h => h) (Or.inl ⟨by rfl, ?_⟩) hHeld ?_ ?_
              rotate_left
              · rintro w' ⟨s0, s1, s2⟩
                go_simp
                with_reducible rfl
              rotate_left
              · simp only [Act.put, List.setIfInBounds_toArray, List.set_cons_zero, List.set_cons_succ, i64_w, i32_w]
                rfl
              refine take_ (i := 15) (N := some 73) (v := ?_) (a' := ?_) #[true, true, true, true, true, true, false, true, true, false, true, true, true, true, true, true, true, false, false, false, false, false, false, false, false, false, false, false, false, false, false, false, false, false, false, false, false, false, false, false, false, false, false, false, false] rfl rfl (take_ofW HT_.out HW_.out (by kernel_rfl)) (fun _ _ _ h => h) (Or.inl ⟨by rfl, ?_⟩) hHeld ?_ ?_
              rotate_left
              · rintro w' ⟨s0, s1, s2⟩
                go_simp
                with_reducible rfl
              rotate_left
              · simp only [Act.put, List.setIfInBounds_toArray, List.set_cons_zero, List.set_cons_succ, i64_w, i32_w]
                rfl
              refine take_ (i := 17) (N := some 75) (v := ?_) (a' := ?_) #[true, true, true, true, true, true, false, true, true, false, true, true, true, true, true, true, true, true, false, false, false, false, false, false, false, false, false, false, false, false, false, false, false, false, false, false, false, false, false, false, false, false, false, false, false] rfl rfl (take_ofW HT_.out HW_.out (by kernel_rfl)) (fun _ _ _ h => h) (Or.inl ⟨by rfl, ?_⟩) hHeld ?_ ?_
              rotate_left
              · rintro w' ⟨s0, s1, s2⟩
                go_simp
                with_reducible rfl
              rotate_left
              · simp only [Act.put, List.setIfInBounds_toArray, List.set_cons_zero, List.set_cons_succ, i64_w, i32_w]
                rfl
              refine one_ (i := 6) (N := some 64) #[true, true, true, true, true, true, true, true, true, false, true, true, true, true, true, true, true, true, false, false, false, false, false, false, false, false, false, false, false, false, false, false, false, false, false, false, false, false, false, false, false, false, false, false, false] rfl rfl (one_of HT_.out (by kernel_rfl)) (by decide) (fun K hK => ?_)
              refine goes_ Try.func94 (by kernel_rfl) rfl #[.int .i64 a0, .int .u64 a1_0, .int .u64 a1_1] (by rfl) rfl rfl (by (try simp only [List.map_toArray, List.map_cons, List.map_nil]); first | done | rfl | (simp only [List.length_drop, List.length_take]; rfl)) ?_
              with_reducible refine (order_Min.calls kj6 a0 a1_0 a1_1 t871 _ A110.out).mono ?_
              rintro e w120 ⟨rfl, hb⟩
              refine ⟨_, rfl, ?_⟩
              have n0_ := Aside0.mk (blk_below (g := gb856) (o := .cells #[.int .u64 a1_0, .int .u64 a1_1, .int .u64 a1_2] 91 (0, 0)) (by (with_reducible repeat (first | refine blk_drewN ?_ _ | refine blk_drew ?_ | refine blk_alloc ?_ _)); exact BK856.out) hb)
              have n1_ := Aside0.mk (below_step (by repeat (first | (with_reducible first | exact HB.out | apply below_alloc | apply pw_below_drewN | apply below_drew1 | refine below_set ?_ GE856.out) | exact HB.out)) hb)
              clear BK856
              clear HB
              have BK856 := n0_
              have HB := n1_
              clear n0_ n1_
              (try clear hb)
              (try clear hb2)
              (try clear hk)
              (try clear hi)
              refine hK.out _ _ ⟨(blk_cell BK856.out 0).trans rfl, (blk_cell BK856.out 1).trans rfl, (blk_cell BK856.out 2).trans rfl⟩ (fun hHeld => ?_)
              clear hK K
              refine norm_ (a' := ?_) ?_ ?_
              rotate_left
              · show Act.put _ (some 64) _ = _
                simp only [Act.put, List.setIfInBounds_toArray, List.set_cons_zero, List.set_cons_succ, i64_w, i32_w]
                rfl
              refine one_ (i := 9) (N := some 67) #[true, true, true, true, true, true, true, true, true, true, true, true, true, true, true, true, true, true, false, false, false, false, false, false, false, false, false, false, false, false, false, false, false, false, false, false, false, false, false, false, false, false, false, false, false] rfl rfl (one_of HT_.out (by kernel_rfl)) (by decide) (fun K hK => ?_)
              refine goes_ Try.func94 (by kernel_rfl) rfl #[.int .i64 a0, .int .u64 t871, .int .u64 a1_2] (by rfl) rfl rfl (by (try simp only [List.map_toArray, List.map_cons, List.map_nil]); first | done | rfl | (simp only [List.length_drop, List.length_take]; rfl)) ?_
              with_reducible refine (order_Min.calls kj6 a0 t871 a1_2 t872 _ A111.out).mono ?_
              rintro e w121 ⟨rfl, hb⟩
              refine ⟨_, rfl, ?_⟩
              have n0_ := Aside0.mk (blk_below (g := gb856) (o := .cells #[.int .u64 a1_0, .int .u64 a1_1, .int .u64 a1_2] 91 (0, 0)) (by (with_reducible repeat (first | refine blk_drewN ?_ _ | refine blk_drew ?_ | refine blk_alloc ?_ _)); exact BK856.out) hb)
              have n1_ := Aside0.mk (below_step (by repeat (first | (with_reducible first | exact HB.out | apply below_alloc | apply pw_below_drewN | apply below_drew1 | refine below_set ?_ GE856.out) | exact HB.out)) hb)
              clear BK856
              clear HB
              have BK856 := n0_
              have HB := n1_
              clear n0_ n1_
              (try clear hb)
              (try clear hb2)
              (try clear hk)
              (try clear hi)
              refine hK.out _ _ ⟨(blk_cell BK856.out 0).trans rfl, (blk_cell BK856.out 1).trans rfl, (blk_cell BK856.out 2).trans rfl⟩ (fun hHeld => ?_)
              clear hK K
              refine norm_ (a' := ?_) ?_ ?_
              rotate_left
              · show Act.put _ (some 67) _ = _
                simp only [Act.put, List.setIfInBounds_toArray, List.set_cons_zero, List.set_cons_succ, i64_w, i32_w]
                rfl
              refine one_ (i := 18) (N := some 76) #[true, true, true, true, true, true, true, true, true, true, true, true, true, true, true, true, true, true, true, false, false, false, false, false, false, false, false, false, false, false, false, false, false, false, false, false, false, false, false, false, false, false, false, false, false] rfl rfl (one_of HT_.out (by kernel_rfl)) (by decide) (fun K hK => ?_)
              refine goes_ Try.func94 (by kernel_rfl) rfl #[.int .i64 a0, .int .u64 a1_1, .int .u64 a1_2] (by rfl) rfl rfl (by (try simp only [List.map_toArray, List.map_cons, List.map_nil]); first | done | rfl | (simp only [List.length_drop, List.length_take]; rfl)) ?_
              with_reducible refine (order_Min.calls kj6 a0 a1_1 a1_2 t873 _ A112.out).mono ?_
              rintro e w122 ⟨rfl, hb⟩
              refine ⟨_, rfl, ?_⟩
              have n0_ := Aside0.mk (blk_below (g := gb856) (o := .cells #[.int .u64 a1_0, .int .u64 a1_1, .int .u64 a1_2] 91 (0, 0)) (by (with_reducible repeat (first | refine blk_drewN ?_ _ | refine blk_drew ?_ | refine blk_alloc ?_ _)); exact BK856.out) hb)
              have n1_ := Aside0.mk (below_step (by repeat (first | (with_reducible first | exact HB.out | apply below_alloc | apply pw_below_drewN | apply below_drew1 | refine below_set ?_ GE856.out) | exact HB.out)) hb)
              clear BK856
              clear HB
              have BK856 := n0_
              have HB := n1_
              clear n0_ n1_
              (try clear hb)
              (try clear hb2)
              (try clear hk)
              (try clear hi)
              refine hK.out _ _ ⟨(blk_cell BK856.out 0).trans rfl, (blk_cell BK856.out 1).trans rfl, (blk_cell BK856.out 2).trans rfl⟩ (fun hHeld => ?_)
              clear hK K
              refine norm_ (a' := ?_) ?_ ?_
              rotate_left
              · show Act.put _ (some 76) _ = _
                simp only [Act.put, List.setIfInBounds_toArray, List.set_cons_zero, List.set_cons_succ, i64_w, i32_w]
                rfl
              refine one_ (i := 19) (N := some 77) #[true, true, true, true, true, true, true, true, true, true, true, true, true, true, true, true, true, true, true, true, false, false, false, false, false, false, false, false, false, false, false, false, false, false, false, false, false, false, false, false, false, false, false, false, false] rfl rfl (one_of HT_.out (by kernel_rfl)) (by decide) (fun K hK => ?_)
              refine goes_ Try.func94 (by kernel_rfl) rfl #[.int .i64 a0, .int .u64 a1_0, .int .u64 t873] (by rfl) rfl rfl (by (try simp only [List.map_toArray, List.map_cons, List.map_nil]); first | done | rfl | (simp only [List.length_drop, List.length_take]; rfl)) ?_
              with_reducible refine (order_Min.calls kj6 a0 a1_0 t873 t874 _ A113.out).mono ?_
              rintro e w123 ⟨rfl, hb⟩
              refine ⟨_, rfl, ?_⟩
              have n0_ := Aside0.mk (blk_below (g := gb856) (o := .cells #[.int .u64 a1_0, .int .u64 a1_1, .int .u64 a1_2] 91 (0, 0)) (by (with_reducible repeat (first | refine blk_drewN ?_ _ | refine blk_drew ?_ | refine blk_alloc ?_ _)); exact BK856.out) hb)
              have n1_ := Aside0.mk (below_step (by repeat (first | (with_reducible first | exact HB.out | apply below_alloc | apply pw_below_drewN | apply below_drew1 | refine below_set ?_ GE856.out) | exact HB.out)) hb)
              clear BK856
              clear HB
              have BK856 := n0_
              have HB := n1_
              clear n0_ n1_
              (try clear hb)
              (try clear hb2)
              (try clear hk)
              (try clear hi)
              refine hK.out _ _ ⟨(blk_cell BK856.out 0).trans rfl, (blk_cell BK856.out 1).trans rfl, (blk_cell BK856.out 2).trans rfl⟩ (fun hHeld => ?_)
              clear hK K
              refine norm_ (a' := ?_) ?_ ?_
              rotate_left
              · show Act.put _ (some 77) _ = _
                simp only [Act.put, List.setIfInBounds_toArray, List.set_cons_zero, List.set_cons_succ, i64_w, i32_w]
                rfl
              refine pure_ (i := 20) (N := some 78) (v := ?_) (a' := ?_) #[true, true, true, true, true, true, true, true, true, true, true, true, true, true, true, true, true, true, true, true, true, false, false, false, false, false, false, false, false, false, false, false, false, false, false, false, false, false, false, false, false, false, false, false, false] rfl rfl (any_of HT_.out (by kernel_rfl)) (fun _ _ _ h => h) (Or.inl ⟨by rfl, ?_⟩) ?_ ?_
              rotate_left
              · intro w'
                go_simp
                with_reducible rfl
              rotate_left
              · simp only [Act.put, List.setIfInBounds_toArray, List.set_cons_zero, List.set_cons_succ, i64_w, i32_w]
                rfl
              refine pure_ (i := 21) (N := some 79) (v := ?_) (a' := ?_) #[true, true, true, true, true, true, true, true, true, true, true, true, true, true, true, true, true, true, true, true, true, true, false, false, false, false, false, false, false, false, false, false, false, false, false, false, false, false, false, false, false, false, false, false, false] rfl rfl (any_of HT_.out (by kernel_rfl)) (fun _ _ _ h => h) (Or.inl ⟨by rfl, ?_⟩) ?_ ?_
              rotate_left
              · intro w'
                go_simp
                with_reducible rfl
              rotate_left
              · simp only [Act.put, List.setIfInBounds_toArray, List.set_cons_zero, List.set_cons_succ, i64_w, i32_w]
                rfl
              refine pure_ (i := 22) (N := some 80) (v := ?_) (a' := ?_) #[true, true, true, true, true, true, true, true, true, true, true, true, true, true, true, true, true, true, true, true, true, true, true, false, false, false, false, false, false, false, false, false, false, false, false, false, false, false, false, false, false, false, false, false, false] rfl rfl (any_of HT_.out (by kernel_rfl)) (fun _ _ _ h => h) (Or.inl ⟨by rfl, ?_⟩) ?_ ?_
              rotate_left
              · intro w'
                go_simp
                with_reducible rfl
              rotate_left
              · simp only [Act.put, List.setIfInBounds_toArray, List.set_cons_zero, List.set_cons_succ, i64_w, i32_w]
                rfl
              refine pure_ (i := 23) (N := some 81) (v := ?_) (a' := ?_) #[true, true, true, true, true, true, true, true, true, true, true, true, true, true, true, true, true, true, true, true, true, true, true, true, false, false, false, false, false, false, false, false, false, false, false, false, false, false, false, false, false, false, false, false, false] rfl rfl (any_of HT_.out (by kernel_rfl)) (fun _ _ _ h => h) (Or.inl ⟨by rfl, ?_⟩) ?_ ?_
              rotate_left
              · intro w'
                go_simp
                with_reducible rfl
              rotate_left
              · simp only [Act.put, List.setIfInBounds_toArray, List.set_cons_zero, List.set_cons_succ, i64_w, i32_w]
                rfl
              refine pure_ (i := 24) (N := some 82) (v := ?_) (a' := ?_) #[true, true, true, true, true, true, true, true, true, true, true, true, true, true, true, true, true, true, true, true, true, true, true, true, true, false, false, false, false, false, false, false, false, false, false, false, false, false, false, false, false, false, false, false, false] rfl rfl (any_of HT_.out (by kernel_rfl)) (fun _ _ _ h => h) (Or.inl ⟨by rfl, ?_⟩) ?_ ?_
              rotate_left
              · intro w'
                go_simp
                with_reducible rfl
              rotate_left
              · simp only [Act.put, List.setIfInBounds_toArray, List.set_cons_zero, List.set_cons_succ, i64_w, i32_w]
                rfl
              refine pure_ (i := 26) (N := some 84) (v := ?_) (a' := ?_) #[true, true, true, true, true, true, true, true, true, true, true, true, true, true, true, true, true, true, true, true, true, true, true, true, true, false, true, false, false, false, false, false, false, false, false, false, false, false, false, false, false, false, false, false, false] rfl rfl (any_of HT_.out (by kernel_rfl)) (fun _ _ _ h => h) (Or.inl ⟨by rfl, ?_⟩) ?_ ?_
              rotate_left
              · intro w'
                go_simp
                with_reducible rfl
              rotate_left
              · simp only [Act.put, List.setIfInBounds_toArray, List.set_cons_zero, List.set_cons_succ, i64_w, i32_w]
                rfl
              refine pure_ (i := 29) (N := some 87) (v := ?_) (a' := ?_) #[true, true, true, true, true, true, true, true, true, true, true, true, true, true, true, true, true, true, true, true, true, true, true, true, true, false, true, false, false, true, false, false, false, false, false, false, false, false, false, false, false, false, false, false, false] rfl rfl (any_of HT_.out (by kernel_rfl)) (fun _ _ _ h => h) (Or.inl ⟨by rfl, ?_⟩) ?_ ?_
              rotate_left
              · intro w'
                go_simp
                with_reducible rfl
              rotate_left
              · simp only [Act.put, List.setIfInBounds_toArray, List.set_cons_zero, List.set_cons_succ, i64_w, i32_w]
                rfl
              refine pure_ (i := 32) (N := some 90) (v := ?_) (a' := ?_) #[true, true, true, true, true, true, true, true, true, true, true, true, true, true, true, true, true, true, true, true, true, true, true, true, true, false, true, false, false, true, false, false, true, false, false, false, false, false, false, false, false, false, false, false, false] rfl rfl (any_of HT_.out (by kernel_rfl)) (fun _ _ _ h => h) (Or.inl ⟨by rfl, ?_⟩) ?_ ?_
              rotate_left
              · intro w'
                go_simp
                with_reducible rfl
              rotate_left
              · simp only [Act.put, List.setIfInBounds_toArray, List.set_cons_zero, List.set_cons_succ, i64_w, i32_w]
                rfl
              refine pure_ (i := 33) (N := some 91) (v := ?_) (a' := ?_) #[true, true, true, true, true, true, true, true, true, true, true, true, true, true, true, true, true, true, true, true, true, true, true, true, true, false, true, false, false, true, false, false, true, true, false, false, false, false, false, false, false, false, false, false, false] rfl rfl (any_of HT_.out (by kernel_rfl)) (fun _ _ _ h => h) (Or.inl ⟨by rfl, ?_⟩) ?_ ?_
              rotate_left
              · intro w'
                go_simp
                with_reducible rfl
              rotate_left
              · simp only [Act.put, List.setIfInBounds_toArray, List.set_cons_zero, List.set_cons_succ, i64_w, i32_w]
                rfl
              refine pure_ (i := 35) (N := some 93) (v := ?_) (a' := ?_) #[true, true, true, true, true, true, true, true, true, true, true, true, true, true, true, true, true, true, true, true, true, true, true, true, true, false, true, false, false, true, false, false, true, true, false, true, false, false, false, false, false, false, false, false, false] rfl rfl (any_of HT_.out (by kernel_rfl)) (fun _ _ _ h => h) (Or.inl ⟨by rfl, ?_⟩) ?_ ?_
              rotate_left
              · intro w'
                go_simp
                with_reducible rfl
              rotate_left
              · simp only [Act.put, List.setIfInBounds_toArray, List.set_cons_zero, List.set_cons_succ, i64_w, i32_w]
                rfl
              refine pure_ (i := 36) (N := some 94) (v := ?_) (a' := ?_) #[true, true, true, true, true, true, true, true, true, true, true, true, true, true, true, true, true, true, true, true, true, true, true, true, true, false, true, false, false, true, false, false, true, true, false, true, true, false, false, false, false, false, false, false, false] rfl rfl (any_of HT_.out (by kernel_rfl)) (fun _ _ _ h => h) (Or.inl ⟨by rfl, ?_⟩) ?_ ?_
              rotate_left
              · intro w'
                go_simp
                with_reducible rfl
              rotate_left
              · simp only [Act.put, List.setIfInBounds_toArray, List.set_cons_zero, List.set_cons_succ, i64_w, i32_w]
                rfl
              refine pure_ (i := 38) (N := some 96) (v := ?_) (a' := ?_) #[true, true, true, true, true, true, true, true, true, true, true, true, true, true, true, true, true, true, true, true, true, true, true, true, true, false, true, false, false, true, false, false, true, true, false, true, true, false, true, false, false, false, false, false, false] rfl rfl (any_of HT_.out (by kernel_rfl)) (fun _ _ _ h => h) (Or.inl ⟨by rfl, ?_⟩) ?_ ?_
              rotate_left
              · intro w'
                go_simp
                with_reducible rfl
              rotate_left
              · simp only [Act.put, List.setIfInBounds_toArray, List.set_cons_zero, List.set_cons_succ, i64_w, i32_w]
                rfl
              refine take_ (i := 25) (N := some 83) (v := ?_) (a' := ?_) #[true, true, true, true, true, true, true, true, true, true, true, true, true, true, true, true, true, true, true, true, true, true, true, true, true, true, true, false, false, true, false, false, true, true, false, true, true, false, true, false, false, false, false, false, false] rfl rfl (take_ofW HT_.out HW_.out (by kernel_rfl)) (fun _ _ _ h => h) (Or.inl ⟨by rfl, ?_⟩) hHeld ?_ ?_
              rotate_left
              · rintro w' ⟨s0, s1, s2⟩
                go_simp
                with_reducible rfl
              rotate_left
              · simp only [Act.put, List.setIfInBounds_toArray, List.set_cons_zero, List.set_cons_succ, i64_w, i32_w]
                rfl
              refine take_ (i := 27) (N := some 85) (v := ?_) (a' := ?_) #[true, true, true, true, true, true, true, true, true, true, true, true, true, true, true, true, true, true, true, true, true, true, true, true, true, true, true, true, false, true, false, false, true, true, false, true, true, false, true, false, false, false, false, false, false] rfl rfl (take_ofW HT_.out HW_.out (by kernel_rfl)) (fun _ _ _ h => h) (Or.inl ⟨by rfl, ?_⟩) hHeld ?_ ?_
              rotate_left
              · rintro w' ⟨s0, s1, s2⟩
                go_simp
                with_reducible rfl
              rotate_left
              · simp only [Act.put, List.setIfInBounds_toArray, List.set_cons_zero, List.set_cons_succ, i64_w, i32_w]
                rfl
              refine take_ (i := 30) (N := some 88) (v := ?_) (a' := ?_) #[true, true, true, true, true, true, true, true, true, true, true, true, true, true, true, true, true, true, true, true, true, true, true, true, true, true, true, true, false, true, true, false, true, true, false, true, true, false, true, false, false, false, false, false, false] rfl rfl (take_ofW HT_.out HW_.out (by kernel_rfl)) (fun _ _ _ h => h) (Or.inl ⟨by rfl, ?_⟩) hHeld ?_ ?_
              rotate_left
              · rintro w' ⟨s0, s1, s2⟩
                go_simp
                with_reducible rfl
              rotate_left
              · simp only [Act.put, List.setIfInBounds_toArray, List.set_cons_zero, List.set_cons_succ, i64_w, i32_w]
                rfl
              refine take_ (i := 34) (N := some 92) (v := ?_) (a' := ?_) #[true, true, true, true, true, true, true, true, true, true, true, true, true, true, true, true, true, true, true, true, true, true, true, true, true, true, true, true, false, true, true, false, true, true, true, true, true, false, true, false, false, false, false, false, false] rfl rfl (take_ofW HT_.out HW_.out (by kernel_rfl)) (fun _ _ _ h => h) (Or.inl ⟨by rfl, ?_⟩) hHeld ?_ ?_
              rotate_left
              · rintro w' ⟨s0, s1, s2⟩
                go_simp
                with_reducible rfl
              rotate_left
              · simp only [Act.put, List.setIfInBounds_toArray, List.set_cons_zero, List.set_cons_succ, i64_w, i32_w]
                rfl
              refine take_ (i := 37) (N := some 95) (v := ?_) (a' := ?_) #[true, true, true, true, true, true, true, true, true, true, true, true, true, true, true, true, true, true, true, true, true, true, true, true, true, true, true, true, false, true, true, false, true, true, true, true, true, true, true, false, false, false, false, false, false] rfl rfl (take_ofW HT_.out HW_.out (by kernel_rfl)) (fun _ _ _ h => h) (Or.inl ⟨by rfl, ?_⟩) hHeld ?_ ?_
              rotate_left
              · rintro w' ⟨s0, s1, s2⟩
                go_simp
                with_reducible rfl
              rotate_left
              · simp only [Act.put, List.setIfInBounds_toArray, List.set_cons_zero, List.set_cons_succ, i64_w, i32_w]
                rfl
              refine take_ (i := 39) (N := some 97) (v := ?_) (a' := ?_) #[true, true, true, true, true, true, true, true, true, true, true, true, true, true, true, true, true, true, true, true, true, true, true, true, true, true, true, true, false, true, true, false, true, true, true, true, true, true, true, true, false, false, false, false, false] rfl rfl (take_ofW HT_.out HW_.out (by kernel_rfl)) (fun _ _ _ h => h) (Or.inl ⟨by rfl, ?_⟩) hHeld ?_ ?_
              rotate_left
              · rintro w' ⟨s0, s1, s2⟩
                go_simp
                with_reducible rfl
              rotate_left
              · simp only [Act.put, List.setIfInBounds_toArray, List.set_cons_zero, List.set_cons_succ, i64_w, i32_w]
                rfl
              refine one_ (i := 28) (N := some 86) #[true, true, true, true, true, true, true, true, true, true, true, true, true, true, true, true, true, true, true, true, true, true, true, true, true, true, true, true, true, true, true, false, true, true, true, true, true, true, true, true, false, false, false, false, false] rfl rfl (one_of HT_.out (by kernel_rfl)) (by decide) (fun K hK => ?_)
              refine goes_ Try.func95 (by kernel_rfl) rfl #[.int .i64 a0, .int .u64 a1_0, .int .u64 a1_1] (by rfl) rfl rfl (by (try simp only [List.map_toArray, List.map_cons, List.map_nil]); first | done | rfl | (simp only [List.length_drop, List.length_take]; rfl)) ?_
              with_reducible refine (order_Max.calls kj6 a0 a1_0 a1_1 t875 _ A115.out).mono ?_
              rintro e w124 ⟨rfl, hb⟩
              refine ⟨_, rfl, ?_⟩
              have n0_ := Aside0.mk (blk_below (g := gb856) (o := .cells #[.int .u64 a1_0, .int .u64 a1_1, .int .u64 a1_2] 91 (0, 0)) (by (with_reducible repeat (first | refine blk_drewN ?_ _ | refine blk_drew ?_ | refine blk_alloc ?_ _)); exact BK856.out) hb)
              have n1_ := Aside0.mk (below_step (by repeat (first | (with_reducible first | exact HB.out | apply below_alloc | apply pw_below_drewN | apply below_drew1 | refine below_set ?_ GE856.out) | exact HB.out)) hb)
              clear BK856
              clear HB
              have BK856 := n0_
              have HB := n1_
              clear n0_ n1_
              (try clear hb)
              (try clear hb2)
              (try clear hk)
              (try clear hi)
              refine hK.out _ _ ⟨(blk_cell BK856.out 0).trans rfl, (blk_cell BK856.out 1).trans rfl, (blk_cell BK856.out 2).trans rfl⟩ (fun hHeld => ?_)
              clear hK K
              refine norm_ (a' := ?_) ?_ ?_
              rotate_left
              · show Act.put _ (some 86) _ = _
                simp only [Act.put, List.setIfInBounds_toArray, List.set_cons_zero, List.set_cons_succ, i64_w, i32_w]
                rfl
              refine one_ (i := 31) (N := some 89) #[true, true, true, true, true, true, true, true, true, true, true, true, true, true, true, true, true, true, true, true, true, true, true, true, true, true, true, true, true, true, true, true, true, true, true, true, true, true, true, true, false, false, false, false, false] rfl rfl (one_of HT_.out (by kernel_rfl)) (by decide) (fun K hK => ?_)
              refine goes_ Try.func95 (by kernel_rfl) rfl #[.int .i64 a0, .int .u64 t875, .int .u64 a1_2] (by rfl) rfl rfl (by (try simp only [List.map_toArray, List.map_cons, List.map_nil]); first | done | rfl | (simp only [List.length_drop, List.length_take]; rfl)) ?_
              with_reducible refine (order_Max.calls kj6 a0 t875 a1_2 t876 _ A116.out).mono ?_
              rintro e w125 ⟨rfl, hb⟩
              refine ⟨_, rfl, ?_⟩
              have n0_ := Aside0.mk (blk_below (g := gb856) (o := .cells #[.int .u64 a1_0, .int .u64 a1_1, .int .u64 a1_2] 91 (0, 0)) (by (with_reducible repeat (first | refine blk_drewN ?_ _ | refine blk_drew ?_ | refine blk_alloc ?_ _)); exact BK856.out) hb)
              have n1_ := Aside0.mk (below_step (by repeat (first | (with_reducible first | exact HB.out | apply below_alloc | apply pw_below_drewN | apply below_drew1 | refine below_set ?_ GE856.out) | exact HB.out)) hb)
              clear BK856
              clear HB
              have BK856 := n0_
              have HB := n1_
              clear n0_ n1_
              (try clear hb)
              (try clear hb2)
              (try clear hk)
              (try clear hi)
              refine hK.out _ _ ⟨(blk_cell BK856.out 0).trans rfl, (blk_cell BK856.out 1).trans rfl, (blk_cell BK856.out 2).trans rfl⟩ (fun hHeld => ?_)
              clear hK K
              refine norm_ (a' := ?_) ?_ ?_
              rotate_left
              · show Act.put _ (some 89) _ = _
                simp only [Act.put, List.setIfInBounds_toArray, List.set_cons_zero, List.set_cons_succ, i64_w, i32_w]
                rfl
              refine one_ (i := 40) (N := some 98) #[true, true, true, true, true, true, true, true, true, true, true, true, true, true, true, true, true, true, true, true, true, true, true, true, true, true, true, true, true, true, true, true, true, true, true, true, true, true, true, true, true, false, false, false, false] rfl rfl (one_of HT_.out (by kernel_rfl)) (by decide) (fun K hK => ?_)
              refine goes_ Try.func95 (by kernel_rfl) rfl #[.int .i64 a0, .int .u64 a1_1, .int .u64 a1_2] (by rfl) rfl rfl (by (try simp only [List.map_toArray, List.map_cons, List.map_nil]); first | done | rfl | (simp only [List.length_drop, List.length_take]; rfl)) ?_
              with_reducible refine (order_Max.calls kj6 a0 a1_1 a1_2 t877 _ A117.out).mono ?_
              rintro e w126 ⟨rfl, hb⟩
              refine ⟨_, rfl, ?_⟩
              have n0_ := Aside0.mk (blk_below (g := gb856) (o := .cells #[.int .u64 a1_0, .int .u64 a1_1, .int .u64 a1_2] 91 (0, 0)) (by (with_reducible repeat (first | refine blk_drewN ?_ _ | refine blk_drew ?_ | refine blk_alloc ?_ _)); exact BK856.out) hb)
              have n1_ := Aside0.mk (below_step (by repeat (first | (with_reducible first | exact HB.out | apply below_alloc | apply pw_below_drewN | apply below_drew1 | refine below_set ?_ GE856.out) | exact HB.out)) hb)
              clear BK856
              clear HB
              have BK856 := n0_
              have HB := n1_
              clear n0_ n1_
              (try clear hb)
              (try clear hb2)
              (try clear hk)
              (try clear hi)
              refine hK.out _ _ ⟨(blk_cell BK856.out 0).trans rfl, (blk_cell BK856.out 1).trans rfl, (blk_cell BK856.out 2).trans rfl⟩ (fun hHeld => ?_)
              clear hK K
              refine norm_ (a' := ?_) ?_ ?_
              rotate_left
              · show Act.put _ (some 98) _ = _
                simp only [Act.put, List.setIfInBounds_toArray, List.set_cons_zero, List.set_cons_succ, i64_w, i32_w]
                rfl
              refine one_ (i := 41) (N := some 99) #[true, true, true, true, true, true, true, true, true, true, true, true, true, true, true, true, true, true, true, true, true, true, true, true, true, true, true, true, true, true, true, true, true, true, true, true, true, true, true, true, true, true, false, false, false] rfl rfl (one_of HT_.out (by kernel_rfl)) (by decide) (fun K hK => ?_)
              refine goes_ Try.func95 (by kernel_rfl) rfl #[.int .i64 a0, .int .u64 a1_0, .int .u64 t877] (by rfl) rfl rfl (by (try simp only [List.map_toArray, List.map_cons, List.map_nil]); first | done | rfl | (simp only [List.length_drop, List.length_take]; rfl)) ?_
              with_reducible refine (order_Max.calls kj6 a0 a1_0 t877 t878 _ A118.out).mono ?_
              rintro e w127 ⟨rfl, hb⟩
              refine ⟨_, rfl, ?_⟩
              have n0_ := Aside0.mk (blk_below (g := gb856) (o := .cells #[.int .u64 a1_0, .int .u64 a1_1, .int .u64 a1_2] 91 (0, 0)) (by (with_reducible repeat (first | refine blk_drewN ?_ _ | refine blk_drew ?_ | refine blk_alloc ?_ _)); exact BK856.out) hb)
              have n1_ := Aside0.mk (below_step (by repeat (first | (with_reducible first | exact HB.out | apply below_alloc | apply pw_below_drewN | apply below_drew1 | refine below_set ?_ GE856.out) | exact HB.out)) hb)
              clear BK856
              clear HB
              have BK856 := n0_
              have HB := n1_
              clear n0_ n1_
              (try clear hb)
              (try clear hb2)
              (try clear hk)
              (try clear hi)
              refine hK.out _ _ ⟨(blk_cell BK856.out 0).trans rfl, (blk_cell BK856.out 1).trans rfl, (blk_cell BK856.out 2).trans rfl⟩ (fun hHeld => ?_)
              clear hK K
              refine norm_ (a' := ?_) ?_ ?_
              rotate_left
              · show Act.put _ (some 99) _ = _
                simp only [Act.put, List.setIfInBounds_toArray, List.set_cons_zero, List.set_cons_succ, i64_w, i32_w]
                rfl
              refine pure_ (i := 42) (N := some 100) (v := ?_) (a' := ?_) #[true, true, true, true, true, true, true, true, true, true, true, true, true, true, true, true, true, true, true, true, true, true, true, true, true, true, true, true, true, true, true, true, true, true, true, true, true, true, true, true, true, true, true, false, false] rfl rfl (any_of HT_.out (by kernel_rfl)) (fun _ _ _ h => h) (Or.inl ⟨by rfl, ?_⟩) ?_ ?_
              rotate_left
              · intro w'
                go_simp
                with_reducible rfl
              rotate_left
              · simp only [Act.put, List.setIfInBounds_toArray, List.set_cons_zero, List.set_cons_succ, i64_w, i32_w]
                rfl
              refine pure_ (i := 43) (N := some 101) (v := ?_) (a' := ?_) #[true, true, true, true, true, true, true, true, true, true, true, true, true, true, true, true, true, true, true, true, true, true, true, true, true, true, true, true, true, true, true, true, true, true, true, true, true, true, true, true, true, true, true, true, false] rfl rfl (any_of HT_.out (by kernel_rfl)) (fun _ _ _ h => h) (Or.inl ⟨by rfl, ?_⟩) ?_ ?_
              rotate_left
              · intro w'
                go_simp
                with_reducible rfl
              rotate_left
              · simp only [Act.put, List.setIfInBounds_toArray, List.set_cons_zero, List.set_cons_succ, i64_w, i32_w]
                rfl
              refine pure_ (i := 44) (N := some 4) (v := ?_) (a' := ?_) #[true, true, true, true, true, true, true, true, true, true, true, true, true, true, true, true, true, true, true, true, true, true, true, true, true, true, true, true, true, true, true, true, true, true, true, true, true, true, true, true, true, true, true, true, true] rfl rfl (any_of HT_.out (by kernel_rfl)) (fun _ _ _ h => h) (Or.inl ⟨by rfl, ?_⟩) ?_ ?_
              rotate_left
              · intro w'
                go_simp
                with_reducible rfl
              rotate_left
              · simp only [Act.put, List.setIfInBounds_toArray, List.set_cons_zero, List.set_cons_succ, i64_w, i32_w]
                rfl
              refine done_ (done_of HT_.out (by kernel_rfl)) ?_
              try go_wp2
              go_ret
              exact ⟨by first | rfl | (simp [errW_none, errW_some] <;> rfl) | (simp [*, errW_none, errW_some] <;> rfl), by repeat (first | (with_reducible first | exact HB.out | apply below_alloc | apply pw_below_drewN | apply below_drew1 | refine below_set ?_ GE856.out) | exact HB.out)⟩
            · rw [if_neg c114] at H
              have c114b0 : (t872 == t874) = false := beq_eq_false_iff_ne.mpr c114
              have c114b1 : (t872 != t874) = true := bne_iff_ne.mpr c114
              obtain rfl := Option.some.inj H
              try go_wp2
              have n0_ := Aside0.mk (blk_drew BK856.out)
              have n1_ := Aside0.mk (below_drew1 HB.out)
              clear BK856
              clear HB
              have BK856 := n0_
              have HB := n1_
              clear n0_ n1_
              refine start_ (n := 45) (S := fun w' => w'.cell? ⟨gb856, 0, none⟩ = some (.int .u64 a1_0) ∧ w'.cell? ⟨gb856, 1, none⟩ = some (.int .u64 a1_1) ∧ w'.cell? ⟨gb856, 2, none⟩ = some (.int .u64 a1_2)) (ds := []) #[false, false, false, false, false, false, false, false, false, false, false, false, false, false, false, false, false, false, false, false, false, false, false, false, false, false, false, false, false, false, false, false, false, false, false, false, false, false, false, false, false, false, false, false, false] (by kernel_rfl) rfl rfl ⟨(blk_cell BK856.out 0).trans rfl, (blk_cell BK856.out 1).trans rfl, (blk_cell BK856.out 2).trans rfl⟩ (fun hHeld => ?_); refine with_tabW trunnionlaw08_OrderChain.tab7 trunnionlaw08_OrderChain.bits7 (fun HT_ HW_ => ?_)
              generalize wc.drew = w128 at BK856 HB hHeld ⊢
              refine pure_ (i := 0) (N := some 58) (v := ?_) (a' := ?_) #[true, false, false, false, false, false, false, false, false, false, false, false, false, false, false, false, false, false, false, false, false, false, false, false, false, false, false, false, false, false, false, false, false, false, false, false, false, false, false, false, false, false, false, false, false] rfl rfl (any_of HT_.out (by kernel_rfl)) (fun _ _ _ h => h) (Or.inl ⟨by rfl, ?_⟩) ?_ ?_
              rotate_left
              · intro w'
                go_simp
                with_reducible rfl
              rotate_left
              · simp only [Act.put, List.setIfInBounds_toArray, List.set_cons_zero, List.set_cons_succ, i64_w, i32_w]
                rfl
              refine pure_ (i := 1) (N := some 59) (v := ?_) (a' := ?_) #[true, true, false, false, false, false, false, false, false, false, false, false, false, false, false, false, false, false, false, false, false, false, false, false, false, false, false, false, false, false, false, false, false, false, false, false, false, false, false, false, false, false, false, false, false] rfl rfl (any_of HT_.out (by kernel_rfl)) (fun _ _ _ h => h) (Or.inl ⟨by rfl, ?_⟩) ?_ ?_
              rotate_left
              · intro w'
                go_simp
                with_reducible rfl
              rotate_left
              · simp only [Act.put, List.setIfInBounds_toArray, List.set_cons_zero, List.set_cons_succ, i64_w, i32_w]
                rfl
              refine pure_ (i := 2) (N := some 60) (v := ?_) (a' := ?_) #[true, true, true, false, false, false, false, false, false, false, false, false, false, false, false, false, false, false, false, false, false, false, false, false, false, false, false, false, false, false, false, false, false, false, false, false, false, false, false, false, false, false, false, false, false] rfl rfl (any_of HT_.out (by kernel_rfl)) (fun _ _ _ h => h) (Or.inl ⟨by rfl, ?_⟩) ?_ ?_
              rotate_left
              · intro w'
                go_simp
                with_reducible rfl
              rotate_left
              · simp only [Act.put, List.setIfInBounds_toArray, List.set_cons_zero, List.set_cons_succ, i64_w, i32_w]
                rfl
              refine pure_ (i := 4) (N := some 62) (v := ?_) (a' := ?_) #[true, true, true, false, true, false, false, false, false, false, false, false, false, false, false, false, false, false, false, false, false, false, false, false, false, false, false, false, false, false, false, false, false, false, false, false, false, false, false, false, false, false, false, false, false] rfl rfl (any_of HT_.out (by kernel_rfl)) (fun _ _ _ h => h) (Or.inl ⟨by rfl, ?_⟩) ?_ ?_
              rotate_left
              · intro w'
                go_simp
                with_reducible rfl
              rotate_left
              · simp only [Act.put, List.setIfInBounds_toArray, List.set_cons_zero, List.set_cons_succ, i64_w, i32_w]
                rfl
              refine pure_ (i := 7) (N := some 65) (v := ?_) (a' := ?_) #[true, true, true, false, true, false, false, true, false, false, false, false, false, false, false, false, false, false, false, false, false, false, false, false, false, false, false, false, false, false, false, false, false, false, false, false, false, false, false, false, false, false, false, false, false] rfl rfl (any_of HT_.out (by kernel_rfl)) (fun _ _ _ h => h) (Or.inl ⟨by rfl, ?_⟩) ?_ ?_
              rotate_left
              · intro w'
                go_simp
                with_reducible rfl
              rotate_left
              · simp only [Act.put, List.setIfInBounds_toArray, List.set_cons_zero, List.set_cons_succ, i64_w, i32_w]
                rfl
              refine pure_ (i := 10) (N := some 68) (v := ?_) (a' := ?_) #[true, true, true, false, true, false, false, true, false, false, true, false, false, false, false, false, false, false, false, false, false, false, false, false, false, false, false, false, false, false, false, false, false, false, false, false, false, false, false, false, false, false, false, false, false] rfl rfl (any_of HT_.out (by kernel_rfl)) (fun _ _ _ h => h) (Or.inl ⟨by rfl, ?_⟩) ?_ ?_
              rotate_left
              · intro w'
                go_simp
                with_reducible rfl
              rotate_left
              · simp only [Act.put, List.setIfInBounds_toArray, List.set_cons_zero, List.set_cons_succ, i64_w, i32_w]
                rfl
              refine pure_ (i := 11) (N := some 69) (v := ?_) (a' := ?_) #[true, true, true, false, true, false, false, true, false, false, true, true, false, false, false, false, false, false, false, false, false, false, false, false, false, false, false, false, false, false, false, false, false, false, false, false, false, false, false, false, false, false, false, false, false] rfl rfl (any_of HT_.out (by kernel_rfl)) (fun _ _ _ h => h) (Or.inl ⟨by rfl, ?_⟩) ?_ ?_
              rotate_left
              · intro w'
                go_simp
                with_reducible rfl
              rotate_left
              · simp only [Act.put, List.setIfInBounds_toArray, List.set_cons_zero, List.set_cons_succ, i64_w, i32_w]
                rfl
              refine pure_ (i := 13) (N := some 71) (v := ?_) (a' := ?_) #[true, true, true, false, true, false, false, true, false, false, true, true, false, true, false, false, false, false, false, false, false, false, false, false, false, false, false, false, false, false, false, false, false, false, false, false, false, false, false, false, false, false, false, false, false] rfl rfl (any_of HT_.out (by kernel_rfl)) (fun _ _ _ h => h) (Or.inl ⟨by rfl, ?_⟩) ?_ ?_
              rotate_left
              · intro w'
                go_simp
                with_reducible rfl
              rotate_left
              · simp only [Act.put, List.setIfInBounds_toArray, List.set_cons_zero, List.set_cons_succ, i64_w, i32_w]
                rfl
              refine pure_ (i := 14) (N := some 72) (v := ?_) (a' := ?_) #[true, true, true, false, true, false, false, true, false, false, true, true, false, true, true, false, false, false, false, false, false, false, false, false, false, false, false, false, false, false, false, false, false, false, false, false, false, false, false, false, false, false, false, false, false] rfl rfl (any_of HT_.out (by kernel_rfl)) (fun _ _ _ h => h) (Or.inl ⟨by rfl, ?_⟩) ?_ ?_
              rotate_left
              · intro w'
                go_simp
                with_reducible rfl
              rotate_left
              · simp only [Act.put, List.setIfInBounds_toArray, List.set_cons_zero, List.set_cons_succ, i64_w, i32_w]
                rfl
              refine pure_ (i := 16) (N := some 74) (v := ?_) (a' := ?_) #[true, true, true, false, true, false, false, true, false, false, true, true, false, true, true, false, true, false, false, false, false, false, false, false, false, false, false, false, false, false, false, false, false, false, false, false, false, false, false, false, false, false, false, false, false] rfl rfl (any_of HT_.out (by kernel_rfl)) (fun _ _ _ h => h) (Or.inl ⟨by rfl, ?_⟩) ?_ ?_
              rotate_left
              · intro w'
                go_simp
                with_reducible rfl
              rotate_left
              · simp only [Act.put, List.setIfInBounds_toArray, List.set_cons_zero, List.set_cons_succ, i64_w, i32_w]
                rfl
              refine take_ (i := 3) (N := some 61) (v := ?_) (a' := ?_) #[true, true, true, true, true, false, false, true, false, false, true, true, false, true, true, false, true, false, false, false, false, false, false, false, false, false, false, false, false, false, false, false, false, false, false, false, false, false, false, false, false, false, false, false, false] rfl rfl (take_ofW HT_.out HW_.out (by kernel_rfl)) (fun _ _ _ h => h) (Or.inl ⟨by rfl, ?_⟩) hHeld ?_ ?_
              rotate_left
              · rintro w' ⟨s0, s1, s2⟩
                go_simp
                with_reducible rfl
              rotate_left
              · simp only [Act.put, List.setIfInBounds_toArray, List.set_cons_zero, List.set_cons_succ, i64_w, i32_w]
                rfl
              refine take_ (i := 5) (N := some 63) (v := ?_) (a' := ?_) #[true, true, true, true, true, true, false, true, false, false, true, true, false, true, true, false, true, false, false, false, false, false, false, false, false, false, false, false, false, false, false, false, false, false, false, false, false, false, false, false, false, false, false, false, false] rfl rfl (take_ofW HT_.out HW_.out (by kernel_rfl)) (fun _ _ _ h => h) (Or.inl ⟨by rfl, ?_⟩) hHeld ?_ ?_
              rotate_left
              · rintro w' ⟨s0, s1, s2⟩
                go_simp
                with_reducible rfl
              rotate_left
              · simp only [Act.put, List.setIfInBounds_toArray, List.set_cons_zero, List.set_cons_succ, i64_w, i32_w]
                rfl
              refine take_ (i := 8) (N := some 66) (v := ?_) (a' := ?_) #[true, true, true, true, true, true, false, true, true, false, true, true, false, true, true, false, true, false, false, false, false, false, false, false, false, false, false, false, false, false, false, false, false, false, false, false, false, false, false, false, false, false, false, false, false] rfl rfl (take_ofW HT_.out HW_.out (by kernel_rfl)) (fun _ _ _ h => h) (Or.inl ⟨by rfl, ?_⟩) hHeld ?_ ?_
              rotate_left
              · rintro w' ⟨s0, s1, s2⟩
                go_simp
                with_reducible rfl
              rotate_left
              · simp only [Act.put, List.setIfInBounds_toArray, List.set_cons_zero, List.set_cons_succ, i64_w, i32_w]
                rfl
              refine take_ (i := 12) (N := some 70) (v := ?_) (a' := ?_) #[true, true, true, true, true, true, false, true, true, false, true, true, true, true, true, false, true, false, false, false, false, false, false, false, false, false, false, false, false, false, false, false, false, false, false, false, false, false, false, false, false, false, false, false, false] rfl rfl (take_ofW HT_.out HW_.out (by kernel_rfl)) (fun _ _ _ h => h) (Or.inl ⟨by rfl, ?_⟩) hHeld ?_ ?_
              rotate_left
              · rintro w' ⟨s0, s1, s2⟩
                go_simp
                with_reducible rfl
              rotate_left
              · simp only [Act.put, List.setIfInBounds_toArray, List.set_cons_zero, List.set_cons_succ, i64_w, i32_w]
                rfl
              refine take_ (i := 15) (N := some 73) (v := ?_) (a' := ?_) #[true, true, true, true, true, true, false, true, true, false, true, true, true, true, true, true, true, false, false, false, false, false, false, false, false, false, false, false, false, false, false, false, false, false, false, false, false, false, false, false, false, false, false, false, false] rfl rfl (take_ofW HT_.out HW_.out (by kernel_rfl)) (fun _ _ _ h => h) (Or.inl ⟨by rfl, ?_⟩) hHeld ?_ ?_
              rotate_left
              · rintro w' ⟨s0, s1, s2⟩
                go_simp
                with_reducible rfl
              rotate_left
              · simp only [Act.put, List.setIfInBounds_toArray, List.set_cons_zero, List.set_cons_succ, i64_w, i32_w]
                rfl
              refine take_ (i := 17) (N := some 75) (v := ?_) (a' := ?_) #[true, true, true, true, true, true, false, true, true, false, true, true, true, true, true, true, true, true, false, false, false, false, false, false, false, false, false, false, false, false, false, false, false, false, false, false, false, false, false, false, false, false, false, false, false] rfl rfl (take_ofW HT_.out HW_.out (by kernel_rfl)) (fun _ _ _ h => h) (Or.inl ⟨by rfl, ?_⟩) hHeld ?_ ?_
              rotate_left
              · rintro w' ⟨s0, s1, s2⟩
                go_simp
                with_reducible rfl
              rotate_left
              · simp only [Act.put, List.setIfInBounds_toArray, List.set_cons_zero, List.set_cons_succ, i64_w, i32_w]
                rfl
              refine one_ (i := 6) (N := some 64) #[true, true, true, true, true, true, true, true, true, false, true, true, true, true, true, true, true, true, false, false, false, false, false, false, false, false, false, false, false, false, false, false, false, false, false, false, false, false, false, false, false, false, false, false, false] rfl rfl (one_of HT_.out (by kernel_rfl)) (by decide) (fun K hK => ?_)
              refine goes_ Try.func94 (by kernel_rfl) rfl #[.int .i64 a0, .int .u64 a1_0, .int .u64 a1_1] (by rfl) rfl rfl (by (try simp only [List.map_toArray, List.map_cons, List.map_nil]); first | done | rfl | (simp only [List.length_drop, List.length_take]; rfl)) ?_
              with_reducible refine (order_Min.calls kj6 a0 a1_0 a1_1 t871 _ A110.out).mono ?_
              rintro e w129 ⟨rfl, hb⟩
              refine ⟨_, rfl, ?_⟩
              have n0_ := Aside0.mk (blk_below (g := gb856) (o := .cells #[.int .u64 a1_0, .int .u64 a1_1, .int .u64 a1_2] 91 (0, 0)) (by (with_reducible repeat (first | refine blk_drewN ?_ _ | refine blk_drew ?_ | refine blk_alloc ?_ _)); exact BK856.out) hb)
              have n1_ := Aside0.mk (below_step (by repeat (first | (with_reducible first | exact HB.out | apply below_alloc | apply pw_below_drewN | apply below_drew1 | refine below_set ?_ GE856.out) | exact HB.out)) hb)
              clear BK856
              clear HB
              have BK856 := n0_
              have HB := n1_
              clear n0_ n1_
              (try clear hb)
              (try clear hb2)
              (try clear hk)
              (try clear hi)
              refine hK.out _ _ ⟨(blk_cell BK856.out 0).trans rfl, (blk_cell BK856.out 1).trans rfl, (blk_cell BK856.out 2).trans rfl⟩ (fun hHeld => ?_)
              clear hK K
              refine norm_ (a' := ?_) ?_ ?_
              rotate_left
              · show Act.put _ (some 64) _ = _
                simp only [Act.put, List.setIfInBounds_toArray, List.set_cons_zero, List.set_cons_succ, i64_w, i32_w]
                rfl
              refine one_ (i := 9) (N := some 67) #[true, true, true, true, true, true, true, true, true, true, true, true, true, true, true, true, true, true, false, false, false, false, false, false, false, false, false, false, false, false, false, false, false, false, false, false, false, false, false, false, false, false, false, false, false] rfl rfl (one_of HT_.out (by kernel_rfl)) (by decide) (fun K hK => ?_)
              refine goes_ Try.func94 (by kernel_rfl) rfl #[.int .i64 a0, .int .u64 t871, .int .u64 a1_2] (by rfl) rfl rfl (by (try simp only [List.map_toArray, List.map_cons, List.map_nil]); first | done | rfl | (simp only [List.length_drop, List.length_take]; rfl)) ?_
              with_reducible refine (order_Min.calls kj6 a0 t871 a1_2 t872 _ A111.out).mono ?_
              rintro e w130 ⟨rfl, hb⟩
              refine ⟨_, rfl, ?_⟩
              have n0_ := Aside0.mk (blk_below (g := gb856) (o := .cells #[.int .u64 a1_0, .int .u64 a1_1, .int .u64 a1_2] 91 (0, 0)) (by (with_reducible repeat (first | refine blk_drewN ?_ _ | refine blk_drew ?_ | refine blk_alloc ?_ _)); exact BK856.out) hb)
              have n1_ := Aside0.mk (below_step (by repeat (first | (with_reducible first | exact HB.out | apply below_alloc | apply pw_below_drewN | apply below_drew1 | refine below_set ?_ GE856.out) | exact HB.out)) hb)
              clear BK856
              clear HB
              have BK856 := n0_
              have HB := n1_
              clear n0_ n1_
              (try clear hb)
              (try clear hb2)
              (try clear hk)
              (try clear hi)
              refine hK.out _ _ ⟨(blk_cell BK856.out 0).trans rfl, (blk_cell BK856.out 1).trans rfl, (blk_cell BK856.out 2).trans rfl⟩ (fun hHeld => ?_)
              clear hK K
              refine norm_ (a' := ?_) ?_ ?_
              rotate_left
              · show Act.put _ (some 67) _ = _
                simp only [Act.put, List.setIfInBounds_toArray, List.set_cons_zero, List.set_cons_succ, i64_w, i32_w]
                rfl
              refine one_ (i := 18) (N := some 76) #[true, true, true, true, true, true, true, true, true, true, true, true, true, true, true, true, true, true, true, false, false, false, false, false, false, false, false, false, false, false, false, false, false, false, false, false, false, false, false, false, false, false, false, false, false] rfl rfl (one_of HT_.out (by kernel_rfl)) (by decide) (fun K hK => ?_)
              refine goes_ Try.func94 (by kernel_rfl) rfl #[.int .i64 a0, .int .u64 a1_1, .int .u64 a1_2] (by rfl) rfl rfl (by (try simp only [List.map_toArray, List.map_cons, List.map_nil]); first | done | rfl | (simp only [List.length_drop, List.length_take]; rfl)) ?_
              with_reducible refine (order_Min.calls kj6 a0 a1_1 a1_2 t873 _ A112.out).mono ?_
              rintro e w131 ⟨rfl, hb⟩
              refine ⟨_, rfl, ?_⟩
              have n0_ := Aside0.mk (blk_below (g := gb856) (o := .cells #[.int .u64 a1_0, .int .u64 a1_1, .int .u64 a1_2] 91 (0, 0)) (by (with_reducible repeat (first | refine blk_drewN ?_ _ | refine blk_drew ?_ | refine blk_alloc ?_ _)); exact BK856.out) hb)
              have n1_ := Aside0.mk (below_step (by repeat (first | (with_reducible first | exact HB.out | apply below_alloc | apply pw_below_drewN | apply below_drew1 | refine below_set ?_ GE856.out) | exact HB.out)) hb)
              clear BK856
              clear HB
              have BK856 := n0_
              have HB := n1_
              clear n0_ n1_
              (try clear hb)
              (try clear hb2)
              (try clear hk)
              (try clear hi)
              refine hK.out _ _ ⟨(blk_cell BK856.out 0).trans rfl, (blk_cell BK856.out 1).trans rfl, (blk_cell BK856.out 2).trans rfl⟩ (fun hHeld => ?_)
              clear hK K
              refine norm_ (a' := ?_) ?_ ?_
              rotate_left
              · show Act.put _ (some 76) _ = _
                simp only [Act.put, List.setIfInBounds_toArray, List.set_cons_zero, List.set_cons_succ, i64_w, i32_w]
                rfl
              refine one_ (i := 19) (N := some 77) #[true, true, true, true, true, true, true, true, true, true, true, true, true, true, true, true, true, true, true, true, false, false, false, false, false, false, false, false, false, false, false, false, false, false, false, false, false, false, false, false, false, false, false, false, false] rfl rfl (one_of HT_.out (by kernel_rfl)) (by decide) (fun K hK => ?_)
              refine goes_ Try.func94 (by kernel_rfl) rfl #[.int .i64 a0, .int .u64 a1_0, .int .u64 t873] (by rfl) rfl rfl (by (try simp only [List.map_toArray, List.map_cons, List.map_nil]); first | done | rfl | (simp only [List.length_drop, List.length_take]; rfl)) ?_
              with_reducible refine (order_Min.calls kj6 a0 a1_0 t873 t874 _ A113.out).mono ?_
              rintro e w132 ⟨rfl, hb⟩
              refine ⟨_, rfl, ?_⟩
              have n0_ := Aside0.mk (blk_below (g := gb856) (o := .cells #[.int .u64 a1_0, .int .u64 a1_1, .int .u64 a1_2] 91 (0, 0)) (by (with_reducible repeat (first | refine blk_drewN ?_ _ | refine blk_drew ?_ | refine blk_alloc ?_ _)); exact BK856.out) hb)
              have n1_ := Aside0.mk (below_step (by repeat (first | (with_reducible first | exact HB.out | apply below_alloc | apply pw_below_drewN | apply below_drew1 | refine below_set ?_ GE856.out) | exact HB.out)) hb)
              clear BK856
              clear HB
              have BK856 := n0_
              have HB := n1_
              clear n0_ n1_
              (try clear hb)
              (try clear hb2)
              (try clear hk)
              (try clear hi)
              refine hK.out _ _ ⟨(blk_cell BK856.out 0).trans rfl, (blk_cell BK856.out 1).trans rfl, (blk_cell BK856.out 2).trans rfl⟩ (fun hHeld => ?_)
              clear hK K
              refine norm_ (a' := ?_) ?_ ?_
              rotate_left
              · show Act.put _ (some 77) _ = _
                simp only [Act.put, List.setIfInBounds_toArray, List.set_cons_zero, List.set_cons_succ, i64_w, i32_w]
                rfl
              refine pure_ (i := 20) (N := some 78) (v := ?_) (a' := ?_) #[true, true, true, true, true, true, true, true, true, true, true, true, true, true, true, true, true, true, true, true, true, false, false, false, false, false, false, false, false, false, false, false, false, false, false, false, false, false, false, false, false, false, false, false, false] rfl rfl (any_of HT_.out (by kernel_rfl)) (fun _ _ _ h => h) (Or.inl ⟨by rfl, ?_⟩) ?_ ?_
              rotate_left
              · intro w'
                go_simp
                with_reducible rfl
              rotate_left
              · simp only [Act.put, List.setIfInBounds_toArray, List.set_cons_zero, List.set_cons_succ, i64_w, i32_w]
                rfl
              refine pure_ (i := 21) (N := some 79) (v := ?_) (a' := ?_) #[true, true, true, true, true, true, true, true, true, true, true, true, true, true, true, true, true, true, true, true, true, true, false, false, false, false, false, false, false, false, false, false, false, false, false, false, false, false, false, false, false, false, false, false, false] rfl rfl (any_of HT_.out (by kernel_rfl)) (fun _ _ _ h => h) (Or.inl ⟨by rfl, ?_⟩) ?_ ?_
              rotate_left
              · intro w'
                go_simp
                with_reducible rfl
              rotate_left
              · simp only [Act.put, List.setIfInBounds_toArray, List.set_cons_zero, List.set_cons_succ, i64_w, i32_w]
                rfl
              refine pure_ (i := 22) (N := some 80) (v := undef) (a' := ?_) #[true, true, true, true, true, true, true, true, true, true, true, true, true, true, true, true, true, true, true, true, true, true, true, false, false, false, false, false, false, false, false, false, false, false, false, false, false, false, false, false, false, false, false, false, false] rfl rfl (any_of HT_.out (by kernel_rfl)) (fun _ _ _ h => h) (Or.inr ⟨by rfl, rfl⟩) ?_ ?_
              rotate_left
              · simp only [Act.put, List.setIfInBounds_toArray, List.set_cons_zero, List.set_cons_succ, i64_w, i32_w]
                rfl
              refine pure_ (i := 23) (N := some 81) (v := undef) (a' := ?_) #[true, true, true, true, true, true, true, true, true, true, true, true, true, true, true, true, true, true, true, true, true, true, true, true, false, false, false, false, false, false, false, false, false, false, false, false, false, false, false, false, false, false, false, false, false] rfl rfl (any_of HT_.out (by kernel_rfl)) (fun _ _ _ h => h) (Or.inr ⟨by rfl, rfl⟩) ?_ ?_
              rotate_left
              · simp only [Act.put, List.setIfInBounds_toArray, List.set_cons_zero, List.set_cons_succ, i64_w, i32_w]
                rfl
              refine pure_ (i := 24) (N := some 82) (v := undef) (a' := ?_) #[true, true, true, true, true, true, true, true, true, true, true, true, true, true, true, true, true, true, true, true, true, true, true, true, true, false, false, false, false, false, false, false, false, false, false, false, false, false, false, false, false, false, false, false, false] rfl rfl (any_of HT_.out (by kernel_rfl)) (fun _ _ _ h => h) (Or.inr ⟨by rfl, rfl⟩) ?_ ?_
              rotate_left
              · simp only [Act.put, List.setIfInBounds_toArray, List.set_cons_zero, List.set_cons_succ, i64_w, i32_w]
                rfl
              refine pure_ (i := 25) (N := some 83) (v := undef) (a' := ?_) #[true, true, true, true, true, true, true, true, true, true, true, true, true, true, true, true, true, true, true, true, true, true, true, true, true, true, false, false, false, false, false, false, false, false, false, false, false, false, false, false, false, false, false, false, false] rfl rfl (any_of HT_.out (by kernel_rfl)) (fun _ _ _ h => h) (Or.inr ⟨by rfl, rfl⟩) ?_ ?_
              rotate_left
              · simp only [Act.put, List.setIfInBounds_toArray, List.set_cons_zero, List.set_cons_succ, i64_w, i32_w]
                rfl
              refine pure_ (i := 26) (N := some 84) (v := undef) (a' := ?_) #[true, true, true, true, true, true, true, true, true, true, true, true, true, true, true, true, true, true, true, true, true, true, true, true, true, true, true, false, false, false, false, false, false, false, false, false, false, false, false, false, false, false, false, false, false] rfl rfl (any_of HT_.out (by kernel_rfl)) (fun _ _ _ h => h) (Or.inr ⟨by rfl, rfl⟩) ?_ ?_
              rotate_left
              · simp only [Act.put, List.setIfInBounds_toArray, List.set_cons_zero, List.set_cons_succ, i64_w, i32_w]
                rfl
              refine pure_ (i := 27) (N := some 85) (v := undef) (a' := ?_) #[true, true, true, true, true, true, true, true, true, true, true, true, true, true, true, true, true, true, true, true, true, true, true, true, true, true, true, true, false, false, false, false, false, false, false, false, false, false, false, false, false, false, false, false, false] rfl rfl (any_of HT_.out (by kernel_rfl)) (fun _ _ _ h => h) (Or.inr ⟨by rfl, rfl⟩) ?_ ?_
              rotate_left
              · simp only [Act.put, List.setIfInBounds_toArray, List.set_cons_zero, List.set_cons_succ, i64_w, i32_w]
                rfl
              refine pure_ (i := 28) (N := some 86) (v := undef) (a' := ?_) #[true, true, true, true, true, true, true, true, true, true, true, true, true, true, true, true, true, true, true, true, true, true, true, true, true, true, true, true, true, false, false, false, false, false, false, false, false, false, false, false, false, false, false, false, false] rfl rfl (any_of HT_.out (by kernel_rfl)) (fun _ _ _ h => h) (Or.inr ⟨by rfl, rfl⟩) ?_ ?_
              rotate_left
              · simp only [Act.put, List.setIfInBounds_toArray, List.set_cons_zero, List.set_cons_succ, i64_w, i32_w]
                rfl
              refine pure_ (i := 29) (N := some 87) (v := undef) (a' := ?_) #[true, true, true, true, true, true, true, true, true, true, true, true, true, true, true, true, true, true, true, true, true, true, true, true, true, true, true, true, true, true, false, false, false, false, false, false, false, false, false, false, false, false, false, false, false] rfl rfl (any_of HT_.out (by kernel_rfl)) (fun _ _ _ h => h) (Or.inr ⟨by rfl, rfl⟩) ?_ ?_
              rotate_left
              · simp only [Act.put, List.setIfInBounds_toArray, List.set_cons_zero, List.set_cons_succ, i64_w, i32_w]
                rfl
              refine pure_ (i := 30) (N := some 88) (v := undef) (a' := ?_) #[true, true, true, true, true, true, true, true, true, true, true, true, true, true, true, true, true, true, true, true, true, true, true, true, true, true, true, true, true, true, true, false, false, false, false, false, false, false, false, false, false, false, false, false, false] rfl rfl (any_of HT_.out (by kernel_rfl)) (fun _ _ _ h => h) (Or.inr ⟨by rfl, rfl⟩) ?_ ?_
              rotate_left
              · simp only [Act.put, List.setIfInBounds_toArray, List.set_cons_zero, List.set_cons_succ, i64_w, i32_w]
                rfl
              refine pure_ (i := 31) (N := some 89) (v := undef) (a' := ?_) #[true, true, true, true, true, true, true, true, true, true, true, true, true, true, true, true, true, true, true, true, true, true, true, true, true, true, true, true, true, true, true, true, false, false, false, false, false, false, false, false, false, false, false, false, false] rfl rfl (any_of HT_.out (by kernel_rfl)) (fun _ _ _ h => h) (Or.inr ⟨by rfl, rfl⟩) ?_ ?_
              rotate_left
              · simp only [Act.put, List.setIfInBounds_toArray, List.set_cons_zero, List.set_cons_succ, i64_w, i32_w]
                rfl
              refine pure_ (i := 32) (N := some 90) (v := undef) (a' := ?_) #[true, true, true, true, true, true, true, true, true, true, true, true, true, true, true, true, true, true, true, true, true, true, true, true, true, true, true, true, true, true, true, true, true, false, false, false, false, false, false, false, false, false, false, false, false] rfl rfl (any_of HT_.out (by kernel_rfl)) (fun _ _ _ h => h) (Or.inr ⟨by rfl, rfl⟩) ?_ ?_
              rotate_left
              · simp only [Act.put, List.setIfInBounds_toArray, List.set_cons_zero, List.set_cons_succ, i64_w, i32_w]
                rfl
              refine pure_ (i := 33) (N := some 91) (v := undef) (a' := ?_) #[true, true, true, true, true, true, true, true, true, true, true, true, true, true, true, true, true, true, true, true, true, true, true, true, true, true, true, true, true, true, true, true, true, true, false, false, false, false, false, false, false, false, false, false, false] rfl rfl (any_of HT_.out (by kernel_rfl)) (fun _ _ _ h => h) (Or.inr ⟨by rfl, rfl⟩) ?_ ?_
              rotate_left
              · simp only [Act.put, List.setIfInBounds_toArray, List.set_cons_zero, List.set_cons_succ, i64_w, i32_w]
                rfl
              refine pure_ (i := 34) (N := some 92) (v := undef) (a' := ?_) #[true, true, true, true, true, true, true, true, true, true, true, true, true, true, true, true, true, true, true, true, true, true, true, true, true, true, true, true, true, true, true, true, true, true, true, false, false, false, false, false, false, false, false, false, false] rfl rfl (any_of HT_.out (by kernel_rfl)) (fun _ _ _ h => h) (Or.inr ⟨by rfl, rfl⟩) ?_ ?_
              rotate_left
              · simp only [Act.put, List.setIfInBounds_toArray, List.set_cons_zero, List.set_cons_succ, i64_w, i32_w]
                rfl
              refine pure_ (i := 35) (N := some 93) (v := undef) (a' := ?_) #[true, true, true, true, true, true, true, true, true, true, true, true, true, true, true, true, true, true, true, true, true, true, true, true, true, true, true, true, true, true, true, true, true, true, true, true, false, false, false, false, false, false, false, false, false] rfl rfl (any_of HT_.out (by kernel_rfl)) (fun _ _ _ h => h) (Or.inr ⟨by rfl, rfl⟩) ?_ ?_
              rotate_left
              · simp only [Act.put, List.setIfInBounds_toArray, List.set_cons_zero, List.set_cons_succ, i64_w, i32_w]
                rfl
              refine pure_ (i := 36) (N := some 94) (v := undef) (a' := ?_) #[true, true, true, true, true, true, true, true, true, true, true, true, true, true, true, true, true, true, true, true, true, true, true, true, true, true, true, true, true, true, true, true, true, true, true, true, true, false, false, false, false, false, false, false, false] rfl rfl (any_of HT_.out (by kernel_rfl)) (fun _ _ _ h => h) (Or.inr ⟨by rfl, rfl⟩) ?_ ?_
              rotate_left
              · simp only [Act.put, List.setIfInBounds_toArray, List.set_cons_zero, List.set_cons_succ, i64_w, i32_w]
                rfl
              refine pure_ (i := 37) (N := some 95) (v := undef) (a' := ?_) #[true, true, true, true, true, true, true, true, true, true, true, true, true, true, true, true, true, true, true, true, true, true, true, true, true, true, true, true, true, true, true, true, true, true, true, true, true, true, false, false, false, false, false, false, false] rfl rfl (any_of HT_.out (by kernel_rfl)) (fun _ _ _ h => h) (Or.inr ⟨by rfl, rfl⟩) ?_ ?_
              rotate_left
              · simp only [Act.put, List.setIfInBounds_toArray, List.set_cons_zero, List.set_cons_succ, i64_w, i32_w]
                rfl
              refine pure_ (i := 38) (N := some 96) (v := undef) (a' := ?_) #[true, true, true, true, true, true, true, true, true, true, true, true, true, true, true, true, true, true, true, true, true, true, true, true, true, true, true, true, true, true, true, true, true, true, true, true, true, true, true, false, false, false, false, false, false] rfl rfl (any_of HT_.out (by kernel_rfl)) (fun _ _ _ h => h) (Or.inr ⟨by rfl, rfl⟩) ?_ ?_
              rotate_left
              · simp only [Act.put, List.setIfInBounds_toArray, List.set_cons_zero, List.set_cons_succ, i64_w, i32_w]
                rfl
              refine pure_ (i := 39) (N := some 97) (v := undef) (a' := ?_) #[true, true, true, true, true, true, true, true, true, true, true, true, true, true, true, true, true, true, true, true, true, true, true, true, true, true, true, true, true, true, true, true, true, true, true, true, true, true, true, true, false, false, false, false, false] rfl rfl (any_of HT_.out (by kernel_rfl)) (fun _ _ _ h => h) (Or.inr ⟨by rfl, rfl⟩) ?_ ?_
              rotate_left
              · simp only [Act.put, List.setIfInBounds_toArray, List.set_cons_zero, List.set_cons_succ, i64_w, i32_w]
                rfl
              refine pure_ (i := 40) (N := some 98) (v := undef) (a' := ?_) #[true, true, true, true, true, true, true, true, true, true, true, true, true, true, true, true, true, true, true, true, true, true, true, true, true, true, true, true, true, true, true, true, true, true, true, true, true, true, true, true, true, false, false, false, false] rfl rfl (any_of HT_.out (by kernel_rfl)) (fun _ _ _ h => h) (Or.inr ⟨by rfl, rfl⟩) ?_ ?_
              rotate_left
              · simp only [Act.put, List.setIfInBounds_toArray, List.set_cons_zero, List.set_cons_succ, i64_w, i32_w]
                rfl
              refine pure_ (i := 41) (N := some 99) (v := undef) (a' := ?_) #[true, true, true, true, true, true, true, true, true, true, true, true, true, true, true, true, true, true, true, true, true, true, true, true, true, true, true, true, true, true, true, true, true, true, true, true, true, true, true, true, true, true, false, false, false] rfl rfl (any_of HT_.out (by kernel_rfl)) (fun _ _ _ h => h) (Or.inr ⟨by rfl, rfl⟩) ?_ ?_
              rotate_left
              · simp only [Act.put, List.setIfInBounds_toArray, List.set_cons_zero, List.set_cons_succ, i64_w, i32_w]
                rfl
              refine pure_ (i := 42) (N := some 100) (v := undef) (a' := ?_) #[true, true, true, true, true, true, true, true, true, true, true, true, true, true, true, true, true, true, true, true, true, true, true, true, true, true, true, true, true, true, true, true, true, true, true, true, true, true, true, true, true, true, true, false, false] rfl rfl (any_of HT_.out (by kernel_rfl)) (fun _ _ _ h => h) (Or.inr ⟨by rfl, rfl⟩) ?_ ?_
              rotate_left
              · simp only [Act.put, List.setIfInBounds_toArray, List.set_cons_zero, List.set_cons_succ, i64_w, i32_w]
                rfl
              refine pure_ (i := 43) (N := some 101) (v := ?_) (a' := ?_) #[true, true, true, true, true, true, true, true, true, true, true, true, true, true, true, true, true, true, true, true, true, true, true, true, true, true, true, true, true, true, true, true, true, true, true, true, true, true, true, true, true, true, true, true, false] rfl rfl (any_of HT_.out (by kernel_rfl)) (fun _ _ _ h => h) (Or.inl ⟨by rfl, ?_⟩) ?_ ?_
              rotate_left
              · intro w'
                go_simp
                with_reducible rfl
              rotate_left
              · simp only [Act.put, List.setIfInBounds_toArray, List.set_cons_zero, List.set_cons_succ, i64_w, i32_w]
                rfl
              refine pure_ (i := 44) (N := some 4) (v := ?_) (a' := ?_) #[true, true, true, true, true, true, true, true, true, true, true, true, true, true, true, true, true, true, true, true, true, true, true, true, true, true, true, true, true, true, true, true, true, true, true, true, true, true, true, true, true, true, true, true, true] rfl rfl (any_of HT_.out (by kernel_rfl)) (fun _ _ _ h => h) (Or.inl ⟨by rfl, ?_⟩) ?_ ?_
              rotate_left
              · intro w'
                go_simp
                with_reducible rfl
              rotate_left
              · simp only [Act.put, List.setIfInBounds_toArray, List.set_cons_zero, List.set_cons_succ, i64_w, i32_w]
                rfl
              refine done_ (done_of HT_.out (by kernel_rfl)) ?_
              try go_wp2
              go_ret
              exact ⟨by first | rfl | (simp [errW_none, errW_some] <;> rfl) | (simp [*, errW_none, errW_some] <;> rfl), by repeat (first | (with_reducible first | exact HB.out | apply below_alloc | apply pw_below_drewN | apply below_drew1 | refine below_set ?_ GE856.out) | exact HB.out)⟩
    · replace c6 := Bool.eq_false_iff.mpr c6
      subst c6
      have H1 : (some true) = some r := by rw [if_neg (show ¬ (false = true) by decide)] at H; exact H
      clear H
      have H := H1
      clear H1
      obtain rfl := Option.some.inj H
      go_enter Try.func21, Try.ntmps21
      go_wp2_with (first | ((with_reducible refine gate_dst (N := 3) rfl ?_); refine box_event ?hg (N := 3) ?hd (cs := #[.int .u64 a1_0, .int .u64 a1_1, .int .u64 a1_2]) (t := 91) ?hr ?_; (case hd => rfl); (case hg => rfl); (case hr => first | (go_simp; done) | (go_simp; rfl)); intro gb856 hg w133 hbox hb; have n0_ := Aside0.mk (below_step (by repeat (first | (with_reducible first | exact HB.out | apply below_alloc | apply pw_below_drewN | apply below_drew1) | exact HB.out)) hb); have n1_ := Aside0.mk (hbox); have n2_ := Aside0.mk ((by rw [hg]; exact (below_size (by repeat (first | (with_reducible first | exact HB.out | apply below_alloc | apply pw_below_drewN | apply below_drew1) | exact HB.out))) : w.heap.size ≤ gb856)); have n3_ := Aside0.mk ((by rw [hg]; exact (below_size (by repeat (first | (with_reducible first | exact HB.out | apply below_alloc | apply pw_below_drewN | apply below_drew1) | exact HB.out))) : w.heap.size ≤ gb856)); clear HB; have HB := n0_; have BK856 := n1_; have GW856 := n2_; have GE856 := n3_; clear n0_ n1_ n2_ n3_; clear hb hbox hg) | ((with_reducible refine gate_callee (f := 93) rfl ?_); refine goesL_ (some 5) rfl rfl Try.func93 (by kernel_rfl) rfl #[] rfl (by (try simp only [List.map_toArray, List.map_cons, List.map_nil]); first | done | rfl | (simp only [List.length_drop, List.length_take]; rfl)) ?_; (with_reducible refine (trunnionlaw08_awake.calls k  true _ A3.out).mono ?_); rintro e w134 ⟨rfl, hb⟩; refine ⟨_, rfl, ?_⟩; have n0_ := Aside0.mk (blk_below (g := gb856) (o := .cells #[.int .u64 a1_0, .int .u64 a1_1, .int .u64 a1_2] 91 (0, 0)) (by (with_reducible repeat (first | refine blk_drewN ?_ _ | refine blk_drew ?_ | refine blk_alloc ?_ _)); exact BK856.out) hb); have n1_ := Aside0.mk (below_step (by repeat (first | (with_reducible first | exact HB.out | apply below_alloc | apply pw_below_drewN | apply below_drew1 | refine below_set ?_ GE856.out) | exact HB.out)) hb); clear BK856; clear HB; have BK856 := n0_; have HB := n1_; clear n0_ n1_; (try clear hb); (try clear hb2); (try clear hk); (try clear hi)) | ((with_reducible refine gate_callee (f := 29) rfl ?_); refine goesL_ (some 8) rfl rfl Try.func29 (by kernel_rfl) rfl #[.int .i64 a0] rfl (by (try simp only [List.map_toArray, List.map_cons, List.map_nil]); first | done | rfl | (simp only [List.length_drop, List.length_take]; rfl)) ?_; (with_reducible refine (trunnionref02_Known.calls a0 false _ A5.out).mono ?_); rintro e w' ⟨rfl, ⟨nd, rfl⟩⟩; refine ⟨_, rfl, ?_⟩))
      go_ret
      exact ⟨by first | rfl | (simp [errW_none, errW_some] <;> rfl) | (simp [*, errW_none, errW_some] <;> rfl), by repeat (first | (with_reducible first | exact HB.out | apply below_alloc | apply pw_below_drewN | apply below_drew1 | refine below_set ?_ GE856.out) | exact HB.out)⟩
  · replace c4 := Bool.eq_false_iff.mpr c4
    subst c4
    have H1 : (some false) = some r := by rw [if_neg (show ¬ (false = true) by decide)] at H; exact H
    clear H
    have H := H1
    clear H1
    obtain rfl := Option.some.inj H
    go_enter Try.func21, Try.ntmps21
    go_wp2_with (first | ((with_reducible refine gate_dst (N := 3) rfl ?_); refine box_event ?hg (N := 3) ?hd (cs := #[.int .u64 a1_0, .int .u64 a1_1, .int .u64 a1_2]) (t := 91) ?hr ?_; (case hd => rfl); (case hg => rfl); (case hr => first | (go_simp; done) | (go_simp; rfl)); intro gb856 hg w135 hbox hb; have n0_ := Aside0.mk (below_step (by repeat (first | (with_reducible first | exact HB.out | apply below_alloc | apply pw_below_drewN | apply below_drew1) | exact HB.out)) hb); have n1_ := Aside0.mk (hbox); have n2_ := Aside0.mk ((by rw [hg]; exact (below_size (by repeat (first | (with_reducible first | exact HB.out | apply below_alloc | apply pw_below_drewN | apply below_drew1) | exact HB.out))) : w.heap.size ≤ gb856)); have n3_ := Aside0.mk ((by rw [hg]; exact (below_size (by repeat (first | (with_reducible first | exact HB.out | apply below_alloc | apply pw_below_drewN | apply below_drew1) | exact HB.out))) : w.heap.size ≤ gb856)); clear HB; have HB := n0_; have BK856 := n1_; have GW856 := n2_; have GE856 := n3_; clear n0_ n1_ n2_ n3_; clear hb hbox hg) | ((with_reducible refine gate_callee (f := 93) rfl ?_); refine goesL_ (some 5) rfl rfl Try.func93 (by kernel_rfl) rfl #[] rfl (by (try simp only [List.map_toArray, List.map_cons, List.map_nil]); first | done | rfl | (simp only [List.length_drop, List.length_take]; rfl)) ?_; (with_reducible refine (trunnionlaw08_awake.calls k  false _ A3.out).mono ?_); rintro e w136 ⟨rfl, hb⟩; refine ⟨_, rfl, ?_⟩; have n0_ := Aside0.mk (blk_below (g := gb856) (o := .cells #[.int .u64 a1_0, .int .u64 a1_1, .int .u64 a1_2] 91 (0, 0)) (by (with_reducible repeat (first | refine blk_drewN ?_ _ | refine blk_drew ?_ | refine blk_alloc ?_ _)); exact BK856.out) hb); have n1_ := Aside0.mk (below_step (by repeat (first | (with_reducible first | exact HB.out | apply below_alloc | apply pw_below_drewN | apply below_drew1 | refine below_set ?_ GE856.out) | exact HB.out)) hb); clear BK856; clear HB; have BK856 := n0_; have HB := n1_; clear n0_ n1_; (try clear hb); (try clear hb2); (try clear hk); (try clear hi)))
    go_ret
    exact ⟨by first | rfl | (simp [errW_none, errW_some] <;> rfl) | (simp [*, errW_none, errW_some] <;> rfl), by repeat (first | (with_reducible first | exact HB.out | apply below_alloc | apply pw_below_drewN | apply below_drew1 | refine below_set ?_ GE856.out) | exact HB.out)⟩

/-- THE ONE PURE STATEMENT of trunnionlaw08_OrderChain. -/
def trunnionlaw08_OrderChain.Pure : Prop := ∀ (a0 : Int) (a1_0 : Int) (a1_1 : Int) (a1_2 : Int), (Lit.int .i64 a0).wf = true → (Lit.int .u64 a1_0).wf = true → (Lit.int .u64 a1_1).wf = true → (Lit.int .u64 a1_2).wf = true → ∃ k, trunnionlaw08_OrderChain.f k a0 a1_0 a1_1 a1_2 = some true
theorem trunnionlaw08_OrderChain.walk (P : trunnionlaw08_OrderChain.Pure) (a0 : Int) (a1_0 : Int) (a1_1 : Int) (a1_2 : Int) (w : World) (w0 : (Lit.int .i64 a0).wf = true) (w1_0 : (Lit.int .u64 a1_0).wf = true) (w1_1 : (Lit.int .u64 a1_1).wf = true) (w1_2 : (Lit.int .u64 a1_2).wf = true) :
    Calls Try.prog 21 #[.int .i64 a0, .agg #[.int .u64 a1_0, .int .u64 a1_1, .int .u64 a1_2]] w fun e w' => e = .returned (.bool true) ∧ Below w.heap.size w w' := by
  obtain ⟨k, h⟩ := P a0 a1_0 a1_1 a1_2 w0 w1_0 w1_1 w1_2
  refine (trunnionlaw08_OrderChain.calls k a0 a1_0 a1_1 a1_2 true w h).mono ?_
  rintro e w' ⟨rfl, hd⟩
  exact ⟨rfl, hd⟩

end Go.Proofs.Ytmjfenbbgfohlaa.PA

namespace Go.Proofs.Ytmjfenbbgfohlaa.PA
open Go.RowKit Go.Proofs.YtmjfenbbgfohlaaW.PrintWords Go.Proofs.YtmjfenbbgfohlaaW.PrintLast Go.Proofs.YtmjfenbbgfohlaaW.PrintMore
attribute [local go_sem] max2_int min2_int max_two min_two max_three min_three max_four min_four   -- for this text's walks alone
set_option linter.unusedVariables false
set_option linter.unusedSimpArgs false

/-! ### sign_bit: function 110 -/
def sign_bit.f (a0 : Int) : Option (Int) := if a0 = 32 then (some 2147483648) else (if a0 = 64 then (some 9223372036854775808) else (some 0))
set_option maxHeartbeats 8000000 in
set_option maxRecDepth 100000 in
theorem sign_bit.calls (a0 : Int) (r : Int) (w : World) (h : sign_bit.f a0 = some r) :
    Calls Try.prog 110 #[.int .i64 a0] w fun e w' => e = .returned (.int .u64 r) ∧ Below w.heap.size w w' := by
  have hu130 := Try.underlying130
  have HB := Aside0.mk (Below.refl w.heap.size w)
  have H : (if a0 = 32 then (some 2147483648) else (if a0 = 64 then (some 9223372036854775808) else (some 0))) = some r := h
  clear h
  by_cases c2 : a0 = 32
  · rw [if_pos c2] at H
    have c2b0 : (a0 == 32) = true := beq_iff_eq.mpr c2
    have c2b1 : (a0 != 32) = false := bne_eq_false_iff_eq.mpr c2
    clear c2
    obtain rfl := Option.some.inj H
    go_enter Try.func110, Try.ntmps110
    go_wp2_with (first | ((with_reducible refine gate_dst (N := 3) rfl ?_); refine box_event ?hg (N := 3) ?hd (cs := #[.int .u64 0, .int .u64 0]) (t := 130) ?hr ?_; (case hd => rfl); (case hg => rfl); (case hr => first | (go_simp; done) | (go_simp; rfl)); intro gb101 hg w3 hbox hb; have n0_ := Aside0.mk (below_step (by repeat (first | (with_reducible first | exact HB.out | apply below_alloc | apply pw_below_drewN | apply below_drew1) | exact HB.out)) hb); have n1_ := Aside0.mk (hbox); have n2_ := Aside0.mk ((by rw [hg]; exact (below_size (by repeat (first | (with_reducible first | exact HB.out | apply below_alloc | apply pw_below_drewN | apply below_drew1) | exact HB.out))) : w.heap.size ≤ gb101)); have n3_ := Aside0.mk ((by rw [hg]; exact (below_size (by repeat (first | (with_reducible first | exact HB.out | apply below_alloc | apply pw_below_drewN | apply below_drew1) | exact HB.out))) : w.heap.size ≤ gb101)); clear HB; have HB := n0_; have BK101 := n1_; have GW101 := n2_; have GE101 := n3_; clear n0_ n1_ n2_ n3_; clear hb hbox hg; have hcz4_0 : w3.cell? ⟨gb101, 0, none⟩ = some (.int .u64 0) := (blk_cell BK101.out 0).trans rfl; have hcz4_1 : w3.cell? ⟨gb101, 1, none⟩ = some (.int .u64 0) := (blk_cell BK101.out 1).trans rfl; have hfz4_0 := blk_frozen BK101.out 0; have hfz4_1 := blk_frozen BK101.out 1))
    go_ret
    exact ⟨by first | rfl | (simp [errW_none, errW_some] <;> rfl) | (simp [*, errW_none, errW_some] <;> rfl), by repeat (first | (with_reducible first | exact HB.out | apply below_alloc | apply pw_below_drewN | apply below_drew1 | refine below_set ?_ GE101.out) | exact HB.out)⟩
  · rw [if_neg c2] at H
    have c2b0 : (a0 == 32) = false := beq_eq_false_iff_ne.mpr c2
    have c2b1 : (a0 != 32) = true := bne_iff_ne.mpr c2
    by_cases c5 : a0 = 64
    · rw [if_pos c5] at H
      have c5b0 : (a0 == 64) = true := beq_iff_eq.mpr c5
      have c5b1 : (a0 != 64) = false := bne_eq_false_iff_eq.mpr c5
      clear c5
      obtain rfl := Option.some.inj H
      go_enter Try.func110, Try.ntmps110
      go_wp2_with (first | ((with_reducible refine gate_dst (N := 3) rfl ?_); refine box_event ?hg (N := 3) ?hd (cs := #[.int .u64 0, .int .u64 0]) (t := 130) ?hr ?_; (case hd => rfl); (case hg => rfl); (case hr => first | (go_simp; done) | (go_simp; rfl)); intro gb101 hg w6 hbox hb; have n0_ := Aside0.mk (below_step (by repeat (first | (with_reducible first | exact HB.out | apply below_alloc | apply pw_below_drewN | apply below_drew1) | exact HB.out)) hb); have n1_ := Aside0.mk (hbox); have n2_ := Aside0.mk ((by rw [hg]; exact (below_size (by repeat (first | (with_reducible first | exact HB.out | apply below_alloc | apply pw_below_drewN | apply below_drew1) | exact HB.out))) : w.heap.size ≤ gb101)); have n3_ := Aside0.mk ((by rw [hg]; exact (below_size (by repeat (first | (with_reducible first | exact HB.out | apply below_alloc | apply pw_below_drewN | apply below_drew1) | exact HB.out))) : w.heap.size ≤ gb101)); clear HB; have HB := n0_; have BK101 := n1_; have GW101 := n2_; have GE101 := n3_; clear n0_ n1_ n2_ n3_; clear hb hbox hg; have hcz7_0 : w6.cell? ⟨gb101, 0, none⟩ = some (.int .u64 0) := (blk_cell BK101.out 0).trans rfl; have hcz7_1 : w6.cell? ⟨gb101, 1, none⟩ = some (.int .u64 0) := (blk_cell BK101.out 1).trans rfl; have hfz7_0 := blk_frozen BK101.out 0; have hfz7_1 := blk_frozen BK101.out 1))
      go_ret
      exact ⟨by first | rfl | (simp [errW_none, errW_some] <;> rfl) | (simp [*, errW_none, errW_some] <;> rfl), by repeat (first | (with_reducible first | exact HB.out | apply below_alloc | apply pw_below_drewN | apply below_drew1 | refine below_set ?_ GE101.out) | exact HB.out)⟩
    · rw [if_neg c5] at H
      have c5b0 : (a0 == 64) = false := beq_eq_false_iff_ne.mpr c5
      have c5b1 : (a0 != 64) = true := bne_iff_ne.mpr c5
      obtain rfl := Option.some.inj H
      go_enter Try.func110, Try.ntmps110
      go_wp2_with (first | ((with_reducible refine gate_dst (N := 3) rfl ?_); refine box_event ?hg (N := 3) ?hd (cs := #[.int .u64 0, .int .u64 0]) (t := 130) ?hr ?_; (case hd => rfl); (case hg => rfl); (case hr => first | (go_simp; done) | (go_simp; rfl)); intro gb101 hg w8 hbox hb; have n0_ := Aside0.mk (below_step (by repeat (first | (with_reducible first | exact HB.out | apply below_alloc | apply pw_below_drewN | apply below_drew1) | exact HB.out)) hb); have n1_ := Aside0.mk (hbox); have n2_ := Aside0.mk ((by rw [hg]; exact (below_size (by repeat (first | (with_reducible first | exact HB.out | apply below_alloc | apply pw_below_drewN | apply below_drew1) | exact HB.out))) : w.heap.size ≤ gb101)); have n3_ := Aside0.mk ((by rw [hg]; exact (below_size (by repeat (first | (with_reducible first | exact HB.out | apply below_alloc | apply pw_below_drewN | apply below_drew1) | exact HB.out))) : w.heap.size ≤ gb101)); clear HB; have HB := n0_; have BK101 := n1_; have GW101 := n2_; have GE101 := n3_; clear n0_ n1_ n2_ n3_; clear hb hbox hg; have hcz9_0 : w8.cell? ⟨gb101, 0, none⟩ = some (.int .u64 0) := (blk_cell BK101.out 0).trans rfl; have hcz9_1 : w8.cell? ⟨gb101, 1, none⟩ = some (.int .u64 0) := (blk_cell BK101.out 1).trans rfl; have hfz9_0 := blk_frozen BK101.out 0; have hfz9_1 := blk_frozen BK101.out 1))
      go_ret
      exact ⟨by first | rfl | (simp [errW_none, errW_some] <;> rfl) | (simp [*, errW_none, errW_some] <;> rfl), by repeat (first | (with_reducible first | exact HB.out | apply below_alloc | apply pw_below_drewN | apply below_drew1 | refine below_set ?_ GE101.out) | exact HB.out)⟩

end Go.Proofs.Ytmjfenbbgfohlaa.PA

namespace Go.Proofs.Ytmjfenbbgfohlaa.PA
open Go.RowKit Go.Proofs.YtmjfenbbgfohlaaW.PrintWords Go.Proofs.YtmjfenbbgfohlaaW.PrintLast Go.Proofs.YtmjfenbbgfohlaaW.PrintMore
attribute [local go_sem] max2_int min2_int max_two min_two max_three min_three max_four min_four   -- for this text's walks alone
set_option linter.unusedVariables false
set_option linter.unusedSimpArgs false

/-! ### sign_Abs: function 27 -/
def sign_Abs.f (a0 : Int) (a1 : Int) : Option (Int) := (shape_Cut.f a0 a1).bind fun t102 => ((sign_bit.f a0).bind fun t103 => (some (Go.bits .andNot .u64 t102 t103)))
set_option maxHeartbeats 8000000 in
set_option maxRecDepth 100000 in
theorem sign_Abs.calls (a0 : Int) (a1 : Int) (r : Int) (w : World) (h : sign_Abs.f a0 a1 = some r) :
    Calls Try.prog 27 #[.int .i64 a0, .int .u64 a1] w fun e w' => e = .returned (.int .u64 r) ∧ Below w.heap.size w w' := by
  have HB := Aside0.mk (Below.refl w.heap.size w)
  have H : ((shape_Cut.f a0 a1).bind fun t102 => ((sign_bit.f a0).bind fun t103 => (some (Go.bits .andNot .u64 t102 t103)))) = some r := h
  clear h
  replace H := Option.bind_eq_some_iff.mp H
  obtain ⟨t102, A30, H⟩ := H
  replace H : ((sign_bit.f a0).bind fun t103 => (some (Go.bits .andNot .u64 t102 t103))) = some r := H
  have A3 := Aside0.mk A30
  clear A30
  replace H := Option.bind_eq_some_iff.mp H
  obtain ⟨t103, A40, H⟩ := H
  replace H : (some (Go.bits .andNot .u64 t102 t103)) = some r := H
  have A4 := Aside0.mk A40
  clear A40
  obtain rfl := Option.some.inj H
  go_enter Try.func27, Try.ntmps27
  go_wp2_with (first | ((with_reducible refine gate_callee (f := 42) rfl ?_); refine goesL_ (some 7) rfl rfl Try.func42 (by kernel_rfl) rfl #[.int .i64 a0, .int .u64 a1] rfl (by (try simp only [List.map_toArray, List.map_cons, List.map_nil]); first | done | rfl | (simp only [List.length_drop, List.length_take]; rfl)) ?_; (with_reducible refine (shape_Cut.calls a0 a1 t102 _ A3.out).mono ?_); rintro e w' ⟨rfl, ⟨nd, rfl⟩⟩; refine ⟨_, rfl, ?_⟩) | ((with_reducible refine gate_callee (f := 110) rfl ?_); refine goesL_ (some 9) rfl rfl Try.func110 (by kernel_rfl) rfl #[.int .i64 a0] rfl (by (try simp only [List.map_toArray, List.map_cons, List.map_nil]); first | done | rfl | (simp only [List.length_drop, List.length_take]; rfl)) ?_; (with_reducible refine (sign_bit.calls a0 t103 _ A4.out).mono ?_); rintro e w5 ⟨rfl, hb⟩; refine ⟨_, rfl, ?_⟩; have n0_ := Aside0.mk (below_step (by repeat (first | (with_reducible first | exact HB.out | apply below_alloc | apply pw_below_drewN | apply below_drew1) | exact HB.out)) hb); clear HB; have HB := n0_; clear n0_; (try clear hb); (try clear hb2); (try clear hk); (try clear hi)))
  go_ret
  exact ⟨by first | rfl | (simp [errW_none, errW_some] <;> rfl) | (simp [*, errW_none, errW_some] <;> rfl), by repeat (first | (with_reducible first | exact HB.out | apply below_alloc | apply pw_below_drewN | apply below_drew1) | exact HB.out)⟩

end Go.Proofs.Ytmjfenbbgfohlaa.PA

namespace Go.Proofs.Ytmjfenbbgfohlaa.PA
open Go.RowKit Go.Proofs.YtmjfenbbgfohlaaW.PrintWords Go.Proofs.YtmjfenbbgfohlaaW.PrintLast Go.Proofs.YtmjfenbbgfohlaaW.PrintMore
attribute [local go_sem] max2_int min2_int max_two min_two max_three min_three max_four min_four   -- for this text's walks alone
set_option linter.unusedVariables false
set_option linter.unusedSimpArgs false

/-! ### trunnionref02_Cut: function 45 -/
def trunnionref02_Cut.f (a0 : Int) (a1 : Int) : Option (Int) := if a0 = 32 then (some (Int.tmod a1 4294967296)) else (some a1)
set_option maxHeartbeats 8000000 in
set_option maxRecDepth 100000 in
theorem trunnionref02_Cut.calls (a0 : Int) (a1 : Int) (r : Int) (w : World) (h : trunnionref02_Cut.f a0 a1 = some r) :
    Calls Try.prog 45 #[.int .i64 a0, .int .u64 a1] w fun e w' => e = .returned (.int .u64 r) ∧ Drawn0 w w' := by
  have H : (if a0 = 32 then (some (Int.tmod a1 4294967296)) else (some a1)) = some r := h
  clear h
  by_cases c3 : a0 = 32
  · rw [if_pos c3] at H
    have c3b0 : (a0 == 32) = true := beq_iff_eq.mpr c3
    have c3b1 : (a0 != 32) = false := bne_eq_false_iff_eq.mpr c3
    clear c3
    obtain rfl := Option.some.inj H
    go_enter Try.func45, Try.ntmps45
    go_wp2
    go_ret
    exact ⟨by first | rfl | (simp; done) | (simp [*]; done), by repeat (first | exact Drawn0.refl _ | apply Drawn0.step)⟩
  · rw [if_neg c3] at H
    have c3b0 : (a0 == 32) = false := beq_eq_false_iff_ne.mpr c3
    have c3b1 : (a0 != 32) = true := bne_iff_ne.mpr c3
    obtain rfl := Option.some.inj H
    go_enter Try.func45, Try.ntmps45
    go_wp2
    go_ret
    exact ⟨by first | rfl | (simp; done) | (simp [*]; done), by repeat (first | exact Drawn0.refl _ | apply Drawn0.step)⟩

end Go.Proofs.Ytmjfenbbgfohlaa.PA

namespace Go.Proofs.Ytmjfenbbgfohlaa.PA
open Go.RowKit Go.Proofs.YtmjfenbbgfohlaaW.PrintWords Go.Proofs.YtmjfenbbgfohlaaW.PrintLast Go.Proofs.YtmjfenbbgfohlaaW.PrintMore
attribute [local go_sem] max2_int min2_int max_two min_two max_three min_three max_four min_four   -- for this text's walks alone
set_option linter.unusedVariables false
set_option linter.unusedSimpArgs false

/-! ### trunnionref02_Two: function 70 -/
def trunnionref02_Two.l0 : Nat → Int → Int → Int → Option (Int)
  | 0, _, _, _ => none
  | k + 1, x0, x3, x4 => if x4 < x0 then (trunnionref02_Two.l0 k x0 (IntKind.u64.wrap (2 * x3)) (wrap64 (x4 + 1))) else (some x3)
def trunnionref02_Two.f (k : Nat) (a0 : Int) : Option (Int) := trunnionref02_Two.l0 k a0 1 0
theorem trunnionref02_Two.mono_l : ∀ k, (∀ y0 y1 y2, LeO (trunnionref02_Two.l0 k y0 y1 y2) (trunnionref02_Two.l0 (k + 1) y0 y1 y2))
  | 0 => fun _ _ _ r h => by simp [trunnionref02_Two.l0] at h
  | k + 1 => by
    have ih0 := trunnionref02_Two.mono_l k
    · intro y0 y1 y2
      unfold trunnionref02_Two.l0
      repeat' first
      | (with_reducible exact ih0 _ _ _)
      | (with_reducible exact LeO.refl _)
      | (with_reducible exact LeO.none _)
      | (with_reducible refine LeO.ite ?_ ?_)
      | (with_reducible refine LeO.bind ?_ (fun _ => ?_))
      | exact ih0 _ _ _
      | exact LeO.none _
      | refine LeO.ite ?_ ?_
      | refine LeO.bind ?_ (fun _ => ?_)
theorem trunnionref02_Two.mono : ∀ a0 k, LeO (trunnionref02_Two.f k a0) (trunnionref02_Two.f (k + 1) a0) := by
  intro a0 k
  have ih0 := trunnionref02_Two.mono_l k
  unfold trunnionref02_Two.f
  repeat' first
      | (with_reducible exact ih0 _ _ _)
      | (with_reducible exact LeO.refl _)
      | (with_reducible exact LeO.none _)
      | (with_reducible refine LeO.ite ?_ ?_)
      | (with_reducible refine LeO.bind ?_ (fun _ => ?_))
      | exact ih0 _ _ _
      | exact LeO.none _
      | refine LeO.ite ?_ ?_
      | refine LeO.bind ?_ (fun _ => ?_)
set_option maxHeartbeats 8000000 in
set_option maxRecDepth 100000 in
theorem trunnionref02_Two.calls (k : Nat) (a0 : Int) (r : Int) (w : World) (h : trunnionref02_Two.f k a0 = some r) :
    Calls Try.prog 70 #[.int .i64 a0] w fun e w' => e = .returned (.int .u64 r) ∧ Drawn0 w w' := by
  have H : (trunnionref02_Two.l0 k a0 1 0) = some r := h
  clear h
  have H' := Aside0.mk H
  clear H
  go_enter Try.func70, Try.ntmps70
  go_wp2
  go_loopg [3, 4] k (fun kq v3 v4 w' => ∃ (x3_1 : Int) (x4_1 : Int), v3 = .int .u64 x3_1 ∧ v4 = .int .i64 x4_1 ∧ Aside0 (trunnionref02_Two.l0 kq a0 x3_1 x4_1 = some r) ∧ Aside0 (kq ≤ k) ∧ Drawn0 w w')
  case atStart => exact ⟨(1), (0), (by first | rfl | (simp; done) | (simp [*]; done)), (by first | rfl | (simp; done) | (simp [*]; done)), H', ⟨Nat.le_refl _⟩, by repeat (first | exact Drawn0.refl _ | apply Drawn0.step)⟩
  case round =>
    clear H'
    obtain ⟨x3_1, x4_1, rfl, rfl, HA, HK1, ⟨m1, rfl⟩⟩ := hrel
    cases gk with
    | zero => exact absurd HA.out (by simp [trunnionref02_Two.l0])
    | succ k1 =>
      have H := HA.out
      clear HA
      simp only [trunnionref02_Two.l0] at H
      by_cases c2 : x4_1 < a0
      · rw [if_pos c2] at H
        have c2b0 : decide (x4_1 < a0) = true := decide_eq_true c2
        clear c2
        have H' := Aside0.mk H
        clear H
        go_wp2
        go_roundg k1
        case measure => have := HK1.out; omega
        case rel => exact ⟨(IntKind.u64.wrap (2 * x3_1)), (wrap64 (x4_1 + 1)), (by first | rfl | (simp; done) | (simp [*]; done)), (by first | rfl | (simp; done) | (simp [*]; done)), H', ⟨by have := HK1.out; omega⟩, by repeat (first | exact Drawn0.refl _ | apply Drawn0.step)⟩
      · rw [if_neg c2] at H
        have c2b0 : decide (x4_1 < a0) = false := decide_eq_false c2
        clear c2
        obtain rfl := Option.some.inj H
        go_wp2
        go_ret
        exact ⟨by first | rfl | (simp; done) | (simp [*]; done), by repeat (first | exact Drawn0.refl _ | apply Drawn0.step)⟩

end Go.Proofs.Ytmjfenbbgfohlaa.PA

namespace Go.Proofs.Ytmjfenbbgfohlaa.PA
open Go.RowKit Go.Proofs.YtmjfenbbgfohlaaW.PrintWords Go.Proofs.YtmjfenbbgfohlaaW.PrintLast Go.Proofs.YtmjfenbbgfohlaaW.PrintMore
attribute [local go_sem] max2_int min2_int max_two min_two max_three min_three max_four min_four   -- for this text's walks alone
set_option linter.unusedVariables false
set_option linter.unusedSimpArgs false

/-! ### trunnionref02_Neg: function 31 -/
def trunnionref02_Neg.f (k : Nat) (a0 : Int) (a1 : Int) : Option (Bool) := (trunnionref02_Cut.f a0 a1).bind fun t122 => ((trunnionref02_Two.f k (wrap64 (a0 - 1))).bind fun t123 => (if t123 = 0 then (none) else (some ((IntKind.u64.wrap (Int.tdiv t122 t123)) == 1))))
theorem trunnionref02_Neg.mono : ∀ a0 a1 k, LeO (trunnionref02_Neg.f k a0 a1) (trunnionref02_Neg.f (k + 1) a0 a1) := by
  intro a0 a1 k
  unfold trunnionref02_Neg.f
  repeat' first
      | (with_reducible exact trunnionref02_Two.mono _ _)
      | (with_reducible exact LeO.refl _)
      | (with_reducible exact LeO.none _)
      | (with_reducible refine LeO.ite ?_ ?_)
      | (with_reducible refine LeO.bind ?_ (fun _ => ?_))
      | exact trunnionref02_Two.mono _ _
      | exact LeO.none _
      | refine LeO.ite ?_ ?_
      | refine LeO.bind ?_ (fun _ => ?_)
set_option maxHeartbeats 8000000 in
set_option maxRecDepth 100000 in
theorem trunnionref02_Neg.calls (k : Nat) (a0 : Int) (a1 : Int) (r : Bool) (w : World) (h : trunnionref02_Neg.f k a0 a1 = some r) :
    Calls Try.prog 31 #[.int .i64 a0, .int .u64 a1] w fun e w' => e = .returned (.bool r) ∧ Drawn0 w w' := by
  have H : ((trunnionref02_Cut.f a0 a1).bind fun t122 => ((trunnionref02_Two.f k (wrap64 (a0 - 1))).bind fun t123 => (if t123 = 0 then (none) else (some ((IntKind.u64.wrap (Int.tdiv t122 t123)) == 1))))) = some r := h
  clear h
  replace H := Option.bind_eq_some_iff.mp H
  obtain ⟨t122, A30, H⟩ := H
  replace H : ((trunnionref02_Two.f k (wrap64 (a0 - 1))).bind fun t123 => (if t123 = 0 then (none) else (some ((IntKind.u64.wrap (Int.tdiv t122 t123)) == 1)))) = some r := H
  have A3 := Aside0.mk A30
  clear A30
  replace H := Option.bind_eq_some_iff.mp H
  obtain ⟨t123, A40, H⟩ := H
  replace H : (if t123 = 0 then (none) else (some ((IntKind.u64.wrap (Int.tdiv t122 t123)) == 1))) = some r := H
  have A4 := Aside0.mk A40
  clear A40
  by_cases c5 : t123 = 0
  · rw [if_pos c5] at H
    exact absurd H (by simp)
  · rw [if_neg c5] at H
    have c5b0 : (t123 == 0) = false := beq_eq_false_iff_ne.mpr c5
    have c5b1 : (t123 != 0) = true := bne_iff_ne.mpr c5
    obtain rfl := Option.some.inj H
    go_enter Try.func31, Try.ntmps31
    go_wp2_with (first | ((with_reducible refine gate_callee (f := 45) rfl ?_); refine goesL_ (some 7) rfl rfl Try.func45 (by kernel_rfl) rfl #[.int .i64 a0, .int .u64 a1] rfl (by (try simp only [List.map_toArray, List.map_cons, List.map_nil]); first | done | rfl | (simp only [List.length_drop, List.length_take]; rfl)) ?_; (with_reducible refine (trunnionref02_Cut.calls a0 a1 t122 _ A3.out).mono ?_); rintro e w' ⟨rfl, ⟨nd, rfl⟩⟩; refine ⟨_, rfl, ?_⟩) | ((with_reducible refine gate_callee (f := 70) rfl ?_); refine goesL_ (some 10) rfl rfl Try.func70 (by kernel_rfl) rfl #[.int .i64 (wrap64 (a0 - 1))] rfl (by (try simp only [List.map_toArray, List.map_cons, List.map_nil]); first | done | rfl | (simp only [List.length_drop, List.length_take]; rfl)) ?_; (with_reducible refine (trunnionref02_Two.calls k (wrap64 (a0 - 1)) t123 _ A4.out).mono ?_); rintro e w' ⟨rfl, ⟨nd, rfl⟩⟩; refine ⟨_, rfl, ?_⟩))
    go_ret
    exact ⟨by first | rfl | (simp; done) | (simp [*]; done), by repeat (first | exact Drawn0.refl _ | apply Drawn0.step)⟩

end Go.Proofs.Ytmjfenbbgfohlaa.PA

namespace Bit
theorem andnot_pow (a k : Nat) (hk : k < 64) (ha : a < 2 ^ (k + 1)) : a &&& (18446744073709551615 - 2 ^ k) = a % 2 ^ k := by
  have hp : 2 ^ k < 2 ^ 64 := Nat.pow_lt_pow_right (by decide) hk
  have e : 18446744073709551615 - 2 ^ k = 2 ^ 64 - (2 ^ k + 1) := by
    have : (2 : Nat) ^ 64 = 18446744073709551616 := by decide
    omega
  rw [e]
  apply Nat.eq_of_testBit_eq
  intro i
  rw [Nat.testBit_and, Nat.testBit_two_pow_sub_succ hp, Nat.testBit_mod_two_pow, Nat.testBit_two_pow]
  by_cases h : i < k
  · simp [h, show i < 64 by omega, show k ≠ i by omega]
  · by_cases h2 : i = k
    · subst h2; simp
    · have h3 : a.testBit i = false := Nat.testBit_lt_two_pow (Nat.lt_of_lt_of_le ha (Nat.pow_le_pow_right (by decide) (by omega)))
      simp [h, h3]
theorem or_pow (x c k : Nat) (hx : x < 2 ^ k) : x ||| c * 2 ^ k = x + c * 2 ^ k := by
  rw [Nat.mul_comm, Nat.or_comm, ← Nat.two_pow_add_eq_or_of_lt hx, Nat.add_comm]
theorem and_low (a k : Nat) : a &&& (2 ^ k - 1) = a % 2 ^ k := Nat.and_two_pow_sub_one_eq_mod a k
end Bit

set_option linter.unusedVariables false
set_option linter.unusedSimpArgs false
namespace Go.Proofs.Ytmjfenbbgfohlaa.Th
open Go.RowKit Go.Proofs.YtmjfenbbgfohlaaW.PrintWords Go.Proofs.YtmjfenbbgfohlaaW.PrintLast Go.Proofs.YtmjfenbbgfohlaaW.PrintMore Go.Proofs.Ytmjfenbbgfohlaa.PA Bit
theorem wf_u64 {a : Int} (h : (Lit.int .u64 a).wf = true) : 0 ≤ a ∧ a < 18446744073709551616 := by
  simp [Lit.wf, IntKind.min, IntKind.max, IntKind.signed, IntKind.bits] at h; omega
/-! ### shape.Cut, sign -/
/-- a width's greatest power -/
def cutN (w : Int) (a : Nat) : Nat := if w = 32 then a % 4294967296 else if w = 64 then a else 0
theorem shCut (w : Int) (a : Nat) (ha : a < 18446744073709551616) : shape_Cut.f w a = some ((cutN w a : Nat) : Int) := by
  unfold shape_Cut.f cutN
  by_cases h : w = 32
  · rw [if_pos h, if_pos h, show (4294967295 : Int) = ((4294967295 : Nat) : Int) from rfl, u64_and_nat a _ ha (by decide)]
    rw [show (4294967295 : Nat) = 2 ^ 32 - 1 by decide, and_low]
  · rw [if_neg h, if_neg h]
    by_cases h2 : w = 64
    · rw [if_pos h2, if_pos h2]
    · rw [if_neg h2, if_neg h2]; rfl
def sb (w : Int) : Nat := if w = 32 then 2147483648 else 9223372036854775808
theorem bitS (w : Int) (hw : w = 32 ∨ w = 64) : sign_bit.f w = some ((sb w : Nat) : Int) := by
  rcases hw with rfl | rfl <;> rfl
/-- has it a sign -/
def sgB (w : Int) (a : Nat) : Bool := decide (a / sb w % 2 = 1)
/-- without a sign -/
def magN (w : Int) (a : Nat) : Nat := a % sb w
theorem cutN_eq (w : Int) (hw : w = 32 ∨ w = 64) (a : Nat) (ha : a < 18446744073709551616) : cutN w a = magN w a + (if sgB w a then sb w else 0) := by
  unfold magN sgB
  rcases hw with rfl | rfl
  · simp only [cutN, sb, if_true, decide_eq_true_eq]; split <;> omega
  · simp only [cutN, sb, show ¬ ((64 : Int) = 32) by decide, if_false, if_true, decide_eq_true_eq]; split <;> omega
theorem magN_lt (w : Int) (hw : w = 32 ∨ w = 64) (a : Nat) : magN w a < sb w := by
  unfold magN sb; rcases hw with rfl | rfl <;> exact Nat.mod_lt _ (by decide)
theorem absS (w : Int) (hw : w = 32 ∨ w = 64) (a : Nat) (ha : a < 18446744073709551616) : sign_Abs.f w a = some ((magN w a : Nat) : Int) := by
  unfold sign_Abs.f
  rw [shCut w a ha, Option.bind_some, bitS w hw, Option.bind_some]
  congr 1
  rcases hw with rfl | rfl
  · simp only [cutN, sb, magN, if_true]
    rw [u64_andNot_nat _ _ (by omega) (by decide)]
    have h := andnot_pow (a % 4294967296) 31 (by decide) (by have : a % 4294967296 < 4294967296 := Nat.mod_lt _ (by decide); simpa using this)
    rw [show (2 : Nat) ^ 31 = 2147483648 by decide] at h
    rw [h]; congr 1; omega
  · simp only [cutN, sb, magN, show ¬ ((64 : Int) = 32) by decide, if_false, if_true]
    rw [u64_andNot_nat _ _ ha (by decide)]
    have h := andnot_pow a 63 (by decide) (by simpa using ha)
    rw [show (2 : Nat) ^ 63 = 9223372036854775808 by decide] at h
    rw [h]
/-- with a sign, or without -/
def mkN (w : Int) (m : Nat) (s : Bool) : Nat := m + if s then sb w else 0
theorem mkN_lt (w : Int) (hw : w = 32 ∨ w = 64) (m : Nat) (s : Bool) (h : m < sb w) : mkN w m s < 18446744073709551616 := by
  unfold mkN; revert h; unfold sb; rcases hw with rfl | rfl <;> cases s <;> simp <;> omega
theorem sg_mk (w : Int) (hw : w = 32 ∨ w = 64) (m : Nat) (s : Bool) (h : m < sb w) : sgB w (mkN w m s) = s := by
  unfold sgB mkN; revert h; unfold sb; rcases hw with rfl | rfl <;> cases s <;> simp <;> omega
theorem mag_mk (w : Int) (hw : w = 32 ∨ w = 64) (m : Nat) (s : Bool) (h : m < sb w) : magN w (mkN w m s) = m := by
  unfold magN mkN; revert h; unfold sb; rcases hw with rfl | rfl <;> cases s <;> simp <;> omega
/-! ### the document's -/
theorem known_f (w : Int) : trunnionref02_Known.f w = some (decide (w = 32 ∨ w = 64)) := by
  unfold trunnionref02_Known.f
  by_cases h : w = 32
  · rw [if_pos h]; simp [h]
  · rw [if_neg h]; congr 1; by_cases h2 : w = 64 <;> simp [h, h2]
theorem Ev.pos {α : Type} {c : Prop} [Decidable c] {f g : Nat → Option α} {r : α} (h : c) (k : Ev f r) : Ev (fun n => if c then f n else g n) r := Ev.congr (fun _ => if_pos h) k
theorem Ev.neg {α : Type} {c : Prop} [Decidable c] {f g : Nat → Option α} {r : α} (h : ¬ c) (k : Ev g r) : Ev (fun n => if c then f n else g n) r := Ev.congr (fun _ => if_neg h) k
theorem Ev.bs {α β : Type} {g : Option α} {a : α} {f : Nat → α → Option β} {r : β} (h : g = some a) (k : Ev (fun n => f n a) r) : Ev (fun n => g.bind (f n)) r := by subst h; exact k
theorem Ev.out {α : Type} {r s : α} (h : r = s) : Ev (fun _ => some r) s := by subst h; exact Ev.now _
theorem w64_id {n : Int} (h : -9223372036854775808 ≤ n) (h2 : n < 9223372036854775808) : wrap64 n = n := by unfold wrap64; omega
end Go.Proofs.Ytmjfenbbgfohlaa.Th
