/- What the Go functions that the statement OrderKeeps reaches compute, and the mathematics on it, in the order in which one leans on the other; for every input. -/
import Derived.Test.YtmjfenbbgfohlaaMOrderKeeps0
import Derived.Laws.BitsAllLaws
import Derived.Test.YtmjfenbbgfohlaaRows
import Derived.ProofKit
import Derived.JoinedOf
import Derived.KernelRfl
namespace Go.Proofs.Ytmjfenbbgfohlaa.PA
open Go.RowKit Go.Proofs.YtmjfenbbgfohlaaW.PrintWords Go.Proofs.YtmjfenbbgfohlaaW.PrintLast Go.Proofs.YtmjfenbbgfohlaaW.PrintMore
attribute [local go_sem] max2_int min2_int max_two min_two max_three min_three max_four min_four   -- for this text's walks alone
set_option linter.unusedVariables false
set_option linter.unusedSimpArgs false

/-! ### order_Ne: function 101 -/
def order_Ne.f (k : Nat) (a0 : Int) (a1 : Int) (a2 : Int) : Option (Bool) := (order_known.f a0).bind fun t730 => (if t730 = true then ((order_Eq.f k a0 a1 a2).bind fun t731 => (some (!t731))) else (some false))
theorem order_Ne.mono : ∀ a0 a1 a2 k, LeO (order_Ne.f k a0 a1 a2) (order_Ne.f (k + 1) a0 a1 a2) := by
 intro a0 a1 a2 k
 unfold order_Ne.f
 repeat' first
   | (with_reducible exact order_Eq.mono _ _ _ _)
   | (with_reducible exact LeO.refl _)
   | (with_reducible exact LeO.none _)
   | (with_reducible refine LeO.ite ?_ ?_)
   | (with_reducible refine LeO.bind ?_ (fun _ => ?_))
   | exact order_Eq.mono _ _ _ _
   | exact LeO.none _
   | refine LeO.ite ?_ ?_
   | refine LeO.bind ?_ (fun _ => ?_)
set_option maxHeartbeats 8000000 in
set_option maxRecDepth 100000 in
theorem order_Ne.calls (k : Nat) (a0 : Int) (a1 : Int) (a2 : Int) (r : Bool) (w : World) (h : order_Ne.f k a0 a1 a2 = some r) :
  Calls Try.prog 101 #[.int .i64 a0, .int .u64 a1, .int .u64 a2] w fun e w' => e = .returned (.bool r) ∧ Below w.heap.size w w' := by
 have HB := Aside0.mk (Below.refl w.heap.size w)
 have H : ((order_known.f a0).bind fun t730 => (if t730 = true then ((order_Eq.f k a0 a1 a2).bind fun t731 => (some (!t731))) else (some false))) = some r := h
 clear h
 replace H := Option.bind_eq_some_iff.mp H
 obtain ⟨t730, A40, H⟩ := H
 replace H : (if t730 = true then ((order_Eq.f k a0 a1 a2).bind fun t731 => (some (!t731))) else (some false)) = some r := H
 have A4 := Aside0.mk A40
 clear A40
 by_cases c5 : t730 = true
 ·subst c5
  have H1 : ((order_Eq.f k a0 a1 a2).bind fun t731 => (some (!t731))) = some r := by rw [if_pos rfl] at H; exact H
  clear H
  have H := H1
  clear H1
  replace H := Option.bind_eq_some_iff.mp H
  obtain ⟨t731, A60, H⟩ := H
  replace H : (some (!t731)) = some r := H
  have A6 := Aside0.mk A60
  clear A60
  obtain rfl := Option.some.inj H
  go_enter Try.func101, Try.ntmps101
  go_wp2_with (first | ((with_reducible refine gate_callee (f := 153) rfl ?_); refine goesL_ (some 8) rfl rfl Try.func153 (by kernel_rfl) rfl #[.int .i64 a0] rfl (by (try simp only [List.map_toArray, List.map_cons, List.map_nil]); first | done | rfl | (simp only [List.length_drop, List.length_take]; rfl)) ?_; (with_reducible refine (order_known.calls a0 true _ A4.out).mono ?_); rintro e w' ⟨rfl, ⟨nd, rfl⟩⟩; refine ⟨_, rfl, ?_⟩) | (go_at_call 100; (with_reducible refine (order_Eq.calls k a0 a1 a2 t731 _ A6.out).mono ?_); rintro e w7 ⟨rfl, hb⟩; have n0_ := Aside0.mk (below_step (by repeat (first | (with_reducible first | exact HB.out | apply below_alloc | apply pw_below_drewN | apply below_drew1) | exact HB.out)) hb); clear HB; have HB := n0_; clear n0_; (try clear hb); (try clear hb2); (try clear hk); (try clear hi)))
  go_ret
  exact ⟨by first | rfl | (simp [errW_none, errW_some] <;> rfl) | (simp [*, errW_none, errW_some] <;> rfl), by repeat (first | (with_reducible first | exact HB.out | apply below_alloc | apply pw_below_drewN | apply below_drew1) | exact HB.out)⟩
 ·replace c5 := Bool.eq_false_iff.mpr c5
  subst c5
  have H1 : (some false) = some r := by rw [if_neg (show ¬ (false = true) by decide)] at H; exact H
  clear H
  have H := H1
  clear H1
  obtain rfl := Option.some.inj H
  go_enter Try.func101, Try.ntmps101
  go_wp2_with (first | ((with_reducible refine gate_callee (f := 153) rfl ?_); refine goesL_ (some 8) rfl rfl Try.func153 (by kernel_rfl) rfl #[.int .i64 a0] rfl (by (try simp only [List.map_toArray, List.map_cons, List.map_nil]); first | done | rfl | (simp only [List.length_drop, List.length_take]; rfl)) ?_; (with_reducible refine (order_known.calls a0 false _ A4.out).mono ?_); rintro e w' ⟨rfl, ⟨nd, rfl⟩⟩; refine ⟨_, rfl, ?_⟩))
  go_ret
  exact ⟨by first | rfl | (simp [errW_none, errW_some] <;> rfl) | (simp [*, errW_none, errW_some] <;> rfl), by repeat (first | (with_reducible first | exact HB.out | apply below_alloc | apply pw_below_drewN | apply below_drew1) | exact HB.out)⟩

end Go.Proofs.Ytmjfenbbgfohlaa.PA

namespace Go.Proofs.Ytmjfenbbgfohlaa.PA
open Go.RowKit Go.Proofs.YtmjfenbbgfohlaaW.PrintWords Go.Proofs.YtmjfenbbgfohlaaW.PrintLast Go.Proofs.YtmjfenbbgfohlaaW.PrintMore
attribute [local go_sem] max2_int min2_int max_two min_two max_three min_three max_four min_four   -- for this text's walks alone
set_option linter.unusedVariables false
set_option linter.unusedSimpArgs false

/-! ### trunnionlaw08_awake: function 93 -/
def trunnionlaw08_awake.f (k : Nat)  : Option (Bool) := (shape_Nan.f 64).bind fun t733 => ((order_Min.f k 64 0 9223372036854775808).bind fun t734 => (if t734 = 9223372036854775808 then (if t733 = 0 then (some false) else ((order_Lt.f k 64 t733 4607182418800017408).bind fun t735 => (if t735 = true then (some false) else ((order_Ne.f k 64 t733 t733).bind fun t736 => (if t736 = true then ((order_Gt.f k 64 4607182418800017408 9223372036854775808).bind fun t737 => (some t737)) else (some false)))))) else (some false)))
theorem trunnionlaw08_awake.mono : ∀ k, LeO (trunnionlaw08_awake.f k ) (trunnionlaw08_awake.f (k + 1) ) := by
 intro  k
 unfold trunnionlaw08_awake.f
 repeat' first
   | (with_reducible exact order_Gt.mono _ _ _ _)
   | (with_reducible exact order_Lt.mono _ _ _ _)
   | (with_reducible exact order_Min.mono _ _ _ _)
   | (with_reducible exact order_Ne.mono _ _ _ _)
   | (with_reducible exact LeO.refl _)
   | (with_reducible exact LeO.none _)
   | (with_reducible refine LeO.ite ?_ ?_)
   | (with_reducible refine LeO.bind ?_ (fun _ => ?_))
   | exact order_Gt.mono _ _ _ _
   | exact order_Lt.mono _ _ _ _
   | exact order_Min.mono _ _ _ _
   | exact order_Ne.mono _ _ _ _
   | exact LeO.none _
   | refine LeO.ite ?_ ?_
   | refine LeO.bind ?_ (fun _ => ?_)
set_option maxHeartbeats 8000000 in
set_option maxRecDepth 100000 in
theorem trunnionlaw08_awake.calls (k : Nat)  (r : Bool) (w : World) (h : trunnionlaw08_awake.f k  = some r) :
  Calls Try.prog 93 #[] w fun e w' => e = .returned (.bool r) ∧ Below w.heap.size w w' := by
 have HB := Aside0.mk (Below.refl w.heap.size w)
 have H : ((shape_Nan.f 64).bind fun t733 => ((order_Min.f k 64 0 9223372036854775808).bind fun t734 => (if t734 = 9223372036854775808 then (if t733 = 0 then (some false) else ((order_Lt.f k 64 t733 4607182418800017408).bind fun t735 => (if t735 = true then (some false) else ((order_Ne.f k 64 t733 t733).bind fun t736 => (if t736 = true then ((order_Gt.f k 64 4607182418800017408 9223372036854775808).bind fun t737 => (some t737)) else (some false)))))) else (some false)))) = some r := h
 clear h
 replace H := Option.bind_eq_some_iff.mp H
 obtain ⟨t733, A10, H⟩ := H
 replace H : ((order_Min.f k 64 0 9223372036854775808).bind fun t734 => (if t734 = 9223372036854775808 then (if t733 = 0 then (some false) else ((order_Lt.f k 64 t733 4607182418800017408).bind fun t735 => (if t735 = true then (some false) else ((order_Ne.f k 64 t733 t733).bind fun t736 => (if t736 = true then ((order_Gt.f k 64 4607182418800017408 9223372036854775808).bind fun t737 => (some t737)) else (some false)))))) else (some false))) = some r := H
 have A1 := Aside0.mk A10
 clear A10
 replace H := Option.bind_eq_some_iff.mp H
 obtain ⟨t734, A20, H⟩ := H
 replace H : (if t734 = 9223372036854775808 then (if t733 = 0 then (some false) else ((order_Lt.f k 64 t733 4607182418800017408).bind fun t735 => (if t735 = true then (some false) else ((order_Ne.f k 64 t733 t733).bind fun t736 => (if t736 = true then ((order_Gt.f k 64 4607182418800017408 9223372036854775808).bind fun t737 => (some t737)) else (some false)))))) else (some false)) = some r := H
 have A2 := Aside0.mk A20
 clear A20
 by_cases c3 : t734 = 9223372036854775808
 ·rw [if_pos c3] at H
  have c3b0 : (t734 == 9223372036854775808) = true := beq_iff_eq.mpr c3
  have c3b1 : (t734 != 9223372036854775808) = false := bne_eq_false_iff_eq.mpr c3
  clear c3
  by_cases c4 : t733 = 0
  ·rw [if_pos c4] at H
   have c4b0 : (t733 == 0) = true := beq_iff_eq.mpr c4
   have c4b1 : (t733 != 0) = false := bne_eq_false_iff_eq.mpr c4
   clear c4
   obtain rfl := Option.some.inj H
   go_enter Try.func93, Try.ntmps93
   go_wp2_with (first | ((with_reducible refine gate_callee (f := 60) rfl ?_); refine goesL_ (some 4) rfl rfl Try.func60 (by kernel_rfl) rfl #[.int .i64 64] rfl (by (try simp only [List.map_toArray, List.map_cons, List.map_nil]); first | done | rfl | (simp only [List.length_drop, List.length_take]; rfl)) ?_; (with_reducible refine (shape_Nan.calls 64 t733 _ A1.out).mono ?_); rintro e w5 ⟨rfl, hb⟩; refine ⟨_, rfl, ?_⟩; have n0_ := Aside0.mk (below_step (by repeat (first | (with_reducible first | exact HB.out | apply below_alloc | apply pw_below_drewN | apply below_drew1) | exact HB.out)) hb); clear HB; have HB := n0_; clear n0_; (try clear hb); (try clear hb2); (try clear hk); (try clear hi)) | ((with_reducible refine gate_callee (f := 94) rfl ?_); refine goesL_ (some 6) rfl rfl Try.func94 (by kernel_rfl) rfl #[.int .i64 64, .int .u64 0, .int .u64 9223372036854775808] rfl (by (try simp only [List.map_toArray, List.map_cons, List.map_nil]); first | done | rfl | (simp only [List.length_drop, List.length_take]; rfl)) ?_; (with_reducible refine (order_Min.calls k 64 0 9223372036854775808 t734 _ A2.out).mono ?_); rintro e w6 ⟨rfl, hb⟩; refine ⟨_, rfl, ?_⟩; have n0_ := Aside0.mk (below_step (by repeat (first | (with_reducible first | exact HB.out | apply below_alloc | apply pw_below_drewN | apply below_drew1) | exact HB.out)) hb); clear HB; have HB := n0_; clear n0_; (try clear hb); (try clear hb2); (try clear hk); (try clear hi)))
   go_ret
   exact ⟨by first | rfl | (simp [errW_none, errW_some] <;> rfl) | (simp [*, errW_none, errW_some] <;> rfl), by repeat (first | (with_reducible first | exact HB.out | apply below_alloc | apply pw_below_drewN | apply below_drew1) | exact HB.out)⟩
  ·rw [if_neg c4] at H
   have c4b0 : (t733 == 0) = false := beq_eq_false_iff_ne.mpr c4
   have c4b1 : (t733 != 0) = true := bne_iff_ne.mpr c4
   replace H := Option.bind_eq_some_iff.mp H
   obtain ⟨t735, A70, H⟩ := H
   replace H : (if t735 = true then (some false) else ((order_Ne.f k 64 t733 t733).bind fun t736 => (if t736 = true then ((order_Gt.f k 64 4607182418800017408 9223372036854775808).bind fun t737 => (some t737)) else (some false)))) = some r := H
   have A7 := Aside0.mk A70
   clear A70
   by_cases c8 : t735 = true
   ·subst c8
    have H1 : (some false) = some r := by rw [if_pos rfl] at H; exact H
    clear H
    have H := H1
    clear H1
    obtain rfl := Option.some.inj H
    go_enter Try.func93, Try.ntmps93
    go_wp2_with (first | ((with_reducible refine gate_callee (f := 60) rfl ?_); refine goesL_ (some 4) rfl rfl Try.func60 (by kernel_rfl) rfl #[.int .i64 64] rfl (by (try simp only [List.map_toArray, List.map_cons, List.map_nil]); first | done | rfl | (simp only [List.length_drop, List.length_take]; rfl)) ?_; (with_reducible refine (shape_Nan.calls 64 t733 _ A1.out).mono ?_); rintro e w9 ⟨rfl, hb⟩; refine ⟨_, rfl, ?_⟩; have n0_ := Aside0.mk (below_step (by repeat (first | (with_reducible first | exact HB.out | apply below_alloc | apply pw_below_drewN | apply below_drew1) | exact HB.out)) hb); clear HB; have HB := n0_; clear n0_; (try clear hb); (try clear hb2); (try clear hk); (try clear hi)) | ((with_reducible refine gate_callee (f := 94) rfl ?_); refine goesL_ (some 6) rfl rfl Try.func94 (by kernel_rfl) rfl #[.int .i64 64, .int .u64 0, .int .u64 9223372036854775808] rfl (by (try simp only [List.map_toArray, List.map_cons, List.map_nil]); first | done | rfl | (simp only [List.length_drop, List.length_take]; rfl)) ?_; (with_reducible refine (order_Min.calls k 64 0 9223372036854775808 t734 _ A2.out).mono ?_); rintro e w10 ⟨rfl, hb⟩; refine ⟨_, rfl, ?_⟩; have n0_ := Aside0.mk (below_step (by repeat (first | (with_reducible first | exact HB.out | apply below_alloc | apply pw_below_drewN | apply below_drew1) | exact HB.out)) hb); clear HB; have HB := n0_; clear n0_; (try clear hb); (try clear hb2); (try clear hk); (try clear hi)) | (go_at_call 102; (with_reducible refine (order_Lt.calls k 64 t733 4607182418800017408 true _ A7.out).mono ?_); rintro e w11 ⟨rfl, hb⟩; have n0_ := Aside0.mk (below_step (by repeat (first | (with_reducible first | exact HB.out | apply below_alloc | apply pw_below_drewN | apply below_drew1) | exact HB.out)) hb); clear HB; have HB := n0_; clear n0_; (try clear hb); (try clear hb2); (try clear hk); (try clear hi)))
    go_ret
    exact ⟨by first | rfl | (simp [errW_none, errW_some] <;> rfl) | (simp [*, errW_none, errW_some] <;> rfl), by repeat (first | (with_reducible first | exact HB.out | apply below_alloc | apply pw_below_drewN | apply below_drew1) | exact HB.out)⟩
   ·replace c8 := Bool.eq_false_iff.mpr c8
    subst c8
    have H1 : ((order_Ne.f k 64 t733 t733).bind fun t736 => (if t736 = true then ((order_Gt.f k 64 4607182418800017408 9223372036854775808).bind fun t737 => (some t737)) else (some false))) = some r := by rw [if_neg (show ¬ (false = true) by decide)] at H; exact H
    clear H
    have H := H1
    clear H1
    replace H := Option.bind_eq_some_iff.mp H
    obtain ⟨t736, A120, H⟩ := H
    replace H : (if t736 = true then ((order_Gt.f k 64 4607182418800017408 9223372036854775808).bind fun t737 => (some t737)) else (some false)) = some r := H
    have A12 := Aside0.mk A120
    clear A120
    by_cases c13 : t736 = true
    ·subst c13
     have H1 : ((order_Gt.f k 64 4607182418800017408 9223372036854775808).bind fun t737 => (some t737)) = some r := by rw [if_pos rfl] at H; exact H
     clear H
     have H := H1
     clear H1
     replace H := Option.bind_eq_some_iff.mp H
     obtain ⟨t737, A140, H⟩ := H
     replace H : (some t737) = some r := H
     have A14 := Aside0.mk A140
     clear A140
     obtain rfl := Option.some.inj H
     go_enter Try.func93, Try.ntmps93
     go_wp2_with (first | ((with_reducible refine gate_callee (f := 60) rfl ?_); refine goesL_ (some 4) rfl rfl Try.func60 (by kernel_rfl) rfl #[.int .i64 64] rfl (by (try simp only [List.map_toArray, List.map_cons, List.map_nil]); first | done | rfl | (simp only [List.length_drop, List.length_take]; rfl)) ?_; (with_reducible refine (shape_Nan.calls 64 t733 _ A1.out).mono ?_); rintro e w15 ⟨rfl, hb⟩; refine ⟨_, rfl, ?_⟩; have n0_ := Aside0.mk (below_step (by repeat (first | (with_reducible first | exact HB.out | apply below_alloc | apply pw_below_drewN | apply below_drew1) | exact HB.out)) hb); clear HB; have HB := n0_; clear n0_; (try clear hb); (try clear hb2); (try clear hk); (try clear hi)) | ((with_reducible refine gate_callee (f := 94) rfl ?_); refine goesL_ (some 6) rfl rfl Try.func94 (by kernel_rfl) rfl #[.int .i64 64, .int .u64 0, .int .u64 9223372036854775808] rfl (by (try simp only [List.map_toArray, List.map_cons, List.map_nil]); first | done | rfl | (simp only [List.length_drop, List.length_take]; rfl)) ?_; (with_reducible refine (order_Min.calls k 64 0 9223372036854775808 t734 _ A2.out).mono ?_); rintro e w16 ⟨rfl, hb⟩; refine ⟨_, rfl, ?_⟩; have n0_ := Aside0.mk (below_step (by repeat (first | (with_reducible first | exact HB.out | apply below_alloc | apply pw_below_drewN | apply below_drew1) | exact HB.out)) hb); clear HB; have HB := n0_; clear n0_; (try clear hb); (try clear hb2); (try clear hk); (try clear hi)) | (go_at_call 102; (with_reducible refine (order_Lt.calls k 64 t733 4607182418800017408 false _ A7.out).mono ?_); rintro e w17 ⟨rfl, hb⟩; have n0_ := Aside0.mk (below_step (by repeat (first | (with_reducible first | exact HB.out | apply below_alloc | apply pw_below_drewN | apply below_drew1) | exact HB.out)) hb); clear HB; have HB := n0_; clear n0_; (try clear hb); (try clear hb2); (try clear hk); (try clear hi)) | (go_at_call 101; (with_reducible refine (order_Ne.calls k 64 t733 t733 true _ A12.out).mono ?_); rintro e w18 ⟨rfl, hb⟩; have n0_ := Aside0.mk (below_step (by repeat (first | (with_reducible first | exact HB.out | apply below_alloc | apply pw_below_drewN | apply below_drew1) | exact HB.out)) hb); clear HB; have HB := n0_; clear n0_; (try clear hb); (try clear hb2); (try clear hk); (try clear hi)) | (go_at_call 103; (with_reducible refine (order_Gt.calls k 64 4607182418800017408 9223372036854775808 t737 _ A14.out).mono ?_); rintro e w19 ⟨rfl, hb⟩; have n0_ := Aside0.mk (below_step (by repeat (first | (with_reducible first | exact HB.out | apply below_alloc | apply pw_below_drewN | apply below_drew1) | exact HB.out)) hb); clear HB; have HB := n0_; clear n0_; (try clear hb); (try clear hb2); (try clear hk); (try clear hi)))
     go_ret
     exact ⟨by first | rfl | (simp [errW_none, errW_some] <;> rfl) | (simp [*, errW_none, errW_some] <;> rfl), by repeat (first | (with_reducible first | exact HB.out | apply below_alloc | apply pw_below_drewN | apply below_drew1) | exact HB.out)⟩
    ·replace c13 := Bool.eq_false_iff.mpr c13
     subst c13
     have H1 : (some false) = some r := by rw [if_neg (show ¬ (false = true) by decide)] at H; exact H
     clear H
     have H := H1
     clear H1
     obtain rfl := Option.some.inj H
     go_enter Try.func93, Try.ntmps93
     go_wp2_with (first | ((with_reducible refine gate_callee (f := 60) rfl ?_); refine goesL_ (some 4) rfl rfl Try.func60 (by kernel_rfl) rfl #[.int .i64 64] rfl (by (try simp only [List.map_toArray, List.map_cons, List.map_nil]); first | done | rfl | (simp only [List.length_drop, List.length_take]; rfl)) ?_; (with_reducible refine (shape_Nan.calls 64 t733 _ A1.out).mono ?_); rintro e w20 ⟨rfl, hb⟩; refine ⟨_, rfl, ?_⟩; have n0_ := Aside0.mk (below_step (by repeat (first | (with_reducible first | exact HB.out | apply below_alloc | apply pw_below_drewN | apply below_drew1) | exact HB.out)) hb); clear HB; have HB := n0_; clear n0_; (try clear hb); (try clear hb2); (try clear hk); (try clear hi)) | ((with_reducible refine gate_callee (f := 94) rfl ?_); refine goesL_ (some 6) rfl rfl Try.func94 (by kernel_rfl) rfl #[.int .i64 64, .int .u64 0, .int .u64 9223372036854775808] rfl (by (try simp only [List.map_toArray, List.map_cons, List.map_nil]); first | done | rfl | (simp only [List.length_drop, List.length_take]; rfl)) ?_; (with_reducible refine (order_Min.calls k 64 0 9223372036854775808 t734 _ A2.out).mono ?_); rintro e w21 ⟨rfl, hb⟩; refine ⟨_, rfl, ?_⟩; have n0_ := Aside0.mk (below_step (by repeat (first | (with_reducible first | exact HB.out | apply below_alloc | apply pw_below_drewN | apply below_drew1) | exact HB.out)) hb); clear HB; have HB := n0_; clear n0_; (try clear hb); (try clear hb2); (try clear hk); (try clear hi)) | (go_at_call 102; (with_reducible refine (order_Lt.calls k 64 t733 4607182418800017408 false _ A7.out).mono ?_); rintro e w22 ⟨rfl, hb⟩; have n0_ := Aside0.mk (below_step (by repeat (first | (with_reducible first | exact HB.out | apply below_alloc | apply pw_below_drewN | apply below_drew1) | exact HB.out)) hb); clear HB; have HB := n0_; clear n0_; (try clear hb); (try clear hb2); (try clear hk); (try clear hi)) | (go_at_call 101; (with_reducible refine (order_Ne.calls k 64 t733 t733 false _ A12.out).mono ?_); rintro e w23 ⟨rfl, hb⟩; have n0_ := Aside0.mk (below_step (by repeat (first | (with_reducible first | exact HB.out | apply below_alloc | apply pw_below_drewN | apply below_drew1) | exact HB.out)) hb); clear HB; have HB := n0_; clear n0_; (try clear hb); (try clear hb2); (try clear hk); (try clear hi)))
     go_ret
     exact ⟨by first | rfl | (simp [errW_none, errW_some] <;> rfl) | (simp [*, errW_none, errW_some] <;> rfl), by repeat (first | (with_reducible first | exact HB.out | apply below_alloc | apply pw_below_drewN | apply below_drew1) | exact HB.out)⟩
 ·rw [if_neg c3] at H
  have c3b0 : (t734 == 9223372036854775808) = false := beq_eq_false_iff_ne.mpr c3
  have c3b1 : (t734 != 9223372036854775808) = true := bne_iff_ne.mpr c3
  obtain rfl := Option.some.inj H
  go_enter Try.func93, Try.ntmps93
  go_wp2_with (first | ((with_reducible refine gate_callee (f := 60) rfl ?_); refine goesL_ (some 4) rfl rfl Try.func60 (by kernel_rfl) rfl #[.int .i64 64] rfl (by (try simp only [List.map_toArray, List.map_cons, List.map_nil]); first | done | rfl | (simp only [List.length_drop, List.length_take]; rfl)) ?_; (with_reducible refine (shape_Nan.calls 64 t733 _ A1.out).mono ?_); rintro e w24 ⟨rfl, hb⟩; refine ⟨_, rfl, ?_⟩; have n0_ := Aside0.mk (below_step (by repeat (first | (with_reducible first | exact HB.out | apply below_alloc | apply pw_below_drewN | apply below_drew1) | exact HB.out)) hb); clear HB; have HB := n0_; clear n0_; (try clear hb); (try clear hb2); (try clear hk); (try clear hi)) | ((with_reducible refine gate_callee (f := 94) rfl ?_); refine goesL_ (some 6) rfl rfl Try.func94 (by kernel_rfl) rfl #[.int .i64 64, .int .u64 0, .int .u64 9223372036854775808] rfl (by (try simp only [List.map_toArray, List.map_cons, List.map_nil]); first | done | rfl | (simp only [List.length_drop, List.length_take]; rfl)) ?_; (with_reducible refine (order_Min.calls k 64 0 9223372036854775808 t734 _ A2.out).mono ?_); rintro e w25 ⟨rfl, hb⟩; refine ⟨_, rfl, ?_⟩; have n0_ := Aside0.mk (below_step (by repeat (first | (with_reducible first | exact HB.out | apply below_alloc | apply pw_below_drewN | apply below_drew1) | exact HB.out)) hb); clear HB; have HB := n0_; clear n0_; (try clear hb); (try clear hb2); (try clear hk); (try clear hi)))
  go_ret
  exact ⟨by first | rfl | (simp [errW_none, errW_some] <;> rfl) | (simp [*, errW_none, errW_some] <;> rfl), by repeat (first | (with_reducible first | exact HB.out | apply below_alloc | apply pw_below_drewN | apply below_drew1) | exact HB.out)⟩

end Go.Proofs.Ytmjfenbbgfohlaa.PA

namespace Go.Proofs.Ytmjfenbbgfohlaa.PA
open Go.RowKit Go.Proofs.YtmjfenbbgfohlaaW.PrintWords Go.Proofs.YtmjfenbbgfohlaaW.PrintLast Go.Proofs.YtmjfenbbgfohlaaW.PrintMore
attribute [local go_sem] max2_int min2_int max_two min_two max_three min_three max_four min_four   -- for this text's walks alone
set_option linter.unusedVariables false
set_option linter.unusedSimpArgs false

/-! ### trunnionlaw08_OrderKeeps: function 20 -/
mutual
def trunnionlaw08_OrderKeeps.j0 : Nat → Int → Int → Int → Bool → Option (Bool)
 | 0, _, _, _, _ => none
 | k + 1, x0, x1, x2, x21 => if x21 = true then (some true) else ((order_Min.f k x0 x1 x2).bind fun t837 => ((order_Max.f k x0 x1 x2).bind fun t838 => ((order_Min.f k x0 x2 x1).bind fun t839 => (if t837 = t839 then ((order_Max.f k x0 x2 x1).bind fun t840 => (trunnionlaw08_OrderKeeps.j1 k x0 x1 x2 t837 t838 (t838 != t840))) else (trunnionlaw08_OrderKeeps.j1 k x0 x1 x2 t837 t838 true)))))
def trunnionlaw08_OrderKeeps.j1 : Nat → Int → Int → Int → Int → Int → Bool → Option (Bool)
 | 0, _, _, _, _, _, _ => none
 | k + 1, x0, x1, x2, x7, x8, x43 => if x43 = true then (some false) else ((order_Lt.f k x0 x1 x2).bind fun t841 => ((order_Eq.f k x0 x1 x2).bind fun t842 => ((order_Gt.f k x0 x1 x2).bind fun t843 => ((some (([t841, t842, t843] : List Bool) : List Bool)).bind fun y844 => (trunnionlaw08_OrderKeeps.l0 k x0 x1 x2 x7 x8 0 y844 (y844.length : Int) 0)))))
def trunnionlaw08_OrderKeeps.l0 : Nat → Int → Int → Int → Int → Int → Int → List Bool → Int → Int → Option (Bool)
 | 0, _, _, _, _, _, _, _, _, _ => none
 | k + 1, x0, x1, x2, x7, x8, x9, x56, x57, x58 => if x58 < x57 then (if 0 ≤ x58 then (if x58 < (x56.length : Int) then (if rdOf false x56 x58 = true then (trunnionlaw08_OrderKeeps.l0 k x0 x1 x2 x7 x8 (wrap64 (x9 + 1)) x56 x57 (wrap64 (x58 + 1))) else (trunnionlaw08_OrderKeeps.l0 k x0 x1 x2 x7 x8 x9 x56 x57 (wrap64 (x58 + 1)))) else (none)) else (none)) else ((shape_IsNan.f k x0 x1).bind fun t848 => (if t848 = true then (trunnionlaw08_OrderKeeps.j3 k x0 x1 x2 x7 x8 x9 true) else ((shape_IsNan.f k x0 x2).bind fun t849 => (trunnionlaw08_OrderKeeps.j3 k x0 x1 x2 x7 x8 x9 t849))))
def trunnionlaw08_OrderKeeps.j3 : Nat → Int → Int → Int → Int → Int → Int → Bool → Option (Bool)
 | 0, _, _, _, _, _, _, _ => none
 | k + 1, x0, x1, x2, x7, x8, x9, x73 => if x73 = true then (if x9 = 0 then ((shape_Nan.f x0).bind fun t850 => (if x7 = t850 then (some (x8 == x7)) else (some false))) else (some false)) else ((shape_Cut.f x0 x1).bind fun t851 => ((shape_Cut.f x0 x2).bind fun t852 => (if x9 = 1 then (if x7 = t851 then (if x8 = t852 then ((order_Le.f k x0 x7 x8).bind fun t853 => (some t853)) else (if x7 = t852 then (if x8 = t851 then ((order_Le.f k x0 x7 x8).bind fun t854 => (some t854)) else (some false)) else (some false))) else (if x7 = t852 then (if x8 = t851 then ((order_Le.f k x0 x7 x8).bind fun t855 => (some t855)) else (some false)) else (some false))) else (some false))))
end
def trunnionlaw08_OrderKeeps.f (k : Nat) (a0 : Int) (a1 : Int) (a2 : Int) : Option (Bool) := (trunnionlaw08_awake.f k).bind fun t836 => (if t836 = true then (if a0 = 32 then (trunnionlaw08_OrderKeeps.j0 k a0 a1 a2 false) else (trunnionlaw08_OrderKeeps.j0 k a0 a1 a2 (a0 != 64))) else (some false))
theorem trunnionlaw08_OrderKeeps.mono_l : ∀ k, (∀ y0 y1 y2 y3, LeO (trunnionlaw08_OrderKeeps.j0 k y0 y1 y2 y3) (trunnionlaw08_OrderKeeps.j0 (k + 1) y0 y1 y2 y3)) ∧ (∀ y0 y1 y2 y3 y4 y5, LeO (trunnionlaw08_OrderKeeps.j1 k y0 y1 y2 y3 y4 y5) (trunnionlaw08_OrderKeeps.j1 (k + 1) y0 y1 y2 y3 y4 y5)) ∧ (∀ y0 y1 y2 y3 y4 y5 y6 y7 y8, LeO (trunnionlaw08_OrderKeeps.l0 k y0 y1 y2 y3 y4 y5 y6 y7 y8) (trunnionlaw08_OrderKeeps.l0 (k + 1) y0 y1 y2 y3 y4 y5 y6 y7 y8)) ∧ (∀ y0 y1 y2 y3 y4 y5 y6, LeO (trunnionlaw08_OrderKeeps.j3 k y0 y1 y2 y3 y4 y5 y6) (trunnionlaw08_OrderKeeps.j3 (k + 1) y0 y1 y2 y3 y4 y5 y6))
 | 0 => ⟨fun _ _ _ _ r h => by simp [trunnionlaw08_OrderKeeps.j0] at h, fun _ _ _ _ _ _ r h => by simp [trunnionlaw08_OrderKeeps.j1] at h, fun _ _ _ _ _ _ _ _ _ r h => by simp [trunnionlaw08_OrderKeeps.l0] at h, fun _ _ _ _ _ _ _ r h => by simp [trunnionlaw08_OrderKeeps.j3] at h⟩
 | k + 1 => by
  obtain ⟨ih0, ih1, ih2, ih3⟩ := trunnionlaw08_OrderKeeps.mono_l k
  refine ⟨?_, ?_, ?_, ?_⟩
  ·intro y0 y1 y2 y3
   unfold trunnionlaw08_OrderKeeps.j0
   repeat' first
   | (with_reducible exact ih0 _ _ _ _)
   | (with_reducible exact ih1 _ _ _ _ _ _)
   | (with_reducible exact ih2 _ _ _ _ _ _ _ _ _)
   | (with_reducible exact ih3 _ _ _ _ _ _ _)
   | (with_reducible exact order_Eq.mono _ _ _ _)
   | (with_reducible exact order_Gt.mono _ _ _ _)
   | (with_reducible exact order_Le.mono _ _ _ _)
   | (with_reducible exact order_Lt.mono _ _ _ _)
   | (with_reducible exact order_Max.mono _ _ _ _)
   | (with_reducible exact order_Min.mono _ _ _ _)
   | (with_reducible exact shape_IsNan.mono _ _ _)
   | (with_reducible exact trunnionlaw08_awake.mono _)
   | (with_reducible exact LeO.refl _)
   | (with_reducible exact LeO.none _)
   | (with_reducible refine LeO.ite ?_ ?_)
   | (with_reducible refine LeO.bind ?_ (fun _ => ?_))
   | exact ih0 _ _ _ _
   | exact ih1 _ _ _ _ _ _
   | exact ih2 _ _ _ _ _ _ _ _ _
   | exact ih3 _ _ _ _ _ _ _
   | exact order_Eq.mono _ _ _ _
   | exact order_Gt.mono _ _ _ _
   | exact order_Le.mono _ _ _ _
   | exact order_Lt.mono _ _ _ _
   | exact order_Max.mono _ _ _ _
   | exact order_Min.mono _ _ _ _
   | exact shape_IsNan.mono _ _ _
   | exact trunnionlaw08_awake.mono _
   | exact LeO.none _
   | refine LeO.ite ?_ ?_
   | refine LeO.bind ?_ (fun _ => ?_)
  ·intro y0 y1 y2 y3 y4 y5
   unfold trunnionlaw08_OrderKeeps.j1
   repeat' first
   | (with_reducible exact ih0 _ _ _ _)
   | (with_reducible exact ih1 _ _ _ _ _ _)
   | (with_reducible exact ih2 _ _ _ _ _ _ _ _ _)
   | (with_reducible exact ih3 _ _ _ _ _ _ _)
   | (with_reducible exact order_Eq.mono _ _ _ _)
   | (with_reducible exact order_Gt.mono _ _ _ _)
   | (with_reducible exact order_Le.mono _ _ _ _)
   | (with_reducible exact order_Lt.mono _ _ _ _)
   | (with_reducible exact order_Max.mono _ _ _ _)
   | (with_reducible exact order_Min.mono _ _ _ _)
   | (with_reducible exact shape_IsNan.mono _ _ _)
   | (with_reducible exact trunnionlaw08_awake.mono _)
   | (with_reducible exact LeO.refl _)
   | (with_reducible exact LeO.none _)
   | (with_reducible refine LeO.ite ?_ ?_)
   | (with_reducible refine LeO.bind ?_ (fun _ => ?_))
   | exact ih0 _ _ _ _
   | exact ih1 _ _ _ _ _ _
   | exact ih2 _ _ _ _ _ _ _ _ _
   | exact ih3 _ _ _ _ _ _ _
   | exact order_Eq.mono _ _ _ _
   | exact order_Gt.mono _ _ _ _
   | exact order_Le.mono _ _ _ _
   | exact order_Lt.mono _ _ _ _
   | exact order_Max.mono _ _ _ _
   | exact order_Min.mono _ _ _ _
   | exact shape_IsNan.mono _ _ _
   | exact trunnionlaw08_awake.mono _
   | exact LeO.none _
   | refine LeO.ite ?_ ?_
   | refine LeO.bind ?_ (fun _ => ?_)
  ·intro y0 y1 y2 y3 y4 y5 y6 y7 y8
   unfold trunnionlaw08_OrderKeeps.l0
   repeat' first
   | (with_reducible exact ih0 _ _ _ _)
   | (with_reducible exact ih1 _ _ _ _ _ _)
   | (with_reducible exact ih2 _ _ _ _ _ _ _ _ _)
   | (with_reducible exact ih3 _ _ _ _ _ _ _)
   | (with_reducible exact order_Eq.mono _ _ _ _)
   | (with_reducible exact order_Gt.mono _ _ _ _)
   | (with_reducible exact order_Le.mono _ _ _ _)
   | (with_reducible exact order_Lt.mono _ _ _ _)
   | (with_reducible exact order_Max.mono _ _ _ _)
   | (with_reducible exact order_Min.mono _ _ _ _)
   | (with_reducible exact shape_IsNan.mono _ _ _)
   | (with_reducible exact trunnionlaw08_awake.mono _)
   | (with_reducible exact LeO.refl _)
   | (with_reducible exact LeO.none _)
   | (with_reducible refine LeO.ite ?_ ?_)
   | (with_reducible refine LeO.bind ?_ (fun _ => ?_))
   | exact ih0 _ _ _ _
   | exact ih1 _ _ _ _ _ _
   | exact ih2 _ _ _ _ _ _ _ _ _
   | exact ih3 _ _ _ _ _ _ _
   | exact order_Eq.mono _ _ _ _
   | exact order_Gt.mono _ _ _ _
   | exact order_Le.mono _ _ _ _
   | exact order_Lt.mono _ _ _ _
   | exact order_Max.mono _ _ _ _
   | exact order_Min.mono _ _ _ _
   | exact shape_IsNan.mono _ _ _
   | exact trunnionlaw08_awake.mono _
   | exact LeO.none _
   | refine LeO.ite ?_ ?_
   | refine LeO.bind ?_ (fun _ => ?_)
  ·intro y0 y1 y2 y3 y4 y5 y6
   unfold trunnionlaw08_OrderKeeps.j3
   repeat' first
   | (with_reducible exact ih0 _ _ _ _)
   | (with_reducible exact ih1 _ _ _ _ _ _)
   | (with_reducible exact ih2 _ _ _ _ _ _ _ _ _)
   | (with_reducible exact ih3 _ _ _ _ _ _ _)
   | (with_reducible exact order_Eq.mono _ _ _ _)
   | (with_reducible exact order_Gt.mono _ _ _ _)
   | (with_reducible exact order_Le.mono _ _ _ _)
   | (with_reducible exact order_Lt.mono _ _ _ _)
   | (with_reducible exact order_Max.mono _ _ _ _)
   | (with_reducible exact order_Min.mono _ _ _ _)
   | (with_reducible exact shape_IsNan.mono _ _ _)
   | (with_reducible exact trunnionlaw08_awake.mono _)
   | (with_reducible exact LeO.refl _)
   | (with_reducible exact LeO.none _)
   | (with_reducible refine LeO.ite ?_ ?_)
   | (with_reducible refine LeO.bind ?_ (fun _ => ?_))
   | exact ih0 _ _ _ _
   | exact ih1 _ _ _ _ _ _
   | exact ih2 _ _ _ _ _ _ _ _ _
   | exact ih3 _ _ _ _ _ _ _
   | exact order_Eq.mono _ _ _ _
   | exact order_Gt.mono _ _ _ _
   | exact order_Le.mono _ _ _ _
   | exact order_Lt.mono _ _ _ _
   | exact order_Max.mono _ _ _ _
   | exact order_Min.mono _ _ _ _
   | exact shape_IsNan.mono _ _ _
   | exact trunnionlaw08_awake.mono _
   | exact LeO.none _
   | refine LeO.ite ?_ ?_
   | refine LeO.bind ?_ (fun _ => ?_)
theorem trunnionlaw08_OrderKeeps.mono : ∀ a0 a1 a2 k, LeO (trunnionlaw08_OrderKeeps.f k a0 a1 a2) (trunnionlaw08_OrderKeeps.f (k + 1) a0 a1 a2) := by
 intro a0 a1 a2 k
 obtain ⟨ih0, ih1, ih2, ih3⟩ := trunnionlaw08_OrderKeeps.mono_l k
 unfold trunnionlaw08_OrderKeeps.f
 repeat' first
   | (with_reducible exact ih0 _ _ _ _)
   | (with_reducible exact ih1 _ _ _ _ _ _)
   | (with_reducible exact ih2 _ _ _ _ _ _ _ _ _)
   | (with_reducible exact ih3 _ _ _ _ _ _ _)
   | (with_reducible exact order_Eq.mono _ _ _ _)
   | (with_reducible exact order_Gt.mono _ _ _ _)
   | (with_reducible exact order_Le.mono _ _ _ _)
   | (with_reducible exact order_Lt.mono _ _ _ _)
   | (with_reducible exact order_Max.mono _ _ _ _)
   | (with_reducible exact order_Min.mono _ _ _ _)
   | (with_reducible exact shape_IsNan.mono _ _ _)
   | (with_reducible exact trunnionlaw08_awake.mono _)
   | (with_reducible exact LeO.refl _)
   | (with_reducible exact LeO.none _)
   | (with_reducible refine LeO.ite ?_ ?_)
   | (with_reducible refine LeO.bind ?_ (fun _ => ?_))
   | exact ih0 _ _ _ _
   | exact ih1 _ _ _ _ _ _
   | exact ih2 _ _ _ _ _ _ _ _ _
   | exact ih3 _ _ _ _ _ _ _
   | exact order_Eq.mono _ _ _ _
   | exact order_Gt.mono _ _ _ _
   | exact order_Le.mono _ _ _ _
   | exact order_Lt.mono _ _ _ _
   | exact order_Max.mono _ _ _ _
   | exact order_Min.mono _ _ _ _
   | exact shape_IsNan.mono _ _ _
   | exact trunnionlaw08_awake.mono _
   | exact LeO.none _
   | refine LeO.ite ?_ ?_
   | refine LeO.bind ?_ (fun _ => ?_)
set_option maxHeartbeats 8000000 in
set_option maxRecDepth 100000 in
theorem trunnionlaw08_OrderKeeps.calls (k : Nat) (a0 : Int) (a1 : Int) (a2 : Int) (r : Bool) (w : World) (h : trunnionlaw08_OrderKeeps.f k a0 a1 a2 = some r) (hr_ : Aside0 (r = true)) :
  Calls Try.prog 20 #[.int .i64 a0, .int .u64 a1, .int .u64 a2] w fun e w' => e = .returned (.bool r) ∧ Below w.heap.size w w' := by
 have HB := Aside0.mk (Below.refl w.heap.size w)
 have H : ((trunnionlaw08_awake.f k).bind fun t836 => (if t836 = true then (if a0 = 32 then (trunnionlaw08_OrderKeeps.j0 k a0 a1 a2 false) else (trunnionlaw08_OrderKeeps.j0 k a0 a1 a2 (a0 != 64))) else (some false))) = some r := h
 clear h
 replace H := Option.bind_eq_some_iff.mp H
 obtain ⟨t836, A40, H⟩ := H
 replace H : (if t836 = true then (if a0 = 32 then (trunnionlaw08_OrderKeeps.j0 k a0 a1 a2 false) else (trunnionlaw08_OrderKeeps.j0 k a0 a1 a2 (a0 != 64))) else (some false)) = some r := H
 have A4 := Aside0.mk A40
 clear A40
 by_cases c5 : t836 = true
 ·subst c5
  have H1 : (if a0 = 32 then (trunnionlaw08_OrderKeeps.j0 k a0 a1 a2 false) else (trunnionlaw08_OrderKeeps.j0 k a0 a1 a2 (a0 != 64))) = some r := by rw [if_pos rfl] at H; exact H
  clear H
  have H := H1
  clear H1
  have HC6 := Aside0.mk H
  clear H
  go_enter Try.func20, Try.ntmps20
  go_upto_region 3 with (first | ((with_reducible refine gate_callee (f := 93) rfl ?_); refine goesL_ (some 14) rfl rfl Try.func93 (by kernel_rfl) rfl #[] rfl (by (try simp only [List.map_toArray, List.map_cons, List.map_nil]); first | done | rfl | (simp only [List.length_drop, List.length_take]; rfl)) ?_; (with_reducible refine (trunnionlaw08_awake.calls k  true _ A4.out).mono ?_); rintro e w7 ⟨rfl, hb⟩; refine ⟨_, rfl, ?_⟩; have n0_ := Aside0.mk (below_step (by repeat (first | (with_reducible first | exact HB.out | apply below_alloc | apply pw_below_drewN | apply below_drew1) | exact HB.out)) hb); clear HB; have HB := n0_; clear n0_; (try clear hb); (try clear hb2); (try clear hk); (try clear hi)))
  (try simp only [Act.put, List.setIfInBounds_toArray, List.set_cons_zero, List.set_cons_succ])
  go_cut [21] (fun v21 wc => ∃ (kq : Nat) (x21_5 : Bool), v21 = .bool x21_5 ∧ Aside0 (trunnionlaw08_OrderKeeps.j0 kq a0 a1 a2 x21_5 = some r) ∧ Aside0 (kq ≤ k) ∧ Aside0 (Below w.heap.size w wc))
  case first =>
   have H := HC6.out
   clear HC6
   by_cases c8 : a0 = 32
   ·rw [if_pos c8] at H
    have c8b0 : (a0 == 32) = true := beq_iff_eq.mpr c8
    have c8b1 : (a0 != 32) = false := bne_eq_false_iff_eq.mpr c8
    clear c8
    (first | rw [c8b0] | (simp only [i64_w, i32_w]; rw [c8b0]) | skip)
    have H' := Aside0.mk H
    clear H
    go_wp2
    go_meet
    case rel => exact ⟨_, (false), (by first | rfl | (simp; done) | (simp [*]; done)), H', ⟨by first | omega | exact Nat.le_refl _⟩, ⟨by repeat (first | (with_reducible first | exact HB.out | apply below_alloc | apply pw_below_drewN | apply below_drew1) | exact HB.out)⟩⟩
   ·rw [if_neg c8] at H
    have c8b0 : (a0 == 32) = false := beq_eq_false_iff_ne.mpr c8
    have c8b1 : (a0 != 32) = true := bne_iff_ne.mpr c8
    (first | rw [c8b0] | (simp only [i64_w, i32_w]; rw [c8b0]) | skip)
    have H' := Aside0.mk H
    clear H
    go_wp2
    go_meet
    case rel => exact ⟨_, ((a0 != 64)), (by first | rfl | (simp; done) | (simp [*]; done)), H', ⟨by first | omega | exact Nat.le_refl _⟩, ⟨by repeat (first | (with_reducible first | exact HB.out | apply below_alloc | apply pw_below_drewN | apply below_drew1) | exact HB.out)⟩⟩
  case rest =>
   clear HC6
   try clear c2
   try clear p2
   try clear c5
   try clear c8
   try clear c8b0
   try clear c8b1
   obtain ⟨kq, x21_5, rfl, HA, HJ5, HB⟩ := hcut
   cases kq with
   | zero => exact absurd HA.out (by simp [trunnionlaw08_OrderKeeps.j0])
   | succ kj5 =>
    have H := HA.out
    clear HA
    simp only [trunnionlaw08_OrderKeeps.j0] at H
    by_cases c9 : x21_5 = true
    ·subst c9
     have H1 : (some true) = some r := by rw [if_pos rfl] at H; exact H
     clear H
     have H := H1
     clear H1
     obtain rfl := Option.some.inj H
     go_wp2
     go_ret
     exact ⟨by first | rfl | (simp [errW_none, errW_some] <;> rfl) | (simp [*, errW_none, errW_some] <;> rfl), by repeat (first | (with_reducible first | exact HB.out | apply below_alloc | apply pw_below_drewN | apply below_drew1) | exact HB.out)⟩
    ·replace c9 := Bool.eq_false_iff.mpr c9
     subst c9
     have H1 : ((order_Min.f kj5 a0 a1 a2).bind fun t837 => ((order_Max.f kj5 a0 a1 a2).bind fun t838 => ((order_Min.f kj5 a0 a2 a1).bind fun t839 => (if t837 = t839 then ((order_Max.f kj5 a0 a2 a1).bind fun t840 => (trunnionlaw08_OrderKeeps.j1 kj5 a0 a1 a2 t837 t838 (t838 != t840))) else (trunnionlaw08_OrderKeeps.j1 kj5 a0 a1 a2 t837 t838 true))))) = some r := by rw [if_neg (show ¬ (false = true) by decide)] at H; exact H
     clear H
     have H := H1
     clear H1
     replace H := Option.bind_eq_some_iff.mp H
     obtain ⟨t837, A100, H⟩ := H
     replace H : ((order_Max.f kj5 a0 a1 a2).bind fun t838 => ((order_Min.f kj5 a0 a2 a1).bind fun t839 => (if t837 = t839 then ((order_Max.f kj5 a0 a2 a1).bind fun t840 => (trunnionlaw08_OrderKeeps.j1 kj5 a0 a1 a2 t837 t838 (t838 != t840))) else (trunnionlaw08_OrderKeeps.j1 kj5 a0 a1 a2 t837 t838 true)))) = some r := H
     have A10 := Aside0.mk A100
     clear A100
     replace H := Option.bind_eq_some_iff.mp H
     obtain ⟨t838, A110, H⟩ := H
     replace H : ((order_Min.f kj5 a0 a2 a1).bind fun t839 => (if t837 = t839 then ((order_Max.f kj5 a0 a2 a1).bind fun t840 => (trunnionlaw08_OrderKeeps.j1 kj5 a0 a1 a2 t837 t838 (t838 != t840))) else (trunnionlaw08_OrderKeeps.j1 kj5 a0 a1 a2 t837 t838 true))) = some r := H
     have A11 := Aside0.mk A110
     clear A110
     have HC12 := Aside0.mk H
     clear H
     go_upto_region 6 with (first | ((with_reducible refine gate_callee (f := 94) rfl ?_); refine goesL_ (some 25) rfl rfl Try.func94 (by kernel_rfl) rfl #[.int .i64 a0, .int .u64 a1, .int .u64 a2] rfl (by (try simp only [List.map_toArray, List.map_cons, List.map_nil]); first | done | rfl | (simp only [List.length_drop, List.length_take]; rfl)) ?_; (with_reducible refine (order_Min.calls kj5 a0 a1 a2 t837 _ A10.out).mono ?_); rintro e w13 ⟨rfl, hb⟩; refine ⟨_, rfl, ?_⟩; have n0_ := Aside0.mk (below_step (by repeat (first | (with_reducible first | exact HB.out | apply below_alloc | apply pw_below_drewN | apply below_drew1) | exact HB.out)) hb); clear HB; have HB := n0_; clear n0_; (try clear hb); (try clear hb2); (try clear hk); (try clear hi)) | ((with_reducible refine gate_callee (f := 95) rfl ?_); refine goesL_ (some 29) rfl rfl Try.func95 (by kernel_rfl) rfl #[.int .i64 a0, .int .u64 a1, .int .u64 a2] rfl (by (try simp only [List.map_toArray, List.map_cons, List.map_nil]); first | done | rfl | (simp only [List.length_drop, List.length_take]; rfl)) ?_; (with_reducible refine (order_Max.calls kj5 a0 a1 a2 t838 _ A11.out).mono ?_); rintro e w14 ⟨rfl, hb⟩; refine ⟨_, rfl, ?_⟩; have n0_ := Aside0.mk (below_step (by repeat (first | (with_reducible first | exact HB.out | apply below_alloc | apply pw_below_drewN | apply below_drew1) | exact HB.out)) hb); clear HB; have HB := n0_; clear n0_; (try clear hb); (try clear hb2); (try clear hk); (try clear hi)))
     (try simp only [Act.put, List.setIfInBounds_toArray, List.set_cons_zero, List.set_cons_succ])
     go_cut [43] (fun v43 wc => ∃ (kq : Nat) (x43_11 : Bool), v43 = .bool x43_11 ∧ Aside0 (trunnionlaw08_OrderKeeps.j1 kq a0 a1 a2 t837 t838 x43_11 = some r) ∧ Aside0 (kq ≤ kj5) ∧ Aside0 (Below w.heap.size w wc))
     case first =>
      have H := HC12.out
      clear HC12
      replace H := Option.bind_eq_some_iff.mp H
      obtain ⟨t839, A150, H⟩ := H
      replace H : (if t837 = t839 then ((order_Max.f kj5 a0 a2 a1).bind fun t840 => (trunnionlaw08_OrderKeeps.j1 kj5 a0 a1 a2 t837 t838 (t838 != t840))) else (trunnionlaw08_OrderKeeps.j1 kj5 a0 a1 a2 t837 t838 true)) = some r := H
      have A15 := Aside0.mk A150
      clear A150
      by_cases c16 : t837 = t839
      ·rw [if_pos c16] at H
       have c16b0 : (t837 == t839) = true := beq_iff_eq.mpr c16
       have c16b1 : (t837 != t839) = false := bne_eq_false_iff_eq.mpr c16
       clear c16
       (first | rw [c16b0] | (simp only [i64_w, i32_w]; rw [c16b0]) | skip)
       replace H := Option.bind_eq_some_iff.mp H
       obtain ⟨t840, A170, H⟩ := H
       replace H : (trunnionlaw08_OrderKeeps.j1 kj5 a0 a1 a2 t837 t838 (t838 != t840)) = some r := H
       have A17 := Aside0.mk A170
       clear A170
       have H' := Aside0.mk H
       clear H
       go_wp2_with (first | ((with_reducible refine gate_callee (f := 94) rfl ?_); refine goesL_ (some 34) rfl rfl Try.func94 (by kernel_rfl) rfl #[.int .i64 a0, .int .u64 a2, .int .u64 a1] rfl (by (try simp only [List.map_toArray, List.map_cons, List.map_nil]); first | done | rfl | (simp only [List.length_drop, List.length_take]; rfl)) ?_; (with_reducible refine (order_Min.calls kj5 a0 a2 a1 t839 _ A15.out).mono ?_); rintro e w18 ⟨rfl, hb⟩; refine ⟨_, rfl, ?_⟩; have n0_ := Aside0.mk (below_step (by repeat (first | (with_reducible first | exact HB.out | apply below_alloc | apply pw_below_drewN | apply below_drew1) | exact HB.out)) hb); clear HB; have HB := n0_; clear n0_; (try clear hb); (try clear hb2); (try clear hk); (try clear hi)) | (go_at_call 95; (with_reducible refine (order_Max.calls kj5 a0 a2 a1 t840 _ A17.out).mono ?_); rintro e w19 ⟨rfl, hb⟩; have n0_ := Aside0.mk (below_step (by repeat (first | (with_reducible first | exact HB.out | apply below_alloc | apply pw_below_drewN | apply below_drew1) | exact HB.out)) hb); clear HB; have HB := n0_; clear n0_; (try clear hb); (try clear hb2); (try clear hk); (try clear hi)))
       go_meet
       case rel => exact ⟨_, ((t838 != t840)), (by first | rfl | (simp; done) | (simp [*]; done)), H', ⟨by have := HJ5.out; first | omega | exact Nat.le_refl _⟩, ⟨by repeat (first | (with_reducible first | exact HB.out | apply below_alloc | apply pw_below_drewN | apply below_drew1) | exact HB.out)⟩⟩
      ·rw [if_neg c16] at H
       have c16b0 : (t837 == t839) = false := beq_eq_false_iff_ne.mpr c16
       have c16b1 : (t837 != t839) = true := bne_iff_ne.mpr c16
       (first | rw [c16b0] | (simp only [i64_w, i32_w]; rw [c16b0]) | skip)
       have H' := Aside0.mk H
       clear H
       go_wp2_with (first | ((with_reducible refine gate_callee (f := 94) rfl ?_); refine goesL_ (some 34) rfl rfl Try.func94 (by kernel_rfl) rfl #[.int .i64 a0, .int .u64 a2, .int .u64 a1] rfl (by (try simp only [List.map_toArray, List.map_cons, List.map_nil]); first | done | rfl | (simp only [List.length_drop, List.length_take]; rfl)) ?_; (with_reducible refine (order_Min.calls kj5 a0 a2 a1 t839 _ A15.out).mono ?_); rintro e w20 ⟨rfl, hb⟩; refine ⟨_, rfl, ?_⟩; have n0_ := Aside0.mk (below_step (by repeat (first | (with_reducible first | exact HB.out | apply below_alloc | apply pw_below_drewN | apply below_drew1) | exact HB.out)) hb); clear HB; have HB := n0_; clear n0_; (try clear hb); (try clear hb2); (try clear hk); (try clear hi)))
       go_meet
       case rel => exact ⟨_, (true), (by first | rfl | (simp; done) | (simp [*]; done)), H', ⟨by have := HJ5.out; first | omega | exact Nat.le_refl _⟩, ⟨by repeat (first | (with_reducible first | exact HB.out | apply below_alloc | apply pw_below_drewN | apply below_drew1) | exact HB.out)⟩⟩
     case rest =>
      clear HC12
      try clear c1
      try clear c2
      try clear p2
      try clear c5
      try clear c8
      try clear c8b0
      try clear c8b1
      try clear c9
      try clear c16
      try clear c16b0
      try clear c16b1
      try clear c20
      try clear p2
      obtain ⟨kq, x43_11, rfl, HA, HJ11, HB⟩ := hcut
      cases kq with
      | zero => exact absurd HA.out (by simp [trunnionlaw08_OrderKeeps.j1])
      | succ kj11 =>
       have H := HA.out
       clear HA
       simp only [trunnionlaw08_OrderKeeps.j1] at H
       by_cases c21 : x43_11 = true
       ·subst c21
        have H1 : (some false) = some r := by rw [if_pos rfl] at H; exact H
        clear H
        have H := H1
        clear H1
        exact absurd ((Option.some.inj H).trans hr_.out) (by decide)
       ·replace c21 := Bool.eq_false_iff.mpr c21
        subst c21
        have H1 : ((order_Lt.f kj11 a0 a1 a2).bind fun t841 => ((order_Eq.f kj11 a0 a1 a2).bind fun t842 => ((order_Gt.f kj11 a0 a1 a2).bind fun t843 => ((some (([t841, t842, t843] : List Bool) : List Bool)).bind fun y844 => (trunnionlaw08_OrderKeeps.l0 kj11 a0 a1 a2 t837 t838 0 y844 (y844.length : Int) 0))))) = some r := by rw [if_neg (show ¬ (false = true) by decide)] at H; exact H
        clear H
        have H := H1
        clear H1
        replace H := Option.bind_eq_some_iff.mp H
        obtain ⟨t841, A220, H⟩ := H
        replace H : ((order_Eq.f kj11 a0 a1 a2).bind fun t842 => ((order_Gt.f kj11 a0 a1 a2).bind fun t843 => ((some (([t841, t842, t843] : List Bool) : List Bool)).bind fun y844 => (trunnionlaw08_OrderKeeps.l0 kj11 a0 a1 a2 t837 t838 0 y844 (y844.length : Int) 0)))) = some r := H
        have A22 := Aside0.mk A220
        clear A220
        replace H := Option.bind_eq_some_iff.mp H
        obtain ⟨t842, A230, H⟩ := H
        replace H : ((order_Gt.f kj11 a0 a1 a2).bind fun t843 => ((some (([t841, t842, t843] : List Bool) : List Bool)).bind fun y844 => (trunnionlaw08_OrderKeeps.l0 kj11 a0 a1 a2 t837 t838 0 y844 (y844.length : Int) 0))) = some r := H
        have A23 := Aside0.mk A230
        clear A230
        replace H := Option.bind_eq_some_iff.mp H
        obtain ⟨t843, A240, H⟩ := H
        replace H : ((some (([t841, t842, t843] : List Bool) : List Bool)).bind fun y844 => (trunnionlaw08_OrderKeeps.l0 kj11 a0 a1 a2 t837 t838 0 y844 (y844.length : Int) 0)) = some r := H
        have A24 := Aside0.mk A240
        clear A240
        obtain ⟨y844, hy844⟩ : ∃ y_ : List Bool, y_ = (([t841, t842, t843] : List Bool)) := ⟨_, rfl⟩
        replace H : (trunnionlaw08_OrderKeeps.l0 kj11 a0 a1 a2 t837 t838 0 y844 (y844.length : Int) 0) = some r := by first | (rw [hy844]; with_reducible exact H) | (have H2_ := (Option.bind_some _ _).symm.trans H; rw [hy844]; with_reducible exact H2_) | (have H2_ := (Option.bind_some _ _).symm.trans H; with_reducible exact H2_) | with_reducible exact H | (rw [hy844]; exact H) | exact H
        have Ny844 := Aside0.mk hy844
        clear hy844
        have H' := Aside0.mk H
        clear H
        go_wp2_with (first | ((with_reducible refine gate_callee (f := 102) rfl ?_); refine goesL_ (some 47) rfl rfl Try.func102 (by kernel_rfl) rfl #[.int .i64 a0, .int .u64 a1, .int .u64 a2] rfl (by (try simp only [List.map_toArray, List.map_cons, List.map_nil]); first | done | rfl | (simp only [List.length_drop, List.length_take]; rfl)) ?_; (with_reducible refine (order_Lt.calls kj11 a0 a1 a2 t841 _ A22.out).mono ?_); rintro e w25 ⟨rfl, hb⟩; refine ⟨_, rfl, ?_⟩; have n0_ := Aside0.mk (below_step (by repeat (first | (with_reducible first | exact HB.out | apply below_alloc | apply pw_below_drewN | apply below_drew1) | exact HB.out)) hb); clear HB; have HB := n0_; clear n0_; (try clear hb); (try clear hb2); (try clear hk); (try clear hi)) | ((with_reducible refine gate_callee (f := 100) rfl ?_); refine goesL_ (some 51) rfl rfl Try.func100 (by kernel_rfl) rfl #[.int .i64 a0, .int .u64 a1, .int .u64 a2] rfl (by (try simp only [List.map_toArray, List.map_cons, List.map_nil]); first | done | rfl | (simp only [List.length_drop, List.length_take]; rfl)) ?_; (with_reducible refine (order_Eq.calls kj11 a0 a1 a2 t842 _ A23.out).mono ?_); rintro e w26 ⟨rfl, hb⟩; refine ⟨_, rfl, ?_⟩; have n0_ := Aside0.mk (below_step (by repeat (first | (with_reducible first | exact HB.out | apply below_alloc | apply pw_below_drewN | apply below_drew1) | exact HB.out)) hb); clear HB; have HB := n0_; clear n0_; (try clear hb); (try clear hb2); (try clear hk); (try clear hi)) | ((with_reducible refine gate_callee (f := 103) rfl ?_); refine goesL_ (some 55) rfl rfl Try.func103 (by kernel_rfl) rfl #[.int .i64 a0, .int .u64 a1, .int .u64 a2] rfl (by (try simp only [List.map_toArray, List.map_cons, List.map_nil]); first | done | rfl | (simp only [List.length_drop, List.length_take]; rfl)) ?_; (with_reducible refine (order_Gt.calls kj11 a0 a1 a2 t843 _ A24.out).mono ?_); rintro e w27 ⟨rfl, hb⟩; refine ⟨_, rfl, ?_⟩; have n0_ := Aside0.mk (below_step (by repeat (first | (with_reducible first | exact HB.out | apply below_alloc | apply pw_below_drewN | apply below_drew1) | exact HB.out)) hb); clear HB; have HB := n0_; clear n0_; (try clear hb); (try clear hb2); (try clear hk); (try clear hi)) | ((with_reducible refine gate_dst (N := 56) rfl ?_); refine Kd.R_lit Kd.bool _ 4 ?hg (N := 56) ?hd (xs := ([t841, t842, t843] : List Bool)) (inner := [.bool t841, .bool t842, .bool t843]) (ok := fun _ => True) (okp := fun _ => True) ?hr ?hp (fun _ hk => hk) trivial (Below.refl _ _) (Nat.le_refl _) (by simp) ?_; (case hd => rfl); (case hg => rfl); (case hr => first | (go_simp; done) | (go_simp; rfl)); (case hp => exact (Reps.one (show Kd.M Kd.bool _ _ _ t841 [.bool t841] from rfl) (Reps.one (show Kd.M Kd.bool _ _ _ t842 [.bool t842] from rfl) (Reps.one (show Kd.M Kd.bool _ _ _ t843 [.bool t843] from rfl) (Reps.none _ _))))); intro v845 w28 ho29 hb hg_ hnew_; clear hg_ hnew_; (first | rw [← Ny844.out] at ho29 | (simp only [Int.reduceToNat] at ho29; rw [← Ny844.out] at ho29)); have n0_ := Aside0.mk (Kd.R_lower ho29 (below_size (by repeat (first | (with_reducible first | exact HB.out | apply below_alloc | apply pw_below_drewN | apply below_drew1) | exact HB.out)))); have n1_ := Aside0.mk (below_step (by repeat (first | (with_reducible first | exact HB.out | apply below_alloc | apply pw_below_drewN | apply below_drew1) | exact HB.out)) hb); clear HB; have HO846 := n0_; have HB := n1_; clear n0_ n1_; clear hb ho29; obtain ⟨Ao30, co30, eo30⟩ := Kd.R_slice HO846.out; subst eo30))
        go_loopg [9, 58] kj11 (fun kq v9 v58 w' => ∃ (x9_3 : Int) (x58_3 : Int), v9 = .int .i64 x9_3 ∧ v58 = .int .i64 x58_3 ∧ Aside0 (trunnionlaw08_OrderKeeps.l0 kq a0 a1 a2 t837 t838 x9_3 y844 (y844.length : Int) x58_3 = some r) ∧ Aside0 (kq ≤ kj11) ∧ Aside0 (Kd.R Kd.bool 4 w' w.heap.size (fun _ => True) (.slice Ao30 y844.length co30) y844) ∧ Aside0 (Below w.heap.size w w'))
        case atStart => exact ⟨(0), (0), (by first | rfl | (simp; done) | (simp [*]; done)), (by first | rfl | (simp; done) | (simp [*]; done)), H', ⟨Nat.le_refl _⟩, ⟨by (with_reducible repeat (first | apply Kd.R_alloc | apply Kd.R_drewN | apply Kd.R_drew)); exact HO846.out⟩, ⟨by repeat (first | (with_reducible first | exact HB.out | apply below_alloc | apply pw_below_drewN | apply below_drew1) | exact HB.out)⟩⟩
        case round =>
         clear H'
         try clear c1
         try clear c2
         try clear p2
         try clear c5
         try clear c8
         try clear c8b0
         try clear c8b1
         try clear c9
         try clear c10
         try clear c16
         try clear c16b0
         try clear c16b1
         try clear c20
         try clear c21
         try clear p2
         obtain ⟨x9_3, x58_3, rfl, rfl, HA, HK3, HO_56, HB⟩ := hrel
         cases gk with
         | zero => exact absurd HA.out (by simp [trunnionlaw08_OrderKeeps.l0])
         | succ k3 =>
          have H := HA.out
          clear HA
          simp only [trunnionlaw08_OrderKeeps.l0] at H
          by_cases c31 : x58_3 < (y844.length : Int)
          ·rw [if_pos c31] at H
           have c31b0 : decide (x58_3 < (y844.length : Int)) = true := decide_eq_true c31
           clear c31
           by_cases c32 : 0 ≤ x58_3
           ·rw [if_pos c32] at H
            have c32b0 : decide (0 ≤ x58_3) = true := decide_eq_true c32
            clear c32
            by_cases c33 : x58_3 < (y844.length : Int)
            ·rw [if_pos c33] at H
             have c33b0 : decide (x58_3 < (y844.length : Int)) = true := decide_eq_true c33
             clear c33
             obtain ⟨bq34, hbq34⟩ : ∃ b_ : Bool, b_ = (rdOf false y844 x58_3) := ⟨_, rfl⟩
             replace H : (if bq34 = true then (trunnionlaw08_OrderKeeps.l0 k3 a0 a1 a2 t837 t838 (wrap64 (x9_3 + 1)) y844 (y844.length : Int) (wrap64 (x58_3 + 1))) else (trunnionlaw08_OrderKeeps.l0 k3 a0 a1 a2 t837 t838 x9_3 y844 (y844.length : Int) (wrap64 (x58_3 + 1)))) = some r := by rw [← hbq34] at H; exact H
             have Nbq34 := Aside0.mk hbq34
             clear hbq34
             by_cases c35 : bq34 = true
             ·subst c35
              have H1 : (trunnionlaw08_OrderKeeps.l0 k3 a0 a1 a2 t837 t838 (wrap64 (x9_3 + 1)) y844 (y844.length : Int) (wrap64 (x58_3 + 1))) = some r := by rw [if_pos rfl] at H; exact H
              clear H
              have H := H1
              clear H1
              have H' := Aside0.mk H
              clear H
              have p847 : 0 ≤ (x58_3 : Int) := of_decide_eq_true (by first | (with_reducible assumption) | assumption)
              have q847 : x58_3 < (y844.length : Int) := of_decide_eq_true (by first | (with_reducible assumption) | assumption)
              obtain ⟨ad847, e847, hx847_0⟩ := Kd.at_bool (Kd.R_reads' HO_56.out).2.2 x58_3 p847 q847
              (try rw [← Nbq34.out] at hx847_0)
              cases e847
              replace p847 := eq_true p847
              replace q847 := eq_true q847
              go_wp2
              go_roundg k3
              case measure => have := HJ5.out; have := HJ11.out; have := HK3.out; omega
              case rel => exact ⟨(wrap64 (x9_3 + 1)), (wrap64 (x58_3 + 1)), (by first | rfl | (simp; done) | (simp [*]; done)), (by first | rfl | (simp; done) | (simp [*]; done)), H', ⟨by have := HJ5.out; have := HJ11.out; have := HK3.out; omega⟩, ⟨by (with_reducible repeat (first | apply Kd.R_alloc | apply Kd.R_drewN | apply Kd.R_drew)); exact HO_56.out⟩, ⟨by repeat (first | (with_reducible first | exact HB.out | apply below_alloc | apply pw_below_drewN | apply below_drew1) | exact HB.out)⟩⟩
             ·replace c35 := Bool.eq_false_iff.mpr c35
              subst c35
              have H1 : (trunnionlaw08_OrderKeeps.l0 k3 a0 a1 a2 t837 t838 x9_3 y844 (y844.length : Int) (wrap64 (x58_3 + 1))) = some r := by rw [if_neg (show ¬ (false = true) by decide)] at H; exact H
              clear H
              have H := H1
              clear H1
              have H' := Aside0.mk H
              clear H
              have p847 : 0 ≤ (x58_3 : Int) := of_decide_eq_true (by first | (with_reducible assumption) | assumption)
              have q847 : x58_3 < (y844.length : Int) := of_decide_eq_true (by first | (with_reducible assumption) | assumption)
              obtain ⟨ad847, e847, hx847_0⟩ := Kd.at_bool (Kd.R_reads' HO_56.out).2.2 x58_3 p847 q847
              (try rw [← Nbq34.out] at hx847_0)
              cases e847
              replace p847 := eq_true p847
              replace q847 := eq_true q847
              go_wp2
              go_roundg k3
              case measure => have := HJ5.out; have := HJ11.out; have := HK3.out; omega
              case rel => exact ⟨(x9_3), (wrap64 (x58_3 + 1)), (by first | rfl | (simp; done) | (simp [*]; done)), (by first | rfl | (simp; done) | (simp [*]; done)), H', ⟨by have := HJ5.out; have := HJ11.out; have := HK3.out; omega⟩, ⟨by (with_reducible repeat (first | apply Kd.R_alloc | apply Kd.R_drewN | apply Kd.R_drew)); exact HO_56.out⟩, ⟨by repeat (first | (with_reducible first | exact HB.out | apply below_alloc | apply pw_below_drewN | apply below_drew1) | exact HB.out)⟩⟩
            ·rw [if_neg c33] at H
             exact absurd H (by simp)
           ·rw [if_neg c32] at H
            exact absurd H (by simp)
          ·rw [if_neg c31] at H
           have c31b0 : decide (x58_3 < (y844.length : Int)) = false := decide_eq_false c31
           clear c31
           have HC36 := Aside0.mk H
           clear H
           go_upto_region 15 with (fail)
           go_cut [73] (fun v73 wc => ∃ (kq : Nat) (x73_35 : Bool), v73 = .bool x73_35 ∧ Aside0 (trunnionlaw08_OrderKeeps.j3 kq a0 a1 a2 t837 t838 x9_3 x73_35 = some r) ∧ Aside0 (kq ≤ k3) ∧ Aside0 (Below w.heap.size w wc))
           case first =>
            have H := HC36.out
            clear HC36
            replace H := Option.bind_eq_some_iff.mp H
            obtain ⟨t848, A370, H⟩ := H
            replace H : (if t848 = true then (trunnionlaw08_OrderKeeps.j3 k3 a0 a1 a2 t837 t838 x9_3 true) else ((shape_IsNan.f k3 a0 a2).bind fun t849 => (trunnionlaw08_OrderKeeps.j3 k3 a0 a1 a2 t837 t838 x9_3 t849))) = some r := H
            have A37 := Aside0.mk A370
            clear A370
            by_cases c38 : t848 = true
            ·subst c38
             have H1 : (trunnionlaw08_OrderKeeps.j3 k3 a0 a1 a2 t837 t838 x9_3 true) = some r := by rw [if_pos rfl] at H; exact H
             clear H
             have H := H1
             clear H1
             have H' := Aside0.mk H
             clear H
             go_wp2_with (first | ((with_reducible refine gate_callee (f := 43) rfl ?_); refine goesL_ (some 68) rfl rfl Try.func43 (by kernel_rfl) rfl #[.int .i64 a0, .int .u64 a1] rfl (by (try simp only [List.map_toArray, List.map_cons, List.map_nil]); first | done | rfl | (simp only [List.length_drop, List.length_take]; rfl)) ?_; (with_reducible refine (shape_IsNan.calls k3 a0 a1 true _ A37.out).mono ?_); rintro e w39 ⟨rfl, hb⟩; refine ⟨_, rfl, ?_⟩; have n0_ := Aside0.mk (Kd.R_below (by (with_reducible repeat (first | apply Kd.R_alloc | apply Kd.R_drewN | apply Kd.R_drew)); exact HO_56.out) hb); have n1_ := Aside0.mk (below_step (by repeat (first | (with_reducible first | exact HB.out | apply below_alloc | apply pw_below_drewN | apply below_drew1) | exact HB.out)) hb); clear HO_56; clear HB; have HO_56 := n0_; have HB := n1_; clear n0_ n1_; (try clear hb); (try clear hb2); (try clear hk); (try clear hi)))
             go_meet
             case rel => exact ⟨_, (true), (by first | rfl | (simp; done) | (simp [*]; done)), H', ⟨by have := HJ5.out; have := HJ11.out; have := HK3.out; first | omega | exact Nat.le_refl _⟩, ⟨by repeat (first | (with_reducible first | exact HB.out | apply below_alloc | apply pw_below_drewN | apply below_drew1) | exact HB.out)⟩⟩
            ·replace c38 := Bool.eq_false_iff.mpr c38
             subst c38
             have H1 : ((shape_IsNan.f k3 a0 a2).bind fun t849 => (trunnionlaw08_OrderKeeps.j3 k3 a0 a1 a2 t837 t838 x9_3 t849)) = some r := by rw [if_neg (show ¬ (false = true) by decide)] at H; exact H
             clear H
             have H := H1
             clear H1
             replace H := Option.bind_eq_some_iff.mp H
             obtain ⟨t849, A400, H⟩ := H
             replace H : (trunnionlaw08_OrderKeeps.j3 k3 a0 a1 a2 t837 t838 x9_3 t849) = some r := H
             have A40 := Aside0.mk A400
             clear A400
             have H' := Aside0.mk H
             clear H
             go_wp2_with (first | ((with_reducible refine gate_callee (f := 43) rfl ?_); refine goesL_ (some 68) rfl rfl Try.func43 (by kernel_rfl) rfl #[.int .i64 a0, .int .u64 a1] rfl (by (try simp only [List.map_toArray, List.map_cons, List.map_nil]); first | done | rfl | (simp only [List.length_drop, List.length_take]; rfl)) ?_; (with_reducible refine (shape_IsNan.calls k3 a0 a1 false _ A37.out).mono ?_); rintro e w41 ⟨rfl, hb⟩; refine ⟨_, rfl, ?_⟩; have n0_ := Aside0.mk (Kd.R_below (by (with_reducible repeat (first | apply Kd.R_alloc | apply Kd.R_drewN | apply Kd.R_drew)); exact HO_56.out) hb); have n1_ := Aside0.mk (below_step (by repeat (first | (with_reducible first | exact HB.out | apply below_alloc | apply pw_below_drewN | apply below_drew1) | exact HB.out)) hb); clear HO_56; clear HB; have HO_56 := n0_; have HB := n1_; clear n0_ n1_; (try clear hb); (try clear hb2); (try clear hk); (try clear hi)) | (go_at_call 43; (with_reducible refine (shape_IsNan.calls k3 a0 a2 t849 _ A40.out).mono ?_); rintro e w42 ⟨rfl, hb⟩; have n0_ := Aside0.mk (Kd.R_below (by (with_reducible repeat (first | apply Kd.R_alloc | apply Kd.R_drewN | apply Kd.R_drew)); exact HO_56.out) hb); have n1_ := Aside0.mk (below_step (by repeat (first | (with_reducible first | exact HB.out | apply below_alloc | apply pw_below_drewN | apply below_drew1) | exact HB.out)) hb); clear HO_56; clear HB; have HO_56 := n0_; have HB := n1_; clear n0_ n1_; (try clear hb); (try clear hb2); (try clear hk); (try clear hi)))
             go_meet
             case rel => exact ⟨_, (t849), (by first | rfl | (simp; done) | (simp [*]; done)), H', ⟨by have := HJ5.out; have := HJ11.out; have := HK3.out; first | omega | exact Nat.le_refl _⟩, ⟨by repeat (first | (with_reducible first | exact HB.out | apply below_alloc | apply pw_below_drewN | apply below_drew1) | exact HB.out)⟩⟩
           case rest =>
            clear HC36
            try clear c1
            try clear c2
            try clear p2
            try clear c3
            try clear q3
            try clear c4
            try clear c5
            try clear p6
            try clear c8
            try clear c8b0
            try clear c8b1
            try clear p8
            try clear q8
            try clear hx8
            try clear c9
            try clear c10
            try clear c16
            try clear c16b0
            try clear c16b1
            try clear c20
            try clear c21
            try clear c31
            try clear c31b0
            try clear c32
            try clear c32b0
            try clear c33
            try clear c33b0
            try clear q34
            try clear c35
            try clear c38
            try clear hx847_0
            try clear p2
            try clear p847
            try clear q847
            obtain ⟨kq, x73_35, rfl, HA, HJ35, HB⟩ := hcut
            cases kq with
            | zero => exact absurd HA.out (by simp [trunnionlaw08_OrderKeeps.j3])
            | succ kj35 =>
             have H := HA.out
             clear HA
             simp only [trunnionlaw08_OrderKeeps.j3] at H
             by_cases c43 : x73_35 = true
             ·subst c43
              have H1 : (if x9_3 = 0 then ((shape_Nan.f a0).bind fun t850 => (if t837 = t850 then (some (t838 == t837)) else (some false))) else (some false)) = some r := by rw [if_pos rfl] at H; exact H
              clear H
              have H := H1
              clear H1
              by_cases c44 : x9_3 = 0
              ·rw [if_pos c44] at H
               have c44b0 : (x9_3 == 0) = true := beq_iff_eq.mpr c44
               have c44b1 : (x9_3 != 0) = false := bne_eq_false_iff_eq.mpr c44
               clear c44
               replace H := Option.bind_eq_some_iff.mp H
               obtain ⟨t850, A450, H⟩ := H
               replace H : (if t837 = t850 then (some (t838 == t837)) else (some false)) = some r := H
               have A45 := Aside0.mk A450
               clear A450
               by_cases c46 : t837 = t850
               ·rw [if_pos c46] at H
                have c46b0 : (t837 == t850) = true := beq_iff_eq.mpr c46
                have c46b1 : (t837 != t850) = false := bne_eq_false_iff_eq.mpr c46
                clear c46
                obtain rfl := Option.some.inj H
                go_wp2_with (first | (go_at_call 60; (with_reducible refine (shape_Nan.calls a0 t850 _ A45.out).mono ?_); rintro e w47 ⟨rfl, hb⟩; have n0_ := Aside0.mk (below_step (by repeat (first | (with_reducible first | exact HB.out | apply below_alloc | apply pw_below_drewN | apply below_drew1) | exact HB.out)) hb); clear HB; have HB := n0_; clear n0_; (try clear hb); (try clear hb2); (try clear hk); (try clear hi)))
                go_ret
                exact ⟨by first | rfl | (simp [errW_none, errW_some] <;> rfl) | (simp [*, errW_none, errW_some] <;> rfl), by repeat (first | (with_reducible first | exact HB.out | apply below_alloc | apply pw_below_drewN | apply below_drew1) | exact HB.out)⟩
               ·rw [if_neg c46] at H
                have c46b0 : (t837 == t850) = false := beq_eq_false_iff_ne.mpr c46
                have c46b1 : (t837 != t850) = true := bne_iff_ne.mpr c46
                exact absurd ((Option.some.inj H).trans hr_.out) (by decide)
              ·rw [if_neg c44] at H
               have c44b0 : (x9_3 == 0) = false := beq_eq_false_iff_ne.mpr c44
               have c44b1 : (x9_3 != 0) = true := bne_iff_ne.mpr c44
               exact absurd ((Option.some.inj H).trans hr_.out) (by decide)
             ·replace c43 := Bool.eq_false_iff.mpr c43
              subst c43
              have H1 : ((shape_Cut.f a0 a1).bind fun t851 => ((shape_Cut.f a0 a2).bind fun t852 => (if x9_3 = 1 then (if t837 = t851 then (if t838 = t852 then ((order_Le.f kj35 a0 t837 t838).bind fun t853 => (some t853)) else (if t837 = t852 then (if t838 = t851 then ((order_Le.f kj35 a0 t837 t838).bind fun t854 => (some t854)) else (some false)) else (some false))) else (if t837 = t852 then (if t838 = t851 then ((order_Le.f kj35 a0 t837 t838).bind fun t855 => (some t855)) else (some false)) else (some false))) else (some false)))) = some r := by rw [if_neg (show ¬ (false = true) by decide)] at H; exact H
              clear H
              have H := H1
              clear H1
              replace H := Option.bind_eq_some_iff.mp H
              obtain ⟨t851, A480, H⟩ := H
              replace H : ((shape_Cut.f a0 a2).bind fun t852 => (if x9_3 = 1 then (if t837 = t851 then (if t838 = t852 then ((order_Le.f kj35 a0 t837 t838).bind fun t853 => (some t853)) else (if t837 = t852 then (if t838 = t851 then ((order_Le.f kj35 a0 t837 t838).bind fun t854 => (some t854)) else (some false)) else (some false))) else (if t837 = t852 then (if t838 = t851 then ((order_Le.f kj35 a0 t837 t838).bind fun t855 => (some t855)) else (some false)) else (some false))) else (some false))) = some r := H
              have A48 := Aside0.mk A480
              clear A480
              replace H := Option.bind_eq_some_iff.mp H
              obtain ⟨t852, A490, H⟩ := H
              replace H : (if x9_3 = 1 then (if t837 = t851 then (if t838 = t852 then ((order_Le.f kj35 a0 t837 t838).bind fun t853 => (some t853)) else (if t837 = t852 then (if t838 = t851 then ((order_Le.f kj35 a0 t837 t838).bind fun t854 => (some t854)) else (some false)) else (some false))) else (if t837 = t852 then (if t838 = t851 then ((order_Le.f kj35 a0 t837 t838).bind fun t855 => (some t855)) else (some false)) else (some false))) else (some false)) = some r := H
              have A49 := Aside0.mk A490
              clear A490
              by_cases c50 : x9_3 = 1
              ·rw [if_pos c50] at H
               have c50b0 : (x9_3 == 1) = true := beq_iff_eq.mpr c50
               have c50b1 : (x9_3 != 1) = false := bne_eq_false_iff_eq.mpr c50
               clear c50
               by_cases c51 : t837 = t851
               ·rw [if_pos c51] at H
                have c51b0 : (t837 == t851) = true := beq_iff_eq.mpr c51
                have c51b1 : (t837 != t851) = false := bne_eq_false_iff_eq.mpr c51
                clear c51
                by_cases c52 : t838 = t852
                ·rw [if_pos c52] at H
                 have c52b0 : (t838 == t852) = true := beq_iff_eq.mpr c52
                 have c52b1 : (t838 != t852) = false := bne_eq_false_iff_eq.mpr c52
                 clear c52
                 replace H := Option.bind_eq_some_iff.mp H
                 obtain ⟨t853, A530, H⟩ := H
                 replace H : (some t853) = some r := H
                 have A53 := Aside0.mk A530
                 clear A530
                 obtain rfl := Option.some.inj H
                 go_wp2_with (first | ((with_reducible refine gate_callee (f := 42) rfl ?_); refine goesL_ (some 89) rfl rfl Try.func42 (by kernel_rfl) rfl #[.int .i64 a0, .int .u64 a1] rfl (by (try simp only [List.map_toArray, List.map_cons, List.map_nil]); first | done | rfl | (simp only [List.length_drop, List.length_take]; rfl)) ?_; (with_reducible refine (shape_Cut.calls a0 a1 t851 _ A48.out).mono ?_); rintro e w' ⟨rfl, ⟨nd, rfl⟩⟩; refine ⟨_, rfl, ?_⟩) | ((with_reducible refine gate_callee (f := 42) rfl ?_); refine goesL_ (some 92) rfl rfl Try.func42 (by kernel_rfl) rfl #[.int .i64 a0, .int .u64 a2] rfl (by (try simp only [List.map_toArray, List.map_cons, List.map_nil]); first | done | rfl | (simp only [List.length_drop, List.length_take]; rfl)) ?_; (with_reducible refine (shape_Cut.calls a0 a2 t852 _ A49.out).mono ?_); rintro e w' ⟨rfl, ⟨nd, rfl⟩⟩; refine ⟨_, rfl, ?_⟩) | (go_at_call 104; (with_reducible refine (order_Le.calls kj35 a0 t837 t838 t853 _ A53.out).mono ?_); rintro e w54 ⟨rfl, hb⟩; have n0_ := Aside0.mk (below_step (by repeat (first | (with_reducible first | exact HB.out | apply below_alloc | apply pw_below_drewN | apply below_drew1) | exact HB.out)) hb); clear HB; have HB := n0_; clear n0_; (try clear hb); (try clear hb2); (try clear hk); (try clear hi)))
                 go_ret
                 exact ⟨by first | rfl | (simp [errW_none, errW_some] <;> rfl) | (simp [*, errW_none, errW_some] <;> rfl), by repeat (first | (with_reducible first | exact HB.out | apply below_alloc | apply pw_below_drewN | apply below_drew1) | exact HB.out)⟩
                ·rw [if_neg c52] at H
                 have c52b0 : (t838 == t852) = false := beq_eq_false_iff_ne.mpr c52
                 have c52b1 : (t838 != t852) = true := bne_iff_ne.mpr c52
                 by_cases c55 : t837 = t852
                 ·rw [if_pos c55] at H
                  have c55b0 : (t837 == t852) = true := beq_iff_eq.mpr c55
                  have c55b1 : (t837 != t852) = false := bne_eq_false_iff_eq.mpr c55
                  clear c55
                  by_cases c56 : t838 = t851
                  ·rw [if_pos c56] at H
                   have c56b0 : (t838 == t851) = true := beq_iff_eq.mpr c56
                   have c56b1 : (t838 != t851) = false := bne_eq_false_iff_eq.mpr c56
                   clear c56
                   replace H := Option.bind_eq_some_iff.mp H
                   obtain ⟨t854, A570, H⟩ := H
                   replace H : (some t854) = some r := H
                   have A57 := Aside0.mk A570
                   clear A570
                   obtain rfl := Option.some.inj H
                   go_wp2_with (first | ((with_reducible refine gate_callee (f := 42) rfl ?_); refine goesL_ (some 89) rfl rfl Try.func42 (by kernel_rfl) rfl #[.int .i64 a0, .int .u64 a1] rfl (by (try simp only [List.map_toArray, List.map_cons, List.map_nil]); first | done | rfl | (simp only [List.length_drop, List.length_take]; rfl)) ?_; (with_reducible refine (shape_Cut.calls a0 a1 t851 _ A48.out).mono ?_); rintro e w' ⟨rfl, ⟨nd, rfl⟩⟩; refine ⟨_, rfl, ?_⟩) | ((with_reducible refine gate_callee (f := 42) rfl ?_); refine goesL_ (some 92) rfl rfl Try.func42 (by kernel_rfl) rfl #[.int .i64 a0, .int .u64 a2] rfl (by (try simp only [List.map_toArray, List.map_cons, List.map_nil]); first | done | rfl | (simp only [List.length_drop, List.length_take]; rfl)) ?_; (with_reducible refine (shape_Cut.calls a0 a2 t852 _ A49.out).mono ?_); rintro e w' ⟨rfl, ⟨nd, rfl⟩⟩; refine ⟨_, rfl, ?_⟩) | (go_at_call 104; (with_reducible refine (order_Le.calls kj35 a0 t837 t838 t854 _ A57.out).mono ?_); rintro e w58 ⟨rfl, hb⟩; have n0_ := Aside0.mk (below_step (by repeat (first | (with_reducible first | exact HB.out | apply below_alloc | apply pw_below_drewN | apply below_drew1) | exact HB.out)) hb); clear HB; have HB := n0_; clear n0_; (try clear hb); (try clear hb2); (try clear hk); (try clear hi)))
                   go_ret
                   exact ⟨by first | rfl | (simp [errW_none, errW_some] <;> rfl) | (simp [*, errW_none, errW_some] <;> rfl), by repeat (first | (with_reducible first | exact HB.out | apply below_alloc | apply pw_below_drewN | apply below_drew1) | exact HB.out)⟩
                  ·rw [if_neg c56] at H
                   have c56b0 : (t838 == t851) = false := beq_eq_false_iff_ne.mpr c56
                   have c56b1 : (t838 != t851) = true := bne_iff_ne.mpr c56
                   exact absurd ((Option.some.inj H).trans hr_.out) (by decide)
                 ·rw [if_neg c55] at H
                  have c55b0 : (t837 == t852) = false := beq_eq_false_iff_ne.mpr c55
                  have c55b1 : (t837 != t852) = true := bne_iff_ne.mpr c55
                  exact absurd ((Option.some.inj H).trans hr_.out) (by decide)
               ·rw [if_neg c51] at H
                have c51b0 : (t837 == t851) = false := beq_eq_false_iff_ne.mpr c51
                have c51b1 : (t837 != t851) = true := bne_iff_ne.mpr c51
                by_cases c59 : t837 = t852
                ·rw [if_pos c59] at H
                 have c59b0 : (t837 == t852) = true := beq_iff_eq.mpr c59
                 have c59b1 : (t837 != t852) = false := bne_eq_false_iff_eq.mpr c59
                 clear c59
                 by_cases c60 : t838 = t851
                 ·rw [if_pos c60] at H
                  have c60b0 : (t838 == t851) = true := beq_iff_eq.mpr c60
                  have c60b1 : (t838 != t851) = false := bne_eq_false_iff_eq.mpr c60
                  clear c60
                  replace H := Option.bind_eq_some_iff.mp H
                  obtain ⟨t855, A610, H⟩ := H
                  replace H : (some t855) = some r := H
                  have A61 := Aside0.mk A610
                  clear A610
                  obtain rfl := Option.some.inj H
                  go_wp2_with (first | ((with_reducible refine gate_callee (f := 42) rfl ?_); refine goesL_ (some 89) rfl rfl Try.func42 (by kernel_rfl) rfl #[.int .i64 a0, .int .u64 a1] rfl (by (try simp only [List.map_toArray, List.map_cons, List.map_nil]); first | done | rfl | (simp only [List.length_drop, List.length_take]; rfl)) ?_; (with_reducible refine (shape_Cut.calls a0 a1 t851 _ A48.out).mono ?_); rintro e w' ⟨rfl, ⟨nd, rfl⟩⟩; refine ⟨_, rfl, ?_⟩) | ((with_reducible refine gate_callee (f := 42) rfl ?_); refine goesL_ (some 92) rfl rfl Try.func42 (by kernel_rfl) rfl #[.int .i64 a0, .int .u64 a2] rfl (by (try simp only [List.map_toArray, List.map_cons, List.map_nil]); first | done | rfl | (simp only [List.length_drop, List.length_take]; rfl)) ?_; (with_reducible refine (shape_Cut.calls a0 a2 t852 _ A49.out).mono ?_); rintro e w' ⟨rfl, ⟨nd, rfl⟩⟩; refine ⟨_, rfl, ?_⟩) | (go_at_call 104; (with_reducible refine (order_Le.calls kj35 a0 t837 t838 t855 _ A61.out).mono ?_); rintro e w62 ⟨rfl, hb⟩; have n0_ := Aside0.mk (below_step (by repeat (first | (with_reducible first | exact HB.out | apply below_alloc | apply pw_below_drewN | apply below_drew1) | exact HB.out)) hb); clear HB; have HB := n0_; clear n0_; (try clear hb); (try clear hb2); (try clear hk); (try clear hi)))
                  go_ret
                  exact ⟨by first | rfl | (simp [errW_none, errW_some] <;> rfl) | (simp [*, errW_none, errW_some] <;> rfl), by repeat (first | (with_reducible first | exact HB.out | apply below_alloc | apply pw_below_drewN | apply below_drew1) | exact HB.out)⟩
                 ·rw [if_neg c60] at H
                  have c60b0 : (t838 == t851) = false := beq_eq_false_iff_ne.mpr c60
                  have c60b1 : (t838 != t851) = true := bne_iff_ne.mpr c60
                  exact absurd ((Option.some.inj H).trans hr_.out) (by decide)
                ·rw [if_neg c59] at H
                 have c59b0 : (t837 == t852) = false := beq_eq_false_iff_ne.mpr c59
                 have c59b1 : (t837 != t852) = true := bne_iff_ne.mpr c59
                 exact absurd ((Option.some.inj H).trans hr_.out) (by decide)
              ·rw [if_neg c50] at H
               have c50b0 : (x9_3 == 1) = false := beq_eq_false_iff_ne.mpr c50
               have c50b1 : (x9_3 != 1) = true := bne_iff_ne.mpr c50
               exact absurd ((Option.some.inj H).trans hr_.out) (by decide)
 ·replace c5 := Bool.eq_false_iff.mpr c5
  subst c5
  have H1 : (some false) = some r := by rw [if_neg (show ¬ (false = true) by decide)] at H; exact H
  clear H
  have H := H1
  clear H1
  exact absurd ((Option.some.inj H).trans hr_.out) (by decide)

/-- THE ONE PURE STATEMENT of trunnionlaw08_OrderKeeps: yours. -/
def trunnionlaw08_OrderKeeps.Pure : Prop := ∀ (a0 : Int) (a1 : Int) (a2 : Int), (Lit.int .i64 a0).wf = true → (Lit.int .u64 a1).wf = true → (Lit.int .u64 a2).wf = true → ∃ k, trunnionlaw08_OrderKeeps.f k a0 a1 a2 = some true
theorem trunnionlaw08_OrderKeeps.walk (P : trunnionlaw08_OrderKeeps.Pure) (a0 : Int) (a1 : Int) (a2 : Int) (w : World) (w0 : (Lit.int .i64 a0).wf = true) (w1 : (Lit.int .u64 a1).wf = true) (w2 : (Lit.int .u64 a2).wf = true) :
  Calls Try.prog 20 #[.int .i64 a0, .int .u64 a1, .int .u64 a2] w fun e w' => e = .returned (.bool true) ∧ Below w.heap.size w w' := by
 obtain ⟨k, h⟩ := P a0 a1 a2 w0 w1 w2
 refine (trunnionlaw08_OrderKeeps.calls k a0 a1 a2 true w h ⟨rfl⟩).mono ?_
 rintro e w' ⟨rfl, hd⟩
 exact ⟨rfl, hd⟩

end Go.Proofs.Ytmjfenbbgfohlaa.PA

namespace Go.Proofs.Ytmjfenbbgfohlaa.PA
open Go.RowKit Go.Proofs.YtmjfenbbgfohlaaW.PrintWords Go.Proofs.YtmjfenbbgfohlaaW.PrintLast Go.Proofs.YtmjfenbbgfohlaaW.PrintMore
attribute [local go_sem] max2_int min2_int max_two min_two max_three min_three max_four min_four   -- for this text's walks alone
set_option linter.unusedVariables false
set_option linter.unusedSimpArgs false

/-! ### sign_bit: function 110 -/
def sign_bit.f (a0 : Int) : Option (Int) := if a0 = 32 then (some 2147483648) else (if a0 = 64 then (some 9223372036854775808) else (some 0))
set_option maxHeartbeats 8000000 in
set_option maxRecDepth 100000 in
theorem sign_bit.calls (a0 : Int) (r : Int) (w : World) (h : sign_bit.f a0 = some r) :
  Calls Try.prog 110 #[.int .i64 a0] w fun e w' => e = .returned (.int .u64 r) ∧ Below w.heap.size w w' := by
 have hu130 := Try.underlying130
 have HB := Aside0.mk (Below.refl w.heap.size w)
 have H : (if a0 = 32 then (some 2147483648) else (if a0 = 64 then (some 9223372036854775808) else (some 0))) = some r := h
 clear h
 by_cases c2 : a0 = 32
 ·rw [if_pos c2] at H
  have c2b0 : (a0 == 32) = true := beq_iff_eq.mpr c2
  have c2b1 : (a0 != 32) = false := bne_eq_false_iff_eq.mpr c2
  clear c2
  obtain rfl := Option.some.inj H
  go_enter Try.func110, Try.ntmps110
  go_wp2_with (first | ((with_reducible refine gate_dst (N := 3) rfl ?_); refine box_event ?hg (N := 3) ?hd (cs := #[.int .u64 0, .int .u64 0]) (t := 130) ?hr ?_; (case hd => rfl); (case hg => rfl); (case hr => first | (go_simp; done) | (go_simp; rfl)); intro gb101 hg w3 hbox hb; have n0_ := Aside0.mk (below_step (by repeat (first | (with_reducible first | exact HB.out | apply below_alloc | apply pw_below_drewN | apply below_drew1) | exact HB.out)) hb); have n1_ := Aside0.mk (hbox); have n2_ := Aside0.mk ((by rw [hg]; exact (below_size (by repeat (first | (with_reducible first | exact HB.out | apply below_alloc | apply pw_below_drewN | apply below_drew1) | exact HB.out))) : w.heap.size ≤ gb101)); have n3_ := Aside0.mk ((by rw [hg]; exact (below_size (by repeat (first | (with_reducible first | exact HB.out | apply below_alloc | apply pw_below_drewN | apply below_drew1) | exact HB.out))) : w.heap.size ≤ gb101)); clear HB; have HB := n0_; have BK101 := n1_; have GW101 := n2_; have GE101 := n3_; clear n0_ n1_ n2_ n3_; clear hb hbox hg; have hcz4_0 : w3.cell? ⟨gb101, 0, none⟩ = some (.int .u64 0) := (blk_cell BK101.out 0).trans rfl; have hcz4_1 : w3.cell? ⟨gb101, 1, none⟩ = some (.int .u64 0) := (blk_cell BK101.out 1).trans rfl; have hfz4_0 := blk_frozen BK101.out 0; have hfz4_1 := blk_frozen BK101.out 1))
  go_ret
  exact ⟨by first | rfl | (simp [errW_none, errW_some] <;> rfl) | (simp [*, errW_none, errW_some] <;> rfl), by repeat (first | (with_reducible first | exact HB.out | apply below_alloc | apply pw_below_drewN | apply below_drew1 | refine below_set ?_ GE101.out) | exact HB.out)⟩
 ·rw [if_neg c2] at H
  have c2b0 : (a0 == 32) = false := beq_eq_false_iff_ne.mpr c2
  have c2b1 : (a0 != 32) = true := bne_iff_ne.mpr c2
  by_cases c5 : a0 = 64
  ·rw [if_pos c5] at H
   have c5b0 : (a0 == 64) = true := beq_iff_eq.mpr c5
   have c5b1 : (a0 != 64) = false := bne_eq_false_iff_eq.mpr c5
   clear c5
   obtain rfl := Option.some.inj H
   go_enter Try.func110, Try.ntmps110
   go_wp2_with (first | ((with_reducible refine gate_dst (N := 3) rfl ?_); refine box_event ?hg (N := 3) ?hd (cs := #[.int .u64 0, .int .u64 0]) (t := 130) ?hr ?_; (case hd => rfl); (case hg => rfl); (case hr => first | (go_simp; done) | (go_simp; rfl)); intro gb101 hg w6 hbox hb; have n0_ := Aside0.mk (below_step (by repeat (first | (with_reducible first | exact HB.out | apply below_alloc | apply pw_below_drewN | apply below_drew1) | exact HB.out)) hb); have n1_ := Aside0.mk (hbox); have n2_ := Aside0.mk ((by rw [hg]; exact (below_size (by repeat (first | (with_reducible first | exact HB.out | apply below_alloc | apply pw_below_drewN | apply below_drew1) | exact HB.out))) : w.heap.size ≤ gb101)); have n3_ := Aside0.mk ((by rw [hg]; exact (below_size (by repeat (first | (with_reducible first | exact HB.out | apply below_alloc | apply pw_below_drewN | apply below_drew1) | exact HB.out))) : w.heap.size ≤ gb101)); clear HB; have HB := n0_; have BK101 := n1_; have GW101 := n2_; have GE101 := n3_; clear n0_ n1_ n2_ n3_; clear hb hbox hg; have hcz7_0 : w6.cell? ⟨gb101, 0, none⟩ = some (.int .u64 0) := (blk_cell BK101.out 0).trans rfl; have hcz7_1 : w6.cell? ⟨gb101, 1, none⟩ = some (.int .u64 0) := (blk_cell BK101.out 1).trans rfl; have hfz7_0 := blk_frozen BK101.out 0; have hfz7_1 := blk_frozen BK101.out 1))
   go_ret
   exact ⟨by first | rfl | (simp [errW_none, errW_some] <;> rfl) | (simp [*, errW_none, errW_some] <;> rfl), by repeat (first | (with_reducible first | exact HB.out | apply below_alloc | apply pw_below_drewN | apply below_drew1 | refine below_set ?_ GE101.out) | exact HB.out)⟩
  ·rw [if_neg c5] at H
   have c5b0 : (a0 == 64) = false := beq_eq_false_iff_ne.mpr c5
   have c5b1 : (a0 != 64) = true := bne_iff_ne.mpr c5
   obtain rfl := Option.some.inj H
   go_enter Try.func110, Try.ntmps110
   go_wp2_with (first | ((with_reducible refine gate_dst (N := 3) rfl ?_); refine box_event ?hg (N := 3) ?hd (cs := #[.int .u64 0, .int .u64 0]) (t := 130) ?hr ?_; (case hd => rfl); (case hg => rfl); (case hr => first | (go_simp; done) | (go_simp; rfl)); intro gb101 hg w8 hbox hb; have n0_ := Aside0.mk (below_step (by repeat (first | (with_reducible first | exact HB.out | apply below_alloc | apply pw_below_drewN | apply below_drew1) | exact HB.out)) hb); have n1_ := Aside0.mk (hbox); have n2_ := Aside0.mk ((by rw [hg]; exact (below_size (by repeat (first | (with_reducible first | exact HB.out | apply below_alloc | apply pw_below_drewN | apply below_drew1) | exact HB.out))) : w.heap.size ≤ gb101)); have n3_ := Aside0.mk ((by rw [hg]; exact (below_size (by repeat (first | (with_reducible first | exact HB.out | apply below_alloc | apply pw_below_drewN | apply below_drew1) | exact HB.out))) : w.heap.size ≤ gb101)); clear HB; have HB := n0_; have BK101 := n1_; have GW101 := n2_; have GE101 := n3_; clear n0_ n1_ n2_ n3_; clear hb hbox hg; have hcz9_0 : w8.cell? ⟨gb101, 0, none⟩ = some (.int .u64 0) := (blk_cell BK101.out 0).trans rfl; have hcz9_1 : w8.cell? ⟨gb101, 1, none⟩ = some (.int .u64 0) := (blk_cell BK101.out 1).trans rfl; have hfz9_0 := blk_frozen BK101.out 0; have hfz9_1 := blk_frozen BK101.out 1))
   go_ret
   exact ⟨by first | rfl | (simp [errW_none, errW_some] <;> rfl) | (simp [*, errW_none, errW_some] <;> rfl), by repeat (first | (with_reducible first | exact HB.out | apply below_alloc | apply pw_below_drewN | apply below_drew1 | refine below_set ?_ GE101.out) | exact HB.out)⟩

end Go.Proofs.Ytmjfenbbgfohlaa.PA

namespace Go.Proofs.Ytmjfenbbgfohlaa.PA
open Go.RowKit Go.Proofs.YtmjfenbbgfohlaaW.PrintWords Go.Proofs.YtmjfenbbgfohlaaW.PrintLast Go.Proofs.YtmjfenbbgfohlaaW.PrintMore
attribute [local go_sem] max2_int min2_int max_two min_two max_three min_three max_four min_four   -- for this text's walks alone
set_option linter.unusedVariables false
set_option linter.unusedSimpArgs false

/-! ### sign_Abs: function 27 -/
def sign_Abs.f (a0 : Int) (a1 : Int) : Option (Int) := (shape_Cut.f a0 a1).bind fun t102 => ((sign_bit.f a0).bind fun t103 => (some (Go.bits .andNot .u64 t102 t103)))
set_option maxHeartbeats 8000000 in
set_option maxRecDepth 100000 in
theorem sign_Abs.calls (a0 : Int) (a1 : Int) (r : Int) (w : World) (h : sign_Abs.f a0 a1 = some r) :
  Calls Try.prog 27 #[.int .i64 a0, .int .u64 a1] w fun e w' => e = .returned (.int .u64 r) ∧ Below w.heap.size w w' := by
 have HB := Aside0.mk (Below.refl w.heap.size w)
 have H : ((shape_Cut.f a0 a1).bind fun t102 => ((sign_bit.f a0).bind fun t103 => (some (Go.bits .andNot .u64 t102 t103)))) = some r := h
 clear h
 replace H := Option.bind_eq_some_iff.mp H
 obtain ⟨t102, A30, H⟩ := H
 replace H : ((sign_bit.f a0).bind fun t103 => (some (Go.bits .andNot .u64 t102 t103))) = some r := H
 have A3 := Aside0.mk A30
 clear A30
 replace H := Option.bind_eq_some_iff.mp H
 obtain ⟨t103, A40, H⟩ := H
 replace H : (some (Go.bits .andNot .u64 t102 t103)) = some r := H
 have A4 := Aside0.mk A40
 clear A40
 obtain rfl := Option.some.inj H
 go_enter Try.func27, Try.ntmps27
 go_wp2_with (first | ((with_reducible refine gate_callee (f := 42) rfl ?_); refine goesL_ (some 7) rfl rfl Try.func42 (by kernel_rfl) rfl #[.int .i64 a0, .int .u64 a1] rfl (by (try simp only [List.map_toArray, List.map_cons, List.map_nil]); first | done | rfl | (simp only [List.length_drop, List.length_take]; rfl)) ?_; (with_reducible refine (shape_Cut.calls a0 a1 t102 _ A3.out).mono ?_); rintro e w' ⟨rfl, ⟨nd, rfl⟩⟩; refine ⟨_, rfl, ?_⟩) | ((with_reducible refine gate_callee (f := 110) rfl ?_); refine goesL_ (some 9) rfl rfl Try.func110 (by kernel_rfl) rfl #[.int .i64 a0] rfl (by (try simp only [List.map_toArray, List.map_cons, List.map_nil]); first | done | rfl | (simp only [List.length_drop, List.length_take]; rfl)) ?_; (with_reducible refine (sign_bit.calls a0 t103 _ A4.out).mono ?_); rintro e w5 ⟨rfl, hb⟩; refine ⟨_, rfl, ?_⟩; have n0_ := Aside0.mk (below_step (by repeat (first | (with_reducible first | exact HB.out | apply below_alloc | apply pw_below_drewN | apply below_drew1) | exact HB.out)) hb); clear HB; have HB := n0_; clear n0_; (try clear hb); (try clear hb2); (try clear hk); (try clear hi)))
 go_ret
 exact ⟨by first | rfl | (simp [errW_none, errW_some] <;> rfl) | (simp [*, errW_none, errW_some] <;> rfl), by repeat (first | (with_reducible first | exact HB.out | apply below_alloc | apply pw_below_drewN | apply below_drew1) | exact HB.out)⟩

end Go.Proofs.Ytmjfenbbgfohlaa.PA

namespace Bit
theorem andnot_pow (a k : Nat) (hk : k < 64) (ha : a < 2 ^ (k + 1)) : a &&& (18446744073709551615 - 2 ^ k) = a % 2 ^ k := by
  have hp : 2 ^ k < 2 ^ 64 := Nat.pow_lt_pow_right (by decide) hk
  have e : 18446744073709551615 - 2 ^ k = 2 ^ 64 - (2 ^ k + 1) := by
    have : (2 : Nat) ^ 64 = 18446744073709551616 := by decide
    omega
  rw [e]
  apply Nat.eq_of_testBit_eq
  intro i
  rw [Nat.testBit_and, Nat.testBit_two_pow_sub_succ hp, Nat.testBit_mod_two_pow, Nat.testBit_two_pow]
  by_cases h : i < k
  · simp [h, show i < 64 by omega, show k ≠ i by omega]
  · by_cases h2 : i = k
    · subst h2; simp
    · have h3 : a.testBit i = false := Nat.testBit_lt_two_pow (Nat.lt_of_lt_of_le ha (Nat.pow_le_pow_right (by decide) (by omega)))
      simp [h, h3]
theorem or_pow (x c k : Nat) (hx : x < 2 ^ k) : x ||| c * 2 ^ k = x + c * 2 ^ k := by
  rw [Nat.mul_comm, Nat.or_comm, ← Nat.two_pow_add_eq_or_of_lt hx, Nat.add_comm]
theorem and_low (a k : Nat) : a &&& (2 ^ k - 1) = a % 2 ^ k := Nat.and_two_pow_sub_one_eq_mod a k
end Bit

set_option linter.unusedVariables false
set_option linter.unusedSimpArgs false
namespace Go.Proofs.Ytmjfenbbgfohlaa.Th
open Go.RowKit Go.Proofs.YtmjfenbbgfohlaaW.PrintWords Go.Proofs.YtmjfenbbgfohlaaW.PrintLast Go.Proofs.YtmjfenbbgfohlaaW.PrintMore Go.Proofs.Ytmjfenbbgfohlaa.PA Bit
theorem wf_u64 {a : Int} (h : (Lit.int .u64 a).wf = true) : 0 ≤ a ∧ a < 18446744073709551616 := by
  simp [Lit.wf, IntKind.min, IntKind.max, IntKind.signed, IntKind.bits] at h; omega
/-! ### shape.Cut, sign -/
/-- a width's greatest power -/
def cutN (w : Int) (a : Nat) : Nat := if w = 32 then a % 4294967296 else if w = 64 then a else 0
theorem shCut (w : Int) (a : Nat) (ha : a < 18446744073709551616) : shape_Cut.f w a = some ((cutN w a : Nat) : Int) := by
  unfold shape_Cut.f cutN
  by_cases h : w = 32
  · rw [if_pos h, if_pos h, show (4294967295 : Int) = ((4294967295 : Nat) : Int) from rfl, u64_and_nat a _ ha (by decide)]
    rw [show (4294967295 : Nat) = 2 ^ 32 - 1 by decide, and_low]
  · rw [if_neg h, if_neg h]
    by_cases h2 : w = 64
    · rw [if_pos h2, if_pos h2]
    · rw [if_neg h2, if_neg h2]; rfl
def sb (w : Int) : Nat := if w = 32 then 2147483648 else 9223372036854775808
theorem bitS (w : Int) (hw : w = 32 ∨ w = 64) : sign_bit.f w = some ((sb w : Nat) : Int) := by
  rcases hw with rfl | rfl <;> rfl
/-- has it a sign -/
def sgB (w : Int) (a : Nat) : Bool := decide (a / sb w % 2 = 1)
/-- without a sign -/
def magN (w : Int) (a : Nat) : Nat := a % sb w
theorem cutN_eq (w : Int) (hw : w = 32 ∨ w = 64) (a : Nat) (ha : a < 18446744073709551616) : cutN w a = magN w a + (if sgB w a then sb w else 0) := by
  unfold magN sgB
  rcases hw with rfl | rfl
  · simp only [cutN, sb, if_true, decide_eq_true_eq]; split <;> omega
  · simp only [cutN, sb, show ¬ ((64 : Int) = 32) by decide, if_false, if_true, decide_eq_true_eq]; split <;> omega
theorem magN_lt (w : Int) (hw : w = 32 ∨ w = 64) (a : Nat) : magN w a < sb w := by
  unfold magN sb; rcases hw with rfl | rfl <;> exact Nat.mod_lt _ (by decide)
theorem absS (w : Int) (hw : w = 32 ∨ w = 64) (a : Nat) (ha : a < 18446744073709551616) : sign_Abs.f w a = some ((magN w a : Nat) : Int) := by
  unfold sign_Abs.f
  rw [shCut w a ha, Option.bind_some, bitS w hw, Option.bind_some]
  congr 1
  rcases hw with rfl | rfl
  · simp only [cutN, sb, magN, if_true]
    rw [u64_andNot_nat _ _ (by omega) (by decide)]
    have h := andnot_pow (a % 4294967296) 31 (by decide) (by have : a % 4294967296 < 4294967296 := Nat.mod_lt _ (by decide); simpa using this)
    rw [show (2 : Nat) ^ 31 = 2147483648 by decide] at h
    rw [h]; congr 1; omega
  · simp only [cutN, sb, magN, show ¬ ((64 : Int) = 32) by decide, if_false, if_true]
    rw [u64_andNot_nat _ _ ha (by decide)]
    have h := andnot_pow a 63 (by decide) (by simpa using ha)
    rw [show (2 : Nat) ^ 63 = 9223372036854775808 by decide] at h
    rw [h]
/-- with a sign, or without -/
def mkN (w : Int) (m : Nat) (s : Bool) : Nat := m + if s then sb w else 0
theorem mkN_lt (w : Int) (hw : w = 32 ∨ w = 64) (m : Nat) (s : Bool) (h : m < sb w) : mkN w m s < 18446744073709551616 := by
  unfold mkN; revert h; unfold sb; rcases hw with rfl | rfl <;> cases s <;> simp <;> omega
theorem sg_mk (w : Int) (hw : w = 32 ∨ w = 64) (m : Nat) (s : Bool) (h : m < sb w) : sgB w (mkN w m s) = s := by
  unfold sgB mkN; revert h; unfold sb; rcases hw with rfl | rfl <;> cases s <;> simp <;> omega
theorem mag_mk (w : Int) (hw : w = 32 ∨ w = 64) (m : Nat) (s : Bool) (h : m < sb w) : magN w (mkN w m s) = m := by
  unfold magN mkN; revert h; unfold sb; rcases hw with rfl | rfl <;> cases s <;> simp <;> omega
/-! ### the document's -/
theorem Ev.pos {α : Type} {c : Prop} [Decidable c] {f g : Nat → Option α} {r : α} (h : c) (k : Ev f r) : Ev (fun n => if c then f n else g n) r := Ev.congr (fun _ => if_pos h) k
theorem Ev.neg {α : Type} {c : Prop} [Decidable c] {f g : Nat → Option α} {r : α} (h : ¬ c) (k : Ev g r) : Ev (fun n => if c then f n else g n) r := Ev.congr (fun _ => if_neg h) k
theorem Ev.bs {α β : Type} {g : Option α} {a : α} {f : Nat → α → Option β} {r : β} (h : g = some a) (k : Ev (fun n => f n a) r) : Ev (fun n => g.bind (f n)) r := by subst h; exact k
theorem Ev.out {α : Type} {r s : α} (h : r = s) : Ev (fun _ => some r) s := by subst h; exact Ev.now _
theorem w64_id {n : Int} (h : -9223372036854775808 ≤ n) (h2 : n < 9223372036854775808) : wrap64 n = n := by unfold wrap64; omega
end Go.Proofs.Ytmjfenbbgfohlaa.Th

namespace Flo

/-! ### powers of two -/
def tw (k : Int) : Rat := (2 : Rat) ^ k
theorem tw_pos (k : Int) : 0 < tw k := Rat.zpow_pos (by decide)
theorem tw_add (a b : Int) : tw (a + b) = tw a * tw b := Rat.zpow_add (by decide) a b
theorem tw_one : tw 1 = 2 := Rat.zpow_one ..
theorem tw_succ (a : Int) : tw (a + 1) = 2 * tw a := by rw [tw_add, tw_one, Rat.mul_comm]
theorem tw_pred (a : Int) : tw a = 2 * tw (a - 1) := by
  have := tw_succ (a - 1); rwa [Int.sub_add_cancel] at this
theorem tw_nat (n : Nat) : tw n = ((2 ^ n : Nat) : Rat) := by
  unfold tw; rw [Rat.zpow_natCast]; simp
theorem mul_lt {a b t : Rat} (h : a < b) (ht : 0 < t) : a * t < b * t := Rat.mul_lt_mul_of_pos_right h ht
theorem lt_of_mul {a b t : Rat} (h : a * t < b * t) (ht : 0 < t) : a < b := Rat.lt_of_mul_lt_mul_right h (Rat.le_of_lt ht)
theorem le_of_mul {a b t : Rat} (h : a * t ≤ b * t) (ht : 0 < t) : a ≤ b := Rat.le_of_mul_le_mul_right h ht
theorem nat_lt {a b : Nat} : ((a : Nat) : Rat) < (b : Rat) ↔ a < b := Rat.natCast_lt_natCast
theorem nat_le {a b : Nat} : ((a : Nat) : Rat) ≤ (b : Rat) ↔ a ≤ b := Rat.natCast_le_natCast

/-! ### formats -/
structure Fmt where
  f : Nat
  low : Int
  top : Nat
  hf : 1 ≤ f
  ht : 2 ≤ top
namespace Fmt
variable (F : Fmt)
def inf : Nat := F.top * 2 ^ F.f
def sg (m : Nat) : Nat := if m < 2 ^ F.f then m else 2 ^ F.f + m % 2 ^ F.f
def ex (m : Nat) : Int := if m < 2 ^ F.f then F.low else (m / 2 ^ F.f : Nat) - 1 + F.low
def val (m : Nat) : Rat := (F.sg m : Rat) * tw (F.ex m)
def mid (m : Nat) : Rat := ((2 * F.sg m + 1 : Nat) : Rat) * tw (F.ex m - 1)
theorem pow_pos : 0 < 2 ^ F.f := Nat.pow_pos (by decide)
/-- the bits of a power and a number of so many of it -/
theorem sg_mk (q n : Nat) (h : n < 2 ^ (F.f + 1)) (hq : 0 < q → 2 ^ F.f ≤ n) : F.sg (q * 2 ^ F.f + n) = n ∧ F.ex (q * 2 ^ F.f + n) = q + F.low := by
  have hp := F.pow_pos
  rw [Nat.pow_succ] at h
  unfold sg ex
  by_cases h1 : n < 2 ^ F.f
  · have : q = 0 := by
      rcases Nat.eq_zero_or_pos q with h | h
      · exact h
      · have := hq h; omega
    subst this
    simp [h1]
  · have e : q * 2 ^ F.f + n = (n - 2 ^ F.f) + 2 ^ F.f * (q + 1) := by
      rw [Nat.mul_add, Nat.mul_comm q]; omega
    have h2 : ¬ (q * 2 ^ F.f + n < 2 ^ F.f) := by
      have := Nat.zero_le (q * 2 ^ F.f); omega
    rw [if_neg h2, if_neg h2, e, Nat.add_mul_mod_self_left, Nat.add_mul_div_left _ _ hp, Nat.mod_eq_of_lt (by omega), Nat.div_eq_of_lt (by omega)]
    constructor
    · omega
    · omega
theorem sg_ex (m : Nat) : ∃ q n, m = q * 2 ^ F.f + n ∧ n < 2 ^ (F.f + 1) ∧ (0 < q → 2 ^ F.f ≤ n) ∧ F.sg m = n ∧ F.ex m = q + F.low := by
  have hp := F.pow_pos
  by_cases h : m < 2 ^ F.f
  · refine ⟨0, m, by simp, by rw [Nat.pow_succ]; omega, by simp, ?_, ?_⟩ <;> simp [sg, ex, h]
  · have h3 := Nat.div_add_mod m (2 ^ F.f)
    have h4 : 1 ≤ m / 2 ^ F.f := (Nat.le_div_iff_mul_le hp).2 (by omega)
    have h5 := Nat.mod_lt m hp
    have h6 : m = (m / 2 ^ F.f - 1) * 2 ^ F.f + (2 ^ F.f + m % 2 ^ F.f) := by
      rw [Nat.sub_mul, Nat.one_mul, Nat.mul_comm (m / 2 ^ F.f)]
      have : 2 ^ F.f ≤ 2 ^ F.f * (m / 2 ^ F.f) := Nat.le_mul_of_pos_right _ h4
      omega
    have h7 : 2 ^ F.f + m % 2 ^ F.f < 2 ^ (F.f + 1) := by rw [Nat.pow_succ]; omega
    have := F.sg_mk (m / 2 ^ F.f - 1) (2 ^ F.f + m % 2 ^ F.f) h7 (by omega)
    rw [← h6] at this
    exact ⟨_, _, h6, h7, by omega, this.1, this.2⟩
theorem val_succ (m : Nat) : F.val (m + 1) = F.val m + tw (F.ex m) := by
  obtain ⟨q, n, e, hn, hq, h1, h2⟩ := F.sg_ex m
  have hp := F.pow_pos
  by_cases h : n + 1 < 2 ^ (F.f + 1)
  · obtain ⟨h3, h4⟩ := F.sg_mk q (n + 1) h (fun h => by have := hq h; omega)
    unfold val
    rw [h1, h2, e, Nat.add_assoc, h3, h4]
    push_cast
    grind
  · have hn1 : n + 1 = 2 ^ F.f + 2 ^ F.f := by rw [Nat.pow_succ] at h hn; omega
    have e2 : m + 1 = (q + 1) * 2 ^ F.f + 2 ^ F.f := by rw [e, Nat.add_mul]; omega
    obtain ⟨h3, h4⟩ := F.sg_mk (q + 1) (2 ^ F.f) (by rw [Nat.pow_succ]; omega) (fun _ => Nat.le_refl _)
    unfold val
    rw [h1, h2, e2, h3, h4]
    have : (((q + 1 : Nat) : Int) + F.low) = (q + F.low) + 1 := by omega
    rw [this, tw_succ]
    have h5 : ((n : Nat) : Rat) + 1 = ((2 ^ F.f : Nat) : Rat) + ((2 ^ F.f : Nat) : Rat) := by exact_mod_cast hn1
    grind
theorem mid_eq (m : Nat) : F.mid m = F.val m + tw (F.ex m - 1) := by
  unfold mid val
  rw [tw_pred (F.ex m)]
  push_cast
  grind
theorem mid_lt_succ (m : Nat) : F.mid m < F.val (m + 1) := by
  rw [mid_eq, val_succ, tw_pred (F.ex m)]
  have := tw_pos (F.ex m - 1)
  grind
theorem lt_mid (m : Nat) : F.val m < F.mid m := by
  rw [mid_eq]
  have := tw_pos (F.ex m - 1)
  grind
theorem val_lt_succ (m : Nat) : F.val m < F.val (m + 1) := by
  rw [val_succ]
  have := tw_pos (F.ex m)
  grind
theorem val_mono {a b : Nat} (h : a ≤ b) : F.val a ≤ F.val b := by
  induction b with
  | zero => obtain rfl : a = 0 := by omega
            exact Rat.le_refl
  | succ b ih =>
    rcases Nat.lt_or_ge b a with h1 | h1
    · obtain rfl : a = b + 1 := by omega
      exact Rat.le_refl
    · have := ih h1
      have := F.val_lt_succ b
      grind
theorem mid_lt {a b : Nat} (h : a < b) : F.mid a < F.mid b := by
  have h1 := F.mid_lt_succ a
  have h2 := F.val_mono (show a + 1 ≤ b by omega)
  have h3 := F.lt_mid b
  grind
/-! ### rounding: what is above a middle -/
def Up (x : Rat) (m : Nat) : Prop := F.mid m < x ∨ F.mid m = x ∧ m % 2 = 1
def Rnd (U : Nat → Prop) (r : Nat) : Prop := r ≤ F.inf ∧ (∀ m, m < r → U m) ∧ (r < F.inf → ¬ U r)
theorem Rnd.exact {m : Nat} (h : m ≤ F.inf) : F.Rnd (F.Up (F.val m)) m := by
  refine ⟨h, fun k hk => .inl ?_, fun _ u => ?_⟩
  · have h1 := F.mid_lt_succ k
    have h2 := F.val_mono (show k + 1 ≤ m by omega)
    grind
  · have h1 := F.lt_mid m
    rcases u with u | ⟨u, _⟩ <;> grind
/-- The one rule by which all are rounded: to n times 2^(low + q), if that is where its last bit stands. -/
theorem Rnd.make {x : Rat} {q n : Nat} (hx : x < tw (q + F.low + F.f + 1)) (hq : 0 < q → tw (q + F.low + F.f) ≤ x)
    (hd : 0 < n → ((2 * n - 1 : Nat) : Rat) * tw (q + F.low - 1) < x ∨ ((2 * n - 1 : Nat) : Rat) * tw (q + F.low - 1) = x ∧ n % 2 = 0)
    (hu : x < ((2 * n + 1 : Nat) : Rat) * tw (q + F.low - 1) ∨ x = ((2 * n + 1 : Nat) : Rat) * tw (q + F.low - 1) ∧ n % 2 = 0) :
    F.Rnd (F.Up x) (min F.inf (q * 2 ^ F.f + n)) := by
  have hp := F.pow_pos
  have T := tw_pos (q + F.low - 1)
  -- n is at most 2^(f+1), and at least 2^f where q is not 0
  have e1 : tw (q + F.low + F.f + 1) = ((2 ^ (F.f + 2) : Nat) : Rat) * tw (q + F.low - 1) := by
    rw [← tw_nat, ← tw_add]; congr 1; omega
  have e2 : tw (q + F.low + F.f) = ((2 ^ (F.f + 1) : Nat) : Rat) * tw (q + F.low - 1) := by
    rw [← tw_nat, ← tw_add]; congr 1; omega
  have hn : n ≤ 2 ^ (F.f + 1) := by
    rcases Nat.eq_zero_or_pos n with h | h
    · omega
    · have h1 : ((2 * n - 1 : Nat) : Rat) * tw (q + F.low - 1) < ((2 ^ (F.f + 2) : Nat) : Rat) * tw (q + F.low - 1) := by
        rw [← e1]
        rcases hd h with h | ⟨h, _⟩ <;> grind
      have h2 := nat_lt.1 (lt_of_mul h1 T)
      rw [Nat.pow_succ] at h2
      omega
  have hl : 0 < q → 2 ^ F.f ≤ n := by
    intro h
    have h1 := hq h
    have h2 : ((2 ^ (F.f + 1) : Nat) : Rat) * tw (q + F.low - 1) ≤ ((2 * n + 1 : Nat) : Rat) * tw (q + F.low - 1) := by
      rw [← e2]
      rcases hu with h | ⟨h, _⟩ <;> grind
    have h3 := nat_le.1 (le_of_mul h2 T)
    rw [Nat.pow_succ] at h3
    omega
  have par : (q * 2 ^ F.f + n) % 2 = n % 2 := by
    obtain ⟨g, hg⟩ : ∃ g, F.f = g + 1 := ⟨F.f - 1, by have := F.hf; omega⟩
    rw [hg, Nat.pow_succ, ← Nat.mul_assoc]; omega
  -- what is below the answer is above its middle
  have hbelow : ∀ m, m < q * 2 ^ F.f + n → F.Up x m := by
    intro m hm
    have hlast : F.Up x (q * 2 ^ F.f + n - 1) := by
      by_cases h : n ≤ 2 ^ F.f ∧ 0 < q
      · obtain ⟨h, h0⟩ := h
        have h1 : n = 2 ^ F.f := Nat.le_antisymm h (hl h0)
        have e3 : q * 2 ^ F.f + n - 1 = (q - 1) * 2 ^ F.f + (2 ^ (F.f + 1) - 1) := by
          rw [h1, Nat.pow_succ]
          have : q * 2 ^ F.f = (q - 1) * 2 ^ F.f + 2 ^ F.f := by rw [← Nat.succ_mul]; congr 1; omega
          omega
        obtain ⟨h3, h4⟩ := F.sg_mk (q - 1) (2 ^ (F.f + 1) - 1) (by have := Nat.pow_pos (n := F.f + 1) (show 0 < 2 by decide); omega) (by intro _; rw [Nat.pow_succ]; omega)
        refine .inl ?_
        unfold mid
        rw [e3, h3, h4]
        have h5 := hq h0
        have e4 : tw (q + F.low + F.f) = ((2 ^ (F.f + 2) : Nat) : Rat) * tw ((q - 1 : Nat) + F.low - 1) := by
          rw [← tw_nat, ← tw_add]; congr 1; omega
        have h6 : 2 * (2 ^ (F.f + 1) - 1) + 1 < 2 ^ (F.f + 2) := by
          have h7 : 2 ^ (F.f + 2) = 2 ^ (F.f + 1) * 2 := Nat.pow_succ ..
          have h8 := Nat.pow_pos (n := F.f + 1) (show 0 < 2 by decide)
          omega
        have h7 := mul_lt (nat_lt.2 h6) (tw_pos ((q - 1 : Nat) + F.low - 1))
        grind
      · have hn0 : 0 < n := by
          rcases Nat.eq_zero_or_pos n with h0 | h0
          · subst h0
            rcases Nat.eq_zero_or_pos q with h1 | h1
            · subst h1; omega
            · exact absurd ⟨by omega, h1⟩ h
          · exact h0
        have h1 : 0 < q → 2 ^ F.f ≤ n - 1 := by
          intro h0
          have := hl h0
          have : ¬ n ≤ 2 ^ F.f := fun h' => h ⟨h', h0⟩
          omega
        obtain ⟨h3, h4⟩ := F.sg_mk q (n - 1) (by omega) h1
        have e3 : q * 2 ^ F.f + n - 1 = q * 2 ^ F.f + (n - 1) := by omega
        have e4 : 2 * (n - 1) + 1 = 2 * n - 1 := by omega
        unfold Up mid
        rw [e3, h3, h4, e4]
        rcases hd hn0 with h5 | ⟨h5, h6⟩
        · exact .inl h5
        · refine .inr ⟨h5, ?_⟩
          rw [← e3]; omega
    rcases Nat.lt_or_ge m (q * 2 ^ F.f + n - 1) with h1 | h1
    · have h2 := F.mid_lt h1
      rcases hlast with h3 | ⟨h3, _⟩ <;> exact .inl (by grind)
    · obtain rfl : m = q * 2 ^ F.f + n - 1 := by omega
      exact hlast
  refine ⟨Nat.min_le_left _ _, fun m hm => hbelow m (by omega), fun h => ?_⟩
  have hm : min F.inf (q * 2 ^ F.f + n) = q * 2 ^ F.f + n := by omega
  rw [hm]
  by_cases h1 : n < 2 ^ (F.f + 1)
  · obtain ⟨h3, h4⟩ := F.sg_mk q n h1 hl
    unfold Up mid
    rw [h3, h4, par]
    rintro (h5 | ⟨h5, h6⟩) <;> rcases hu with h7 | ⟨h7, h8⟩
    · grind
    · grind
    · grind
    · omega
  · have h1 : n = 2 ^ (F.f + 1) := by omega
    have e3 : q * 2 ^ F.f + n = (q + 1) * 2 ^ F.f + 2 ^ F.f := by rw [h1, Nat.pow_succ, Nat.add_mul]; omega
    obtain ⟨h3, h4⟩ := F.sg_mk (q + 1) (2 ^ F.f) (by rw [Nat.pow_succ]; omega) (fun _ => Nat.le_refl _)
    have h9 := F.lt_mid (q * 2 ^ F.f + n)
    have h10 : F.val (q * 2 ^ F.f + n) = tw (q + F.low + F.f + 1) := by
      unfold val
      rw [e3, h3, h4, ← tw_nat, ← tw_add]; congr 1; omega
    rintro (h5 | ⟨h5, h6⟩) <;> grind
end Fmt
end Flo

set_option linter.unusedVariables false
set_option linter.unusedSimpArgs false
namespace Go.Proofs.Ytmjfenbbgfohlaa.Th
open Go.RowKit Go.Proofs.YtmjfenbbgfohlaaW.PrintWords Go.Proofs.YtmjfenbbgfohlaaW.PrintLast Go.Proofs.YtmjfenbbgfohlaaW.PrintMore Go.Proofs.Ytmjfenbbgfohlaa.PA Bit Flo
/-! ### the formats -/
def f32 : Fmt := ⟨23, -149, 255, by decide, by decide⟩
def f64 : Fmt := ⟨52, -1074, 2047, by decide, by decide⟩
def fmt (w : Int) : Fmt := if w = 32 then f32 else f64
/-- a float taken apart: its sign, kind, exponent, bits -/
def opn (w : Int) (a : Nat) : Bool × Int × Int × Int :=
  let F := fmt w
  let m := magN w a
  if m = 0 then (sgB w a, 0, 0, 0) else if m < F.inf then (sgB w a, 1, F.ex m, (F.sg m : Int)) else if m = F.inf then (sgB w a, 2, 0, 0) else (false, 3, 0, 0)

/-! ### width 32 -/
theorem ones32 : shape_format_ones.f 8 23 = some 255 := by decide +kernel
theorem low32 : shape_format_low.f 8 23 = some (-149) := by decide +kernel
theorem inf32 : f32.inf = 2139095040 := by decide
theorem sg32 (m : Nat) : f32.sg m = if m < 8388608 then m else 8388608 + m % 8388608 := by
  unfold Fmt.sg; rw [show (2 : Nat) ^ f32.f = 8388608 by decide]
theorem ex32 (m : Nat) : f32.ex m = if m < 8388608 then (-149 : Int) else ((m / 8388608 : Nat) : Int) - 1 + (-149) := by
  unfold Fmt.ex; rw [show (2 : Nat) ^ f32.f = 8388608 by decide]; rfl
theorem opn32 (a : Nat) : opn 32 a = if a % 2147483648 = 0 then (decide (a / 2147483648 % 2 = 1), 0, 0, 0) else if a % 2147483648 < 2139095040 then (decide (a / 2147483648 % 2 = 1), 1, (if a % 2147483648 < 8388608 then (-149 : Int) else ((a % 2147483648 / 8388608 : Nat) : Int) - 1 + (-149)), ((if a % 2147483648 < 8388608 then a % 2147483648 else 8388608 + a % 2147483648 % 8388608 : Nat) : Int))
    else if a % 2147483648 = 2139095040 then (decide (a / 2147483648 % 2 = 1), 2, 0, 0) else (false, 3, 0, 0) := by
  unfold opn
  simp only [show fmt 32 = f32 from rfl, inf32, sg32, ex32, magN, sgB, show sb 32 = 2147483648 by decide]
theorem split32 (a : Nat) (ha : a < 18446744073709551616) : shape_format_split.f 8 23 a = some (8, 23, decide (a / 2147483648 % 2 = 1), ((a / 8388608 % 256 : Nat) : Int), ((a % 8388608 : Nat) : Int)) := by
  unfold shape_format_split.f
  rw [show wrap64 (8 + 23) = 31 by decide +kernel, if_pos (by decide), if_pos (by decide), ones32, Option.bind_some]
  have e1 : shr .u64 (a : Int) 31 = ((a / 2147483648 : Nat) : Int) := by
    unfold shr; rw [show min (31 : Int).toNat IntKind.u64.bits = 31 by decide, show (2 : Int) ^ 31 = 2147483648 by decide]; omega
  have e2 : shr .u64 (a : Int) 23 = ((a / 8388608 : Nat) : Int) := by
    unfold shr; rw [show min (23 : Int).toNat IntKind.u64.bits = 23 by decide, show (2 : Int) ^ 23 = 8388608 by decide]; omega
  have e3 : IntKind.u64.wrap ((shl .u64 1 23) - 1) = ((8388607 : Nat) : Int) := by decide +kernel
  rw [e1, e2, e3, show (1 : Int) = ((1 : Nat) : Int) from rfl, show (255 : Int) = ((255 : Nat) : Int) from rfl,
    u64_and_nat _ 1 (by omega) (by decide), u64_and_nat _ 255 (by omega) (by decide), u64_and_nat a 8388607 ha (by decide)]
  have h1 := and_low (a / 2147483648) 1
  have h2 := and_low (a / 8388608) 8
  have h3 := and_low a 23
  rw [show (2 : Nat) ^ 1 - 1 = 1 by decide, show (2 : Nat) ^ 1 = 2 by decide] at h1
  rw [show (2 : Nat) ^ 8 - 1 = 255 by decide, show (2 : Nat) ^ 8 = 256 by decide] at h2
  rw [show (2 : Nat) ^ 23 - 1 = 8388607 by decide, show (2 : Nat) ^ 23 = 8388608 by decide] at h3
  rw [h1, h2, h3]
  have hb : ((((a / 2147483648 % 2 : Nat) : Int) == ((1 : Nat) : Int)) : Bool) = decide (a / 2147483648 % 2 = 1) := by
    rw [Bool.eq_iff_iff]; simp; omega
  rw [hb]
theorem open32 (a : Nat) (ha : a < 18446744073709551616) : Ev (fun k => shape_Open.f k 32 a) (opn 32 a) := by
  rw [opn32]
  unfold shape_Open.f
  refine Ev.bs (show shape_of.f 32 = some (8, 23, true) by decide) (Ev.pos rfl (Ev.bs (split32 a ha) (Ev.bs ones32 ?_)))
  simp only
  have hP : a % 2147483648 % 8388608 = a % 8388608 := by omega
  have hQ : a % 2147483648 / 8388608 = a / 8388608 % 256 := by omega
  have hT : a / 8388608 % 256 < 256 := Nat.mod_lt _ (by decide)
  have hE : a % 2147483648 = a / 8388608 % 256 * 8388608 + a % 8388608 := by omega
  rw [hP, hQ, hE]
  generalize a / 8388608 % 256 = e at *
  have hF : a % 8388608 < 8388608 := Nat.mod_lt _ (by decide)
  generalize a % 8388608 = fr at *
  generalize decide (a / 2147483648 % 2 = 1) = s
  by_cases h1 : e = 255
  · subst h1
    refine Ev.pos rfl ?_
    refine Ev.step (fun _ => shape_Open.j0.eq_2 ..) ?_
    by_cases h2 : fr = 0
    · subst h2
      refine Ev.neg (by decide) (Ev.bs ones32 (Ev.pos rfl (Ev.out ?_)))
      rw [if_neg (by omega), if_neg (by omega), if_pos (by omega)]
    · refine Ev.pos (by simp; omega) (Ev.out ?_)
      rw [if_neg (by omega), if_neg (by omega), if_neg (by omega)]
  · refine Ev.neg (by omega) ?_
    refine Ev.step (fun _ => shape_Open.j0.eq_2 ..) ?_
    refine Ev.neg (by decide) (Ev.bs ones32 (Ev.neg (by omega) ?_))
    by_cases h2 : e = 0
    · subst h2
      refine Ev.pos rfl (Ev.step (fun _ => shape_Open.j1.eq_2 ..) ?_)
      by_cases h3 : fr = 0
      · subst h3
        refine Ev.pos (by decide) (Ev.out ?_)
        rw [Nat.zero_mul, Nat.zero_add, if_pos rfl]
      · refine Ev.neg (by simp; omega) (Ev.pos rfl (Ev.bs low32 (Ev.out ?_)))
        rw [if_neg (by omega), if_pos (by omega), if_pos (by omega), if_pos (by omega)]
        simp
    · refine Ev.neg (by omega) (Ev.step (fun _ => shape_Open.j1.eq_2 ..) ?_)
      refine Ev.neg (by decide) (Ev.neg (by omega) (Ev.bs low32 (Ev.pos (by decide) (Ev.out ?_))))
      rw [if_neg (by omega), if_pos (by omega), if_neg (by omega), if_neg (by omega)]
      rw [w64_id (n := ((e : Nat) : Int)) (by omega) (by omega), w64_id (n := (-149 : Int) + _) (by omega) (by omega), w64_id (by omega) (by omega)]
      have e4 : shl .u64 1 23 = ((8388608 : Nat) : Int) := by decide +kernel
      rw [e4, u64_or_nat _ _ (by decide) (by omega)]
      have h4 := or_pow fr 1 23 (by rw [show (2 : Nat) ^ 23 = 8388608 by decide]; exact hF)
      rw [Nat.one_mul, show (2 : Nat) ^ 23 = 8388608 by decide, Nat.or_comm] at h4
      rw [h4, Nat.add_comm fr]
      congr 2
      congr 1
      omega

/-! ### width 64 -/
theorem ones64 : shape_format_ones.f 11 52 = some 2047 := by decide +kernel
theorem low64 : shape_format_low.f 11 52 = some (-1074) := by decide +kernel
theorem inf64 : f64.inf = 9218868437227405312 := by decide
theorem sg64 (m : Nat) : f64.sg m = if m < 4503599627370496 then m else 4503599627370496 + m % 4503599627370496 := by
  unfold Fmt.sg; rw [show (2 : Nat) ^ f64.f = 4503599627370496 by decide]
theorem ex64 (m : Nat) : f64.ex m = if m < 4503599627370496 then (-1074 : Int) else ((m / 4503599627370496 : Nat) : Int) - 1 + (-1074) := by
  unfold Fmt.ex; rw [show (2 : Nat) ^ f64.f = 4503599627370496 by decide]; rfl
theorem opn64 (a : Nat) : opn 64 a = if a % 9223372036854775808 = 0 then (decide (a / 9223372036854775808 % 2 = 1), 0, 0, 0) else if a % 9223372036854775808 < 9218868437227405312 then (decide (a / 9223372036854775808 % 2 = 1), 1, (if a % 9223372036854775808 < 4503599627370496 then (-1074 : Int) else ((a % 9223372036854775808 / 4503599627370496 : Nat) : Int) - 1 + (-1074)), ((if a % 9223372036854775808 < 4503599627370496 then a % 9223372036854775808 else 4503599627370496 + a % 9223372036854775808 % 4503599627370496 : Nat) : Int))
    else if a % 9223372036854775808 = 9218868437227405312 then (decide (a / 9223372036854775808 % 2 = 1), 2, 0, 0) else (false, 3, 0, 0) := by
  unfold opn
  simp only [show fmt 64 = f64 from rfl, inf64, sg64, ex64, magN, sgB, show sb 64 = 9223372036854775808 by decide]
theorem split64 (a : Nat) (ha : a < 18446744073709551616) : shape_format_split.f 11 52 a = some (11, 52, decide (a / 9223372036854775808 % 2 = 1), ((a / 4503599627370496 % 2048 : Nat) : Int), ((a % 4503599627370496 : Nat) : Int)) := by
  unfold shape_format_split.f
  rw [show wrap64 (11 + 52) = 63 by decide +kernel, if_pos (by decide), if_pos (by decide), ones64, Option.bind_some]
  have e1 : shr .u64 (a : Int) 63 = ((a / 9223372036854775808 : Nat) : Int) := by
    unfold shr; rw [show min (63 : Int).toNat IntKind.u64.bits = 63 by decide, show (2 : Int) ^ 63 = 9223372036854775808 by decide]; omega
  have e2 : shr .u64 (a : Int) 52 = ((a / 4503599627370496 : Nat) : Int) := by
    unfold shr; rw [show min (52 : Int).toNat IntKind.u64.bits = 52 by decide, show (2 : Int) ^ 52 = 4503599627370496 by decide]; omega
  have e3 : IntKind.u64.wrap ((shl .u64 1 52) - 1) = ((4503599627370495 : Nat) : Int) := by decide +kernel
  rw [e1, e2, e3, show (1 : Int) = ((1 : Nat) : Int) from rfl, show (2047 : Int) = ((2047 : Nat) : Int) from rfl,
    u64_and_nat _ 1 (by omega) (by decide), u64_and_nat _ 2047 (by omega) (by decide), u64_and_nat a 4503599627370495 ha (by decide)]
  have h1 := and_low (a / 9223372036854775808) 1
  have h2 := and_low (a / 4503599627370496) 11
  have h3 := and_low a 52
  rw [show (2 : Nat) ^ 1 - 1 = 1 by decide, show (2 : Nat) ^ 1 = 2 by decide] at h1
  rw [show (2 : Nat) ^ 11 - 1 = 2047 by decide, show (2 : Nat) ^ 11 = 2048 by decide] at h2
  rw [show (2 : Nat) ^ 52 - 1 = 4503599627370495 by decide, show (2 : Nat) ^ 52 = 4503599627370496 by decide] at h3
  rw [h1, h2, h3]
  have hb : ((((a / 9223372036854775808 % 2 : Nat) : Int) == ((1 : Nat) : Int)) : Bool) = decide (a / 9223372036854775808 % 2 = 1) := by
    rw [Bool.eq_iff_iff]; simp; omega
  rw [hb]
theorem open64 (a : Nat) (ha : a < 18446744073709551616) : Ev (fun k => shape_Open.f k 64 a) (opn 64 a) := by
  rw [opn64]
  unfold shape_Open.f
  refine Ev.bs (show shape_of.f 64 = some (11, 52, true) by decide) (Ev.pos rfl (Ev.bs (split64 a ha) (Ev.bs ones64 ?_)))
  simp only
  have hP : a % 9223372036854775808 % 4503599627370496 = a % 4503599627370496 := by omega
  have hQ : a % 9223372036854775808 / 4503599627370496 = a / 4503599627370496 % 2048 := by omega
  have hT : a / 4503599627370496 % 2048 < 2048 := Nat.mod_lt _ (by decide)
  have hE : a % 9223372036854775808 = a / 4503599627370496 % 2048 * 4503599627370496 + a % 4503599627370496 := by omega
  rw [hP, hQ, hE]
  generalize a / 4503599627370496 % 2048 = e at *
  have hF : a % 4503599627370496 < 4503599627370496 := Nat.mod_lt _ (by decide)
  generalize a % 4503599627370496 = fr at *
  generalize decide (a / 9223372036854775808 % 2 = 1) = s
  by_cases h1 : e = 2047
  · subst h1
    refine Ev.pos rfl ?_
    refine Ev.step (fun _ => shape_Open.j0.eq_2 ..) ?_
    by_cases h2 : fr = 0
    · subst h2
      refine Ev.neg (by decide) (Ev.bs ones64 (Ev.pos rfl (Ev.out ?_)))
      rw [if_neg (by omega), if_neg (by omega), if_pos (by omega)]
    · refine Ev.pos (by simp; omega) (Ev.out ?_)
      rw [if_neg (by omega), if_neg (by omega), if_neg (by omega)]
  · refine Ev.neg (by omega) ?_
    refine Ev.step (fun _ => shape_Open.j0.eq_2 ..) ?_
    refine Ev.neg (by decide) (Ev.bs ones64 (Ev.neg (by omega) ?_))
    by_cases h2 : e = 0
    · subst h2
      refine Ev.pos rfl (Ev.step (fun _ => shape_Open.j1.eq_2 ..) ?_)
      by_cases h3 : fr = 0
      · subst h3
        refine Ev.pos (by decide) (Ev.out ?_)
        rw [Nat.zero_mul, Nat.zero_add, if_pos rfl]
      · refine Ev.neg (by simp; omega) (Ev.pos rfl (Ev.bs low64 (Ev.out ?_)))
        rw [if_neg (by omega), if_pos (by omega), if_pos (by omega), if_pos (by omega)]
        simp
    · refine Ev.neg (by omega) (Ev.step (fun _ => shape_Open.j1.eq_2 ..) ?_)
      refine Ev.neg (by decide) (Ev.neg (by omega) (Ev.bs low64 (Ev.pos (by decide) (Ev.out ?_))))
      rw [if_neg (by omega), if_pos (by omega), if_neg (by omega), if_neg (by omega)]
      rw [w64_id (n := ((e : Nat) : Int)) (by omega) (by omega), w64_id (n := (-1074 : Int) + _) (by omega) (by omega), w64_id (by omega) (by omega)]
      have e4 : shl .u64 1 52 = ((4503599627370496 : Nat) : Int) := by decide +kernel
      rw [e4, u64_or_nat _ _ (by decide) (by omega)]
      have h4 := or_pow fr 1 52 (by rw [show (2 : Nat) ^ 52 = 4503599627370496 by decide]; exact hF)
      rw [Nat.one_mul, show (2 : Nat) ^ 52 = 4503599627370496 by decide, Nat.or_comm] at h4
      rw [h4, Nat.add_comm fr]
      congr 2
      congr 1
      omega

theorem openS (w : Int) (hw : w = 32 ∨ w = 64) (a : Nat) (ha : a < 18446744073709551616) : Ev (fun k => shape_Open.f k w a) (opn w a) := by
  rcases hw with rfl | rfl
  · exact open32 a ha
  · exact open64 a ha
end Go.Proofs.Ytmjfenbbgfohlaa.Th

set_option linter.unusedVariables false
set_option linter.unusedSimpArgs false
namespace Go.Proofs.Ytmjfenbbgfohlaa.Th
open Go.RowKit Go.Proofs.YtmjfenbbgfohlaaW.PrintWords Go.Proofs.YtmjfenbbgfohlaaW.PrintLast Go.Proofs.YtmjfenbbgfohlaaW.PrintMore Go.Proofs.Ytmjfenbbgfohlaa.PA Bit Flo
theorem isnanS (w : Int) (hw : w = 32 ∨ w = 64) (a : Nat) (ha : a < 18446744073709551616) : Ev (fun k => shape_IsNan.f k w a) ((opn w a).2.1 == 3) := by
  unfold shape_IsNan.f
  exact Ev.bind (openS w hw a ha) (Ev.out rfl)
def nanN (w : Int) : Nat := if w = 32 then 2143289344 else 9221120237041090560

/-! ### width 32 -/
theorem join32 (s : Bool) (e fr : Nat) (he : e ≤ 255) (hf : fr < 8388608) : shape_format_join.f 8 23 s e fr = some ((mkN 32 (e * 8388608 + fr) s : Nat) : Int) := by
  unfold shape_format_join.f
  have hs : shape_format_sign.f 8 23 s = some ((((if s then 1 else 0) * 2 ^ 31 : Nat) : Int)) := by cases s <;> decide +kernel
  rw [hs, Option.bind_some, if_pos (by decide)]
  have e1 : shl .u64 (e : Int) 23 = ((e * 8388608 : Nat) : Int) := by
    unfold shl; rw [show min (23 : Int).toNat IntKind.u64.bits = 23 by decide, show (2 : Int) ^ 23 = 8388608 by decide, IntKind.wrap_u64]; omega
  rw [e1]
  have hc : (if s then 1 else 0) ≤ 1 := by cases s <;> decide
  have h2 : mkN 32 (e * 8388608 + fr) s = e * 8388608 + fr + (if s then 1 else 0) * 2147483648 := by
    unfold mkN; rw [show sb 32 = 2147483648 by decide]; cases s <;> simp
  rw [h2]
  generalize (if s then 1 else 0) = c at *
  rw [show (2 : Nat) ^ 31 = 2147483648 by decide, u64_or_nat _ _ (by omega) (by omega)]
  have h3 := or_pow (e * 8388608) c 31 (by rw [show (2 : Nat) ^ 31 = 2147483648 by decide]; omega)
  rw [show (2 : Nat) ^ 31 = 2147483648 by decide, Nat.or_comm] at h3
  rw [h3, u64_or_nat _ _ (by omega) (by omega)]
  have h4 := or_pow fr (e + c * 256) 23 (by rw [show (2 : Nat) ^ 23 = 8388608 by decide]; exact hf)
  rw [show (2 : Nat) ^ 23 = 8388608 by decide, Nat.or_comm, show (e + c * 256) * 8388608 = e * 8388608 + c * 2147483648 by omega] at h4
  rw [h4]
  congr 2
  omega
theorem shNan32 : shape_Nan.f 32 = some ((nanN 32 : Nat) : Int) := by
  unfold shape_Nan.f
  rw [show shape_of.f 32 = some (8, 23, true) by decide, Option.bind_some, if_pos rfl, ones32, Option.bind_some, if_pos (by decide +kernel)]
  have e1 : shl .u64 1 (wrap64 (23 - 1)) = ((4194304 : Nat) : Int) := by decide +kernel
  have e2 := join32 false 255 4194304 (by decide) (by decide)
  simp only [e1]
  rw [show (255 : Int) = ((255 : Nat) : Int) from rfl, e2, Option.bind_some]
  decide
theorem shZero32 (s : Bool) : shape_Zero.f 32 s = some ((mkN 32 0 s : Nat) : Int) := by
  cases s <;> decide +kernel
/-! ### width 64 -/
theorem join64 (s : Bool) (e fr : Nat) (he : e ≤ 2047) (hf : fr < 4503599627370496) : shape_format_join.f 11 52 s e fr = some ((mkN 64 (e * 4503599627370496 + fr) s : Nat) : Int) := by
  unfold shape_format_join.f
  have hs : shape_format_sign.f 11 52 s = some ((((if s then 1 else 0) * 2 ^ 63 : Nat) : Int)) := by cases s <;> decide +kernel
  rw [hs, Option.bind_some, if_pos (by decide)]
  have e1 : shl .u64 (e : Int) 52 = ((e * 4503599627370496 : Nat) : Int) := by
    unfold shl; rw [show min (52 : Int).toNat IntKind.u64.bits = 52 by decide, show (2 : Int) ^ 52 = 4503599627370496 by decide, IntKind.wrap_u64]; omega
  rw [e1]
  have hc : (if s then 1 else 0) ≤ 1 := by cases s <;> decide
  have h2 : mkN 64 (e * 4503599627370496 + fr) s = e * 4503599627370496 + fr + (if s then 1 else 0) * 9223372036854775808 := by
    unfold mkN; rw [show sb 64 = 9223372036854775808 by decide]; cases s <;> simp
  rw [h2]
  generalize (if s then 1 else 0) = c at *
  rw [show (2 : Nat) ^ 63 = 9223372036854775808 by decide, u64_or_nat _ _ (by omega) (by omega)]
  have h3 := or_pow (e * 4503599627370496) c 63 (by rw [show (2 : Nat) ^ 63 = 9223372036854775808 by decide]; omega)
  rw [show (2 : Nat) ^ 63 = 9223372036854775808 by decide, Nat.or_comm] at h3
  rw [h3, u64_or_nat _ _ (by omega) (by omega)]
  have h4 := or_pow fr (e + c * 2048) 52 (by rw [show (2 : Nat) ^ 52 = 4503599627370496 by decide]; exact hf)
  rw [show (2 : Nat) ^ 52 = 4503599627370496 by decide, Nat.or_comm, show (e + c * 2048) * 4503599627370496 = e * 4503599627370496 + c * 9223372036854775808 by omega] at h4
  rw [h4]
  congr 2
  omega
theorem shNan64 : shape_Nan.f 64 = some ((nanN 64 : Nat) : Int) := by
  unfold shape_Nan.f
  rw [show shape_of.f 64 = some (11, 52, true) by decide, Option.bind_some, if_pos rfl, ones64, Option.bind_some, if_pos (by decide +kernel)]
  have e1 : shl .u64 1 (wrap64 (52 - 1)) = ((2251799813685248 : Nat) : Int) := by decide +kernel
  have e2 := join64 false 2047 2251799813685248 (by decide) (by decide)
  simp only [e1]
  rw [show (2047 : Int) = ((2047 : Nat) : Int) from rfl, e2, Option.bind_some]
  decide
theorem shZero64 (s : Bool) : shape_Zero.f 64 s = some ((mkN 64 0 s : Nat) : Int) := by
  cases s <;> decide +kernel
end Go.Proofs.Ytmjfenbbgfohlaa.Th

set_option linter.unusedVariables false
set_option linter.unusedSimpArgs false
namespace Go.Proofs.Ytmjfenbbgfohlaa.Th
open Go.RowKit Go.Proofs.YtmjfenbbgfohlaaW.PrintWords Go.Proofs.YtmjfenbbgfohlaaW.PrintLast Go.Proofs.YtmjfenbbgfohlaaW.PrintMore Go.Proofs.Ytmjfenbbgfohlaa.PA Bit Flo
/-! ### width 32 -/
/-! ### width 64 -/
theorem shZero (w : Int) (hw : w = 32 ∨ w = 64) (s : Bool) : shape_Zero.f w s = some ((mkN w 0 s : Nat) : Int) := by
  rcases hw with rfl | rfl
  · exact shZero32 s
  · exact shZero64 s
theorem shNan (w : Int) (hw : w = 32 ∨ w = 64) : shape_Nan.f w = some ((nanN w : Nat) : Int) := by
  rcases hw with rfl | rfl
  · exact shNan32
  · exact shNan64
end Go.Proofs.Ytmjfenbbgfohlaa.Th

set_option linter.unusedVariables false
set_option linter.unusedSimpArgs false
namespace Go.Proofs.Ytmjfenbbgfohlaa.Th
open Go.RowKit Go.Proofs.YtmjfenbbgfohlaaW.PrintWords Go.Proofs.YtmjfenbbgfohlaaW.PrintLast Go.Proofs.YtmjfenbbgfohlaaW.PrintMore Go.Proofs.Ytmjfenbbgfohlaa.PA Bit Flo
def nn (w : Int) (a : Nat) : Bool := (opn w a).2.1 == 3
def rk (w : Int) (a : Nat) : Int := if sgB w a then -(magN w a : Int) else magN w a
/-- a key that orders the bits: a signed nought is below the other one -/
def ky (w : Int) (a : Nat) : Int := if sgB w a then -(magN w a : Int) - 1 else magN w a
theorem nn_eq (w : Int) (hw : w = 32 ∨ w = 64) (a : Nat) : nn w a = decide ((fmt w).inf < magN w a) := by
  have h0 : 0 < (fmt w).inf := by rcases hw with rfl | rfl <;> decide
  unfold nn opn
  simp only
  split
  · rename_i h; simp [h]
  · split
    · rename_i h; simp; omega
    · split
      · rename_i h; simp [h]
      · simp; omega
theorem opn_sg (w : Int) (a : Nat) (h : nn w a = false) : (opn w a).1 = sgB w a := by
  revert h; unfold nn opn; simp only
  repeat' split
  all_goals simp
theorem known8 (w : Int) : order_known.f w = some (decide (w = 32 ∨ w = 64)) := by
  unfold order_known.f
  by_cases h : w = 32
  · subst h; rfl
  · by_cases h2 : w = 64
    · subst h2; rfl
    · rw [decide_eq_false (by omega)]; simp [h, h2]
theorem bitsMag (w : Int) (hw : w = 32 ∨ w = 64) (a : Nat) (ha : a < 18446744073709551616) : Go.bits .andNot .u64 ((cutN w a : Nat) : Int) ((mkN w 0 true : Nat) : Int) = ((magN w a : Nat) : Int) := by
  have h := absS w hw a ha
  unfold sign_Abs.f at h
  rw [shCut w a ha, Option.bind_some, bitS w hw, Option.bind_some] at h
  rw [show mkN w 0 true = sb w by simp [mkN]]
  exact Option.some.inj h
theorem mag_63 (w : Int) (hw : w = 32 ∨ w = 64) (a : Nat) : magN w a < 9223372036854775808 := by
  have h := magN_lt w hw a
  have : sb w ≤ 9223372036854775808 := by rcases hw with rfl | rfl <;> decide
  omega
theorem rankS (w : Int) (hw : w = 32 ∨ w = 64) (a : Nat) (ha : a < 18446744073709551616) : Ev (fun k => order_Rank.f k w a) (if nn w a then (0, false) else (rk w a, true)) := by
  unfold order_Rank.f
  refine Ev.bind (openS w hw a ha) (Ev.bs (known8 w) ?_)
  rw [decide_eq_true hw]
  refine Ev.pos rfl ?_
  have hm := mag_63 w hw a
  cases hn : nn w a with
  | true => refine Ev.step (fun _ => order_Rank.j0.eq_2 ..) (Ev.pos (by simpa [nn] using hn) (Ev.out rfl))
  | false =>
    refine Ev.step (fun _ => order_Rank.j0.eq_2 ..) (Ev.neg (by rw [show ((opn w a).2.1 == 3) = false from hn]; decide) (Ev.bs (shCut w a ha) (Ev.bs (shZero w hw true) ?_)))
    rw [bitsMag w hw a ha, opn_sg w a hn, w64_id (n := ((magN w a : Nat) : Int)) (by omega) (by omega), w64_id (n := -((magN w a : Nat) : Int)) (by omega) (by omega)]
    unfold rk
    cases hs : sgB w a with
    | true => exact Ev.pos rfl (Ev.out (by simp))
    | false => exact Ev.neg (by decide) (Ev.out (by simp))
theorem eqS (w : Int) (hw : w = 32 ∨ w = 64) (a b : Nat) (ha : a < 18446744073709551616) (hb : b < 18446744073709551616) : Ev (fun k => order_Eq.f k w a b) (!nn w a && !nn w b && decide (rk w a = rk w b)) := by
  unfold order_Eq.f
  refine Ev.bind (rankS w hw a ha) (Ev.bind (rankS w hw b hb) (Ev.out ?_))
  cases nn w a <;> cases nn w b <;> simp <;> rfl
theorem ltS (w : Int) (hw : w = 32 ∨ w = 64) (a b : Nat) (ha : a < 18446744073709551616) (hb : b < 18446744073709551616) : Ev (fun k => order_Lt.f k w a b) (!nn w a && !nn w b && decide (rk w a < rk w b)) := by
  unfold order_Lt.f
  refine Ev.bind (rankS w hw a ha) (Ev.bind (rankS w hw b hb) (Ev.out ?_))
  cases nn w a <;> cases nn w b <;> simp
theorem leS (w : Int) (hw : w = 32 ∨ w = 64) (a b : Nat) (ha : a < 18446744073709551616) (hb : b < 18446744073709551616) : Ev (fun k => order_Le.f k w a b) (!nn w a && !nn w b && decide (rk w a ≤ rk w b)) := by
  unfold order_Le.f
  refine Ev.bind (rankS w hw a ha) (Ev.bind (rankS w hw b hb) (Ev.out ?_))
  cases nn w a <;> cases nn w b <;> simp
theorem gtS (w : Int) (hw : w = 32 ∨ w = 64) (a b : Nat) (ha : a < 18446744073709551616) (hb : b < 18446744073709551616) : Ev (fun k => order_Gt.f k w a b) (!nn w b && !nn w a && decide (rk w b < rk w a)) := by
  unfold order_Gt.f
  exact Ev.bind (ltS w hw b a hb ha) (Ev.out rfl)
theorem neS (w : Int) (hw : w = 32 ∨ w = 64) (a b : Nat) (ha : a < 18446744073709551616) (hb : b < 18446744073709551616) : Ev (fun k => order_Ne.f k w a b) (!(!nn w a && !nn w b && decide (rk w a = rk w b))) := by
  unfold order_Ne.f
  refine Ev.bs (known8 w) ?_
  rw [decide_eq_true hw]
  exact Ev.pos rfl (Ev.bind (eqS w hw a b ha hb) (Ev.out rfl))
theorem cut_as_mk (w : Int) (hw : w = 32 ∨ w = 64) (a : Nat) (ha : a < 18446744073709551616) : cutN w a = mkN w (magN w a) (sgB w a) := by
  rw [cutN_eq w hw a ha]; rfl
theorem cut_lt (w : Int) (hw : w = 32 ∨ w = 64) (a : Nat) (ha : a < 18446744073709551616) : cutN w a < 18446744073709551616 := by
  rw [cut_as_mk w hw a ha]; exact mkN_lt w hw _ _ (magN_lt w hw a)
theorem mag_cut (w : Int) (hw : w = 32 ∨ w = 64) (a : Nat) (ha : a < 18446744073709551616) : magN w (cutN w a) = magN w a := by
  rw [cut_as_mk w hw a ha, mag_mk w hw _ _ (magN_lt w hw a)]
theorem sg_cut (w : Int) (hw : w = 32 ∨ w = 64) (a : Nat) (ha : a < 18446744073709551616) : sgB w (cutN w a) = sgB w a := by
  rw [cut_as_mk w hw a ha, sg_mk w hw _ _ (magN_lt w hw a)]
theorem nn_cut (w : Int) (hw : w = 32 ∨ w = 64) (a : Nat) (ha : a < 18446744073709551616) : nn w (cutN w a) = nn w a := by
  rw [nn_eq w hw, nn_eq w hw, mag_cut w hw a ha]
theorem rk_cut (w : Int) (hw : w = 32 ∨ w = 64) (a : Nat) (ha : a < 18446744073709551616) : rk w (cutN w a) = rk w a := by
  unfold rk; rw [mag_cut w hw a ha, sg_cut w hw a ha]
theorem ky_cut (w : Int) (hw : w = 32 ∨ w = 64) (a : Nat) (ha : a < 18446744073709551616) : ky w (cutN w a) = ky w a := by
  unfold ky; rw [mag_cut w hw a ha, sg_cut w hw a ha]
theorem ky_inj (w : Int) (hw : w = 32 ∨ w = 64) (a b : Nat) (ha : a < 18446744073709551616) (hb : b < 18446744073709551616) (h : ky w a = ky w b) : cutN w a = cutN w b := by
  rw [cut_as_mk w hw a ha, cut_as_mk w hw b hb]
  unfold ky at h
  cases hs : sgB w a <;> cases ht : sgB w b <;> simp [hs, ht] at h
  · rw [show magN w a = magN w b by omega]
  · omega
  · omega
  · rw [show magN w a = magN w b by omega]
theorem nan_nn (w : Int) (hw : w = 32 ∨ w = 64) : nn w (nanN w) = true := by rcases hw with rfl | rfl <;> decide +kernel
theorem nan_64 (w : Int) (hw : w = 32 ∨ w = 64) : nanN w < 18446744073709551616 := by rcases hw with rfl | rfl <;> decide
def pkN (w : Int) (a b : Nat) (neg first : Bool) : Nat := if nn w a || nn w b then nanN w else if rk w a = rk w b then (if sgB w a = neg then cutN w a else cutN w b) else if first then cutN w a else cutN w b
theorem pickS (w : Int) (hw : w = 32 ∨ w = 64) (a b : Nat) (ha : a < 18446744073709551616) (hb : b < 18446744073709551616) (neg first : Bool) : Ev (fun k => order_pick.f k w a b neg first) ((pkN w a b neg first : Nat) : Int) := by
  have ha' := cut_lt w hw a ha
  have hb' := cut_lt w hw b hb
  unfold order_pick.f
  refine Ev.bs (shCut w a ha) (Ev.bs (shCut w b hb) (Ev.bs (known8 w) ?_))
  rw [decide_eq_true hw]
  refine Ev.pos rfl (Ev.bind (show Ev _ (nn w (cutN w a)) from isnanS w hw _ ha') ?_)
  rw [nn_cut w hw a ha]
  cases hn : nn w a with
  | true => refine Ev.pos rfl (Ev.step (fun _ => order_pick.j0.eq_2 ..) (Ev.pos rfl (Ev.bs (shNan w hw) (Ev.out (by simp [pkN, hn])))))
  | false =>
    refine Ev.neg (by decide) (Ev.bind (show Ev _ (nn w (cutN w b)) from isnanS w hw _ hb') ?_)
    rw [nn_cut w hw b hb]
    cases hm : nn w b with
    | true => refine Ev.step (fun _ => order_pick.j0.eq_2 ..) (Ev.pos rfl (Ev.bs (shNan w hw) (Ev.out (by simp [pkN, hm]))))
    | false =>
      refine Ev.step (fun _ => order_pick.j0.eq_2 ..) (Ev.neg (by decide) (Ev.bind (eqS w hw _ _ ha' hb') ?_))
      rw [nn_cut w hw b hb, nn_cut w hw a ha, hn, hm, rk_cut w hw a ha, rk_cut w hw b hb]
      by_cases he : rk w a = rk w b
      · rw [decide_eq_true he]
        refine Ev.pos rfl (Ev.bind (openS w hw _ ha') ?_)
        rw [opn_sg w _ (by rw [nn_cut w hw a ha]; exact hn), sg_cut w hw a ha]
        by_cases hg : sgB w a = neg
        · exact Ev.pos (by simp [hg]) (Ev.out (by simp [pkN, hn, hm, he, hg]))
        · exact Ev.neg (by simp [hg]) (Ev.out (by simp [pkN, hn, hm, he, hg]))
      · rw [decide_eq_false he]
        refine Ev.neg (by decide) ?_
        cases first with
        | true => exact Ev.pos rfl (Ev.out (by simp [pkN, hn, hm, he]))
        | false => exact Ev.neg (by decide) (Ev.out (by simp [pkN, hn, hm, he]))
def mnN (w : Int) (a b : Nat) : Nat := if nn w a || nn w b then nanN w else if ky w a ≤ ky w b then cutN w a else cutN w b
def mxN (w : Int) (a b : Nat) : Nat := if nn w a || nn w b then nanN w else if ky w b ≤ ky w a then cutN w a else cutN w b
theorem minS (w : Int) (hw : w = 32 ∨ w = 64) (a b : Nat) (ha : a < 18446744073709551616) (hb : b < 18446744073709551616) : Ev (fun k => order_Min.f k w a b) ((mnN w a b : Nat) : Int) := by
  unfold order_Min.f
  refine Ev.bind (ltS w hw a b ha hb) (Ev.bind (pickS w hw a b ha hb _ _) (Ev.out ?_))
  congr 1
  have h0 := cut_as_mk w hw a ha
  have h1 := cut_as_mk w hw b hb
  unfold pkN mnN
  by_cases hn : nn w a || nn w b
  · rw [if_pos hn, if_pos hn]
  · rw [if_neg hn, if_neg hn]
    simp only [Bool.or_eq_true, not_or, Bool.not_eq_true] at hn
    rw [hn.1, hn.2]
    simp only [Bool.not_false, Bool.true_and, decide_eq_true_eq]
    rw [h0, h1]
    unfold rk ky
    cases hs : sgB w a <;> cases ht : sgB w b <;> simp only [if_true, if_false, Bool.false_eq_true]
    all_goals (repeat' split)
    all_goals first
      | rfl
      | (exfalso; omega)
      | (congr 1; omega)
theorem maxS (w : Int) (hw : w = 32 ∨ w = 64) (a b : Nat) (ha : a < 18446744073709551616) (hb : b < 18446744073709551616) : Ev (fun k => order_Max.f k w a b) ((mxN w a b : Nat) : Int) := by
  unfold order_Max.f
  refine Ev.bind (gtS w hw a b ha hb) (Ev.bind (pickS w hw a b ha hb _ _) (Ev.out ?_))
  congr 1
  have h0 := cut_as_mk w hw a ha
  have h1 := cut_as_mk w hw b hb
  unfold pkN mxN
  by_cases hn : nn w a || nn w b
  · rw [if_pos hn, if_pos hn]
  · rw [if_neg hn, if_neg hn]
    simp only [Bool.or_eq_true, not_or, Bool.not_eq_true] at hn
    rw [hn.1, hn.2]
    simp only [Bool.not_false, Bool.true_and, decide_eq_true_eq]
    rw [h0, h1]
    unfold rk ky
    cases hs : sgB w a <;> cases ht : sgB w b <;> simp only [if_true, if_false, Bool.false_eq_true, reduceCtorEq]
    all_goals (repeat' split)
    all_goals first
      | rfl
      | (exfalso; omega)
      | (congr 1; omega)
theorem awake08 : Ev (fun k => trunnionlaw08_awake.f k) true := by
  unfold trunnionlaw08_awake.f
  have h1 := minS 64 (Or.inr rfl) 0 9223372036854775808 (by decide) (by decide)
  have h2 := ltS 64 (Or.inr rfl) (nanN 64) 4607182418800017408 (by decide) (by decide)
  have h3 := neS 64 (Or.inr rfl) (nanN 64) (nanN 64) (by decide) (by decide)
  have h4 := gtS 64 (Or.inr rfl) 4607182418800017408 9223372036854775808 (by decide) (by decide)
  refine Ev.bs (shNan 64 (Or.inr rfl)) (Ev.bind h1 ?_)
  rw [show mnN 64 0 9223372036854775808 = 9223372036854775808 by decide +kernel]
  refine Ev.pos rfl (Ev.neg (by decide) (Ev.bind h2 ?_))
  rw [show (!nn 64 (nanN 64) && !nn 64 4607182418800017408 && decide (rk 64 (nanN 64) < rk 64 4607182418800017408)) = false by decide +kernel]
  refine Ev.neg (by decide) (Ev.bind h3 (Ev.pos (by decide +kernel) (Ev.bind h4 (Ev.out (by decide +kernel)))))
end Go.Proofs.Ytmjfenbbgfohlaa.Th

set_option linter.unusedVariables false
set_option linter.unusedSimpArgs false
namespace Go.Proofs.Ytmjfenbbgfohlaa.Th
open Go.RowKit Go.Proofs.YtmjfenbbgfohlaaW.PrintWords Go.Proofs.YtmjfenbbgfohlaaW.PrintLast Go.Proofs.YtmjfenbbgfohlaaW.PrintMore Go.Proofs.Ytmjfenbbgfohlaa.PA Bit Flo
theorem mn_comm (w : Int) (hw : w = 32 ∨ w = 64) (a b : Nat) (ha : a < 18446744073709551616) (hb : b < 18446744073709551616) : mnN w a b = mnN w b a := by
  unfold mnN
  rw [Bool.or_comm]
  split
  · rfl
  · split <;> split
    · exact ky_inj w hw a b ha hb (by omega)
    · rfl
    · rfl
    · omega
theorem mx_comm (w : Int) (hw : w = 32 ∨ w = 64) (a b : Nat) (ha : a < 18446744073709551616) (hb : b < 18446744073709551616) : mxN w a b = mxN w b a := by
  unfold mxN
  rw [Bool.or_comm]
  split
  · rfl
  · split <;> split
    · exact ky_inj w hw a b ha hb (by omega)
    · rfl
    · rfl
    · omega
theorem ky_le_rk (w : Int) (a b : Nat) (h : ky w a ≤ ky w b) : rk w a ≤ rk w b := by
  revert h; unfold ky rk
  cases sgB w a <;> cases sgB w b <;> simp <;> omega
theorem mn_lt (w : Int) (hw : w = 32 ∨ w = 64) (a b : Nat) (ha : a < 18446744073709551616) (hb : b < 18446744073709551616) : mnN w a b < 18446744073709551616 := by
  have := cut_lt w hw a ha; have := cut_lt w hw b hb; have := nan_64 w hw
  unfold mnN; repeat' split
  all_goals assumption
theorem mx_lt (w : Int) (hw : w = 32 ∨ w = 64) (a b : Nat) (ha : a < 18446744073709551616) (hb : b < 18446744073709551616) : mxN w a b < 18446744073709551616 := by
  have := cut_lt w hw a ha; have := cut_lt w hw b hb; have := nan_64 w hw
  unfold mxN; repeat' split
  all_goals assumption
theorem nn_mn (w : Int) (hw : w = 32 ∨ w = 64) (a b : Nat) (ha : a < 18446744073709551616) (hb : b < 18446744073709551616) : nn w (mnN w a b) = (nn w a || nn w b) := by
  unfold mnN
  split
  · rename_i h; rw [nan_nn w hw, h]
  · rename_i h; simp at h; split
    · rw [nn_cut w hw a ha, h.1, h.2]; rfl
    · rw [nn_cut w hw b hb, h.1, h.2]; rfl
theorem nn_mx (w : Int) (hw : w = 32 ∨ w = 64) (a b : Nat) (ha : a < 18446744073709551616) (hb : b < 18446744073709551616) : nn w (mxN w a b) = (nn w a || nn w b) := by
  unfold mxN
  split
  · rename_i h; rw [nan_nn w hw, h]
  · rename_i h; simp at h; split
    · rw [nn_cut w hw a ha, h.1, h.2]; rfl
    · rw [nn_cut w hw b hb, h.1, h.2]; rfl
theorem keep_step (x0 x1 x2 x7 x8 x9 i : Int) (l : List Bool) (p : Bool) (r : Bool) (h1 : 0 ≤ i) (h2 : i < (l.length : Int)) (h3 : rdOf false l i = p) (h : Ev (fun k => trunnionlaw08_OrderKeeps.l0 k x0 x1 x2 x7 x8 (if p then wrap64 (x9 + 1) else x9) l (l.length : Int) (wrap64 (i + 1))) r) : Ev (fun k => trunnionlaw08_OrderKeeps.l0 k x0 x1 x2 x7 x8 x9 l (l.length : Int) i) r := by
  refine Ev.step (fun _ => trunnionlaw08_OrderKeeps.l0.eq_2 ..) (Ev.pos h2 (Ev.pos h1 (Ev.pos h2 ?_)))
  rw [h3]
  cases p with
  | true => exact Ev.pos rfl h
  | false => exact Ev.neg (by decide) h
theorem OrderKeepsP : trunnionlaw08_OrderKeeps.Pure := by
  intro w a b hw0 ha0 hb0
  obtain ⟨ha1, ha2⟩ := wf_u64 ha0
  obtain ⟨a, rfl⟩ := Int.eq_ofNat_of_zero_le ha1
  have ha : a < 18446744073709551616 := by omega
  obtain ⟨hb1, hb2⟩ := wf_u64 hb0
  obtain ⟨b, rfl⟩ := Int.eq_ofNat_of_zero_le hb1
  have hb : b < 18446744073709551616 := by omega
  refine Ev.rounds ?_
  unfold trunnionlaw08_OrderKeeps.f
  refine Ev.bind awake08 (Ev.pos rfl ?_)
  by_cases hw : w = 32 ∨ w = 64
  · have main : Ev (fun k => trunnionlaw08_OrderKeeps.j0 k w a b false) true := by
      refine Ev.step (fun _ => trunnionlaw08_OrderKeeps.j0.eq_2 ..) (Ev.neg (by decide) (Ev.bind (minS w hw a b ha hb) (Ev.bind (maxS w hw a b ha hb) (Ev.bind (minS w hw b a hb ha) (Ev.pos (by rw [mn_comm w hw a b ha hb]) (Ev.bind (maxS w hw b a hb ha) ?_))))))
      rw [mx_comm w hw b a hb ha, show (((mxN w a b : Nat) : Int) != ((mxN w a b : Nat) : Int)) = false by simp]
      refine Ev.step (fun _ => trunnionlaw08_OrderKeeps.j1.eq_2 ..) (Ev.neg (by decide) (Ev.bind (ltS w hw a b ha hb) (Ev.bind (eqS w hw a b ha hb) (Ev.bind (gtS w hw a b ha hb) (Ev.bs rfl ?_)))))
      obtain ⟨p, hp⟩ : ∃ p, (!nn w a && !nn w b && decide (rk w a < rk w b)) = p := ⟨_, rfl⟩
      obtain ⟨q, hq⟩ : ∃ p, (!nn w a && !nn w b && decide (rk w a = rk w b)) = p := ⟨_, rfl⟩
      obtain ⟨r, hr⟩ : ∃ p, (!nn w b && !nn w a && decide (rk w b < rk w a)) = p := ⟨_, rfl⟩
      rw [hp, hq, hr]
      refine keep_step _ _ _ _ _ _ _ _ p _ (by decide) (by simp) rfl ?_
      rw [show wrap64 (0 + 1) = 1 by decide +kernel]
      refine keep_step _ _ _ _ _ _ _ _ q _ (by decide) (by simp) rfl ?_
      rw [show wrap64 (1 + 1) = 2 by decide +kernel]
      refine keep_step _ _ _ _ _ _ _ _ r _ (by decide) (by simp) rfl ?_
      rw [show wrap64 (2 + 1) = 3 by decide +kernel]
      refine Ev.step (fun _ => trunnionlaw08_OrderKeeps.l0.eq_2 ..) (Ev.neg (by simp) (Ev.bind (show Ev _ (nn w a) from isnanS w hw a ha) ?_))
      by_cases hn : (nn w a || nn w b) = true
      · have hj : Ev (fun k => trunnionlaw08_OrderKeeps.j3 k w a b (mnN w a b : Nat) (mxN w a b : Nat) 0 true) true := by
          refine Ev.step (fun _ => trunnionlaw08_OrderKeeps.j3.eq_2 ..) (Ev.pos rfl (Ev.pos rfl (Ev.bs (shNan w hw) (Ev.pos ?_ (Ev.out ?_)))))
          · rw [mnN, if_pos hn]
          · rw [mnN, mxN, if_pos hn, if_pos hn]; simp
        have e : p = false ∧ q = false ∧ r = false := by
          subst hp hq hr
          revert hn; cases nn w a <;> cases nn w b <;> simp
        obtain ⟨rfl, rfl, rfl⟩ := e
        revert hn
        cases nn w a with
        | true => intro _; exact Ev.pos rfl hj
        | false =>
          intro hn
          refine Ev.neg (by decide) (Ev.bind (show Ev _ (nn w b) from isnanS w hw b hb) ?_)
          simp at hn
          rw [hn]; exact hj
      · simp only [Bool.or_eq_true, not_or, Bool.not_eq_true] at hn
        rw [hn.1]
        refine Ev.neg (by decide) (Ev.bind (show Ev _ (nn w b) from isnanS w hw b hb) ?_)
        rw [hn.2]
        have hone : (if r then wrap64 ((if q then wrap64 ((if p then (1 : Int) else 0) + 1) else (if p then 1 else 0)) + 1) else (if q then wrap64 ((if p then 1 else 0) + 1) else (if p then 1 else 0))) = 1 := by
          subst hp hq hr
          rw [hn.1, hn.2]
          rcases Int.lt_trichotomy (rk w a) (rk w b) with h | h | h
          · rw [decide_eq_true h, decide_eq_false (show ¬ rk w a = rk w b by omega), decide_eq_false (show ¬ rk w b < rk w a by omega)]; decide
          · rw [decide_eq_false (show ¬ rk w a < rk w b by omega), decide_eq_true h, decide_eq_false (show ¬ rk w b < rk w a by omega)]; decide +kernel
          · rw [decide_eq_false (show ¬ rk w a < rk w b by omega), decide_eq_false (show ¬ rk w a = rk w b by omega), decide_eq_true h]; decide +kernel
        rw [hone]
        have ca := cut_lt w hw a ha
        have cb := cut_lt w hw b hb
        refine Ev.step (fun _ => trunnionlaw08_OrderKeeps.j3.eq_2 ..) (Ev.neg (by decide) (Ev.bs (shCut w a ha) (Ev.bs (shCut w b hb) (Ev.pos rfl ?_))))
        have e1 : mnN w a b = if ky w a ≤ ky w b then cutN w a else cutN w b := by unfold mnN; rw [hn.1, hn.2]; rfl
        have e2 : mxN w a b = if ky w b ≤ ky w a then cutN w a else cutN w b := by unfold mxN; rw [hn.1, hn.2]; rfl
        have hle : Ev (fun k => (order_Le.f k w (mnN w a b : Nat) (mxN w a b : Nat)).bind fun t => some t) true := by
          refine Ev.bind (leS w hw _ _ (mn_lt w hw a b ha hb) (mx_lt w hw a b ha hb)) (Ev.out ?_)
          rw [nn_mn w hw a b ha hb, nn_mx w hw a b ha hb, hn.1, hn.2, e1, e2]
          simp only [Bool.or_self, Bool.not_false, Bool.true_and, decide_eq_true_eq]
          apply ky_le_rk
          by_cases c1 : ky w a ≤ ky w b <;> by_cases c2 : ky w b ≤ ky w a <;> simp only [c1, c2, if_true, if_false, ky_cut w hw a ha, ky_cut w hw b hb] <;> omega
        by_cases c0 : cutN w a = cutN w b
        · have e3 : mnN w a b = cutN w a := by rw [e1]; split; rfl; exact c0.symm
          have e4 : mxN w a b = cutN w b := by rw [e2]; split; exact c0; rfl
          exact Ev.pos (by rw [e3]) (Ev.pos (by rw [e4]) hle)
        · by_cases c1 : ky w a ≤ ky w b
          · have c2 : ¬ ky w b ≤ ky w a := fun h => c0 (ky_inj w hw a b ha hb (by omega))
            exact Ev.pos (by rw [e1, if_pos c1]) (Ev.pos (by rw [e2, if_neg c2]) hle)
          · exact Ev.neg (by rw [e1, if_neg c1]; omega) (Ev.pos (by rw [e1, if_neg c1]) (Ev.pos (by rw [e2, if_pos (by omega)]) hle))
    by_cases h32 : w = 32
    · exact Ev.pos h32 main
    · refine Ev.neg h32 ?_
      rw [show (w != 64) = false by simp; omega]
      exact main
  · refine Ev.neg (by omega) (Ev.step (fun _ => trunnionlaw08_OrderKeeps.j0.eq_2 ..) (Ev.pos (by simp; omega) (Ev.out rfl)))
end Go.Proofs.Ytmjfenbbgfohlaa.Th

namespace Go.Proofs.Ytmjfenbbgfohlaa.Pure
theorem OrderKeeps : Go.Proofs.Ytmjfenbbgfohlaa.PA.trunnionlaw08_OrderKeeps.Pure := Go.Proofs.Ytmjfenbbgfohlaa.Th.OrderKeepsP
end Go.Proofs.Ytmjfenbbgfohlaa.Pure

namespace Go.Proofs.Ytmjfenbbgfohlaa.Facts
theorem words_word (w : List Char) (r : List Char) (h : w.all (fun c => c != Char.ofNat 32) = true) : wordsSigns (w ++ Char.ofNat 32 :: r) = w :: wordsSigns r := by
  induction w with
  | nil => rfl
  | cons c w ih =>
    rw [List.all_cons, Bool.and_eq_true] at h
    have hc : c ≠ Char.ofNat 32 := bne_iff_ne.1 h.1
    rw [List.cons_append]
    rw [wordsSigns.eq_3 c _ (fun e => hc e), ih h.2]
def w1 : List Char := [Char.ofNat 104, Char.ofNat 97, Char.ofNat 114, Char.ofNat 110, Char.ofNat 101, Char.ofNat 115, Char.ofNat 115]
def w2 : List Char := [Char.ofNat 101, Char.ofNat 57, Char.ofNat 57, Char.ofNat 97, Char.ofNat 57, Char.ofNat 55, Char.ofNat 53, Char.ofNat 98, Char.ofNat 102, Char.ofNat 48, Char.ofNat 101, Char.ofNat 53, Char.ofNat 99, Char.ofNat 55, Char.ofNat 52, Char.ofNat 56, Char.ofNat 48, Char.ofNat 48, Char.ofNat 48, Char.ofNat 98, Char.ofNat 51, Char.ofNat 97, Char.ofNat 56, Char.ofNat 52, Char.ofNat 54, Char.ofNat 50, Char.ofNat 99, Char.ofNat 99, Char.ofNat 52, Char.ofNat 50, Char.ofNat 57, Char.ofNat 51, Char.ofNat 51, Char.ofNat 49, Char.ofNat 51, Char.ofNat 99, Char.ofNat 57, Char.ofNat 55, Char.ofNat 51, Char.ofNat 57, Char.ofNat 52, Char.ofNat 98, Char.ofNat 52, Char.ofNat 51, Char.ofNat 57, Char.ofNat 101, Char.ofNat 54, Char.ofNat 51, Char.ofNat 53, Char.ofNat 55, Char.ofNat 52, Char.ofNat 56, Char.ofNat 49, Char.ofNat 54, Char.ofNat 97, Char.ofNat 56, Char.ofNat 56, Char.ofNat 51, Char.ofNat 98, Char.ofNat 49, Char.ofNat 50, Char.ofNat 52, Char.ofNat 48, Char.ofNat 56]
def w3 : List Char := [Char.ofNat 99, Char.ofNat 117, Char.ofNat 116]
set_option maxRecDepth 100000 in
def tailSigns : List Char := [Char.ofNat 97, Char.ofNat 116, Char.ofNat 32, Char.ofNat 116, Char.ofNat 114, Char.ofNat 117, Char.ofNat 110, Char.ofNat 110, Char.ofNat 105, Char.ofNat 111, Char.ofNat 110, Char.ofNat 47, Char.ofNat 116, Char.ofNat 114, Char.ofNat 117, Char.ofNat 110, Char.ofNat 110, Char.ofNat 105, Char.ofNat 111, Char.ofNat 110, Char.ofNat 108, Char.ofNat 97, Char.ofNat 119, Char.ofNat 49, Char.ofNat 48, Char.ofNat 46, Char.ofNat 83, Char.ofNat 105, Char.ofNat 103, Char.ofNat 110, Char.ofNat 65, Char.ofNat 103, Char.ofNat 97, Char.ofNat 105, Char.ofNat 110, Char.ofNat 32, Char.ofNat 116, Char.ofNat 114, Char.ofNat 117, Char.ofNat 110, Char.ofNat 110, Char.ofNat 105, Char.ofNat 111, Char.ofNat 110, Char.ofNat 47, Char.ofNat 116, Char.ofNat 114, Char.ofNat 117, Char.ofNat 110, Char.ofNat 110, Char.ofNat 105, Char.ofNat 111, Char.ofNat 110, Char.ofNat 108, Char.ofNat 97, Char.ofNat 119, Char.ofNat 49, Char.ofNat 48, Char.ofNat 46, Char.ofNat 83, Char.ofNat 105, Char.ofNat 103, Char.ofNat 110, Char.ofNat 84, Char.ofNat 117, Char.ofNat 114, Char.ofNat 110, Char.ofNat 115, Char.ofNat 32, Char.ofNat 116, Char.ofNat 114, Char.ofNat 117, Char.ofNat 110, Char.ofNat 110, Char.ofNat 105, Char.ofNat 111, Char.ofNat 110, Char.ofNat 47, Char.ofNat 116, Char.ofNat 114, Char.ofNat 117, Char.ofNat 110, Char.ofNat 110, Char.ofNat 105, Char.ofNat 111, Char.ofNat 110, Char.ofNat 108, Char.ofNat 97, Char.ofNat 119, Char.ofNat 49, Char.ofNat 48, Char.ofNat 46, Char.ofNat 83, Char.ofNat 105, Char.ofNat 103, Char.ofNat 110, Char.ofNat 66, Char.ofNat 97, Char.ofNat 99, Char.ofNat 107, Char.ofNat 32, Char.ofNat 116, Char.ofNat 114, Char.ofNat 117, Char.ofNat 110, Char.ofNat 110, Char.ofNat 105, Char.ofNat 111, Char.ofNat 110, Char.ofNat 47, Char.ofNat 116, Char.ofNat 114, Char.ofNat 117, Char.ofNat 110, Char.ofNat 110, Char.ofNat 105, Char.ofNat 111, Char.ofNat 110, Char.ofNat 108, Char.ofNat 97, Char.ofNat 119, Char.ofNat 49, Char.ofNat 51, Char.ofNat 46, Char.ofNat 73, Char.ofNat 110, Char.ofNat 116, Char.ofNat 115, Char.ofNat 83, Char.ofNat 117, Char.ofNat 109, Char.ofNat 115, Char.ofNat 32, Char.ofNat 116, Char.ofNat 114, Char.ofNat 117, Char.ofNat 110, Char.ofNat 110, Char.ofNat 105, Char.ofNat 111, Char.ofNat 110, Char.ofNat 47, Char.ofNat 116, Char.ofNat 114, Char.ofNat 117, Char.ofNat 110, Char.ofNat 110, Char.ofNat 105, Char.ofNat 111, Char.ofNat 110, Char.ofNat 108, Char.ofNat 97, Char.ofNat 119, Char.ofNat 48, Char.ofNat 50, Char.ofNat 46, Char.ofNat 83, Char.ofNat 104, Char.ofNat 97, Char.ofNat 112, Char.ofNat 101, Char.ofNat 79, Char.ofNat 114, Char.ofNat 100, Char.ofNat 101, Char.ofNat 114, Char.ofNat 32, Char.ofNat 116, Char.ofNat 114, Char.ofNat 117, Char.ofNat 110, Char.ofNat 110, Char.ofNat 105, Char.ofNat 111, Char.ofNat 110, Char.ofNat 47, Char.ofNat 116, Char.ofNat 114, Char.ofNat 117, Char.ofNat 110, Char.ofNat 110, Char.ofNat 105, Char.ofNat 111, Char.ofNat 110, Char.ofNat 108, Char.ofNat 97, Char.ofNat 119, Char.ofNat 48, Char.ofNat 50, Char.ofNat 46, Char.ofNat 83, Char.ofNat 104, Char.ofNat 97, Char.ofNat 112, Char.ofNat 101, Char.ofNat 79, Char.ofNat 112, Char.ofNat 101, Char.ofNat 110, Char.ofNat 115, Char.ofNat 32, Char.ofNat 116, Char.ofNat 114, Char.ofNat 117, Char.ofNat 110, Char.ofNat 110, Char.ofNat 105, Char.ofNat 111, Char.ofNat 110, Char.ofNat 47, Char.ofNat 116, Char.ofNat 114, Char.ofNat 117, Char.ofNat 110, Char.ofNat 110, Char.ofNat 105, Char.ofNat 111, Char.ofNat 110, Char.ofNat 108, Char.ofNat 97, Char.ofNat 119, Char.ofNat 49, Char.ofNat 51, Char.ofNat 46, Char.ofNat 73, Char.ofNat 110, Char.ofNat 116, Char.ofNat 115, Char.ofNat 83, Char.ofNat 104, Char.ofNat 105, Char.ofNat 102, Char.ofNat 116, Char.ofNat 115, Char.ofNat 32, Char.ofNat 116, Char.ofNat 114, Char.ofNat 117, Char.ofNat 110, Char.ofNat 110, Char.ofNat 105, Char.ofNat 111, Char.ofNat 110, Char.ofNat 47, Char.ofNat 116, Char.ofNat 114, Char.ofNat 117, Char.ofNat 110, Char.ofNat 110, Char.ofNat 105, Char.ofNat 111, Char.ofNat 110, Char.ofNat 108, Char.ofNat 97, Char.ofNat 119, Char.ofNat 48, Char.ofNat 49, Char.ofNat 46, Char.ofNat 87, Char.ofNat 105, Char.ofNat 100, Char.ofNat 101, Char.ofNat 82, Char.ofNat 111, Char.ofNat 111, Char.ofNat 116, Char.ofNat 115, Char.ofNat 32, Char.ofNat 116, Char.ofNat 114, Char.ofNat 117, Char.ofNat 110, Char.ofNat 110, Char.ofNat 105, Char.ofNat 111, Char.ofNat 110, Char.ofNat 47, Char.ofNat 116, Char.ofNat 114, Char.ofNat 117, Char.ofNat 110, Char.ofNat 110, Char.ofNat 105, Char.ofNat 111, Char.ofNat 110, Char.ofNat 108, Char.ofNat 97, Char.ofNat 119, Char.ofNat 48, Char.ofNat 50, Char.ofNat 46, Char.ofNat 83, Char.ofNat 104, Char.ofNat 97, Char.ofNat 112, Char.ofNat 101, Char.ofNat 69, Char.ofNat 110, Char.ofNat 100, Char.ofNat 115, Char.ofNat 32, Char.ofNat 116, Char.ofNat 114, Char.ofNat 117, Char.ofNat 110, Char.ofNat 110, Char.ofNat 105, Char.ofNat 111, Char.ofNat 110, Char.ofNat 47, Char.ofNat 116, Char.ofNat 114, Char.ofNat 117, Char.ofNat 110, Char.ofNat 110, Char.ofNat 105, Char.ofNat 111, Char.ofNat 110, Char.ofNat 108, Char.ofNat 97, Char.ofNat 119, Char.ofNat 49, Char.ofNat 51, Char.ofNat 46, Char.ofNat 73, Char.ofNat 110, Char.ofNat 116, Char.ofNat 115, Char.ofNat 68, Char.ofNat 105, Char.ofNat 118, Char.ofNat 115, Char.ofNat 32, Char.ofNat 116, Char.ofNat 114, Char.ofNat 117, Char.ofNat 110, Char.ofNat 110, Char.ofNat 105, Char.ofNat 111, Char.ofNat 110, Char.ofNat 47, Char.ofNat 116, Char.ofNat 114, Char.ofNat 117, Char.ofNat 110, Char.ofNat 110, Char.ofNat 105, Char.ofNat 111, Char.ofNat 110, Char.ofNat 108, Char.ofNat 97, Char.ofNat 119, Char.ofNat 49, Char.ofNat 51, Char.ofNat 46, Char.ofNat 73, Char.ofNat 110, Char.ofNat 116, Char.ofNat 115, Char.ofNat 80, Char.ofNat 111, Char.ofNat 119, Char.ofNat 101, Char.ofNat 114, Char.ofNat 115, Char.ofNat 32, Char.ofNat 116, Char.ofNat 114, Char.ofNat 117, Char.ofNat 110, Char.ofNat 110, Char.ofNat 105, Char.ofNat 111, Char.ofNat 110, Char.ofNat 47, Char.ofNat 116, Char.ofNat 114, Char.ofNat 117, Char.ofNat 110, Char.ofNat 110, Char.ofNat 105, Char.ofNat 111, Char.ofNat 110, Char.ofNat 108, Char.ofNat 97, Char.ofNat 119, Char.ofNat 48, Char.ofNat 49, Char.ofNat 46, Char.ofNat 87, Char.ofNat 105, Char.ofNat 100, Char.ofNat 101, Char.ofNat 83, Char.ofNat 104, Char.ofNat 105, Char.ofNat 102, Char.ofNat 116, Char.ofNat 115, Char.ofNat 32, Char.ofNat 116, Char.ofNat 114, Char.ofNat 117, Char.ofNat 110, Char.ofNat 110, Char.ofNat 105, Char.ofNat 111, Char.ofNat 110, Char.ofNat 47, Char.ofNat 116, Char.ofNat 114, Char.ofNat 117, Char.ofNat 110, Char.ofNat 110, Char.ofNat 105, Char.ofNat 111, Char.ofNat 110, Char.ofNat 108, Char.ofNat 97, Char.ofNat 119, Char.ofNat 48, Char.ofNat 49, Char.ofNat 46, Char.ofNat 87, Char.ofNat 105, Char.ofNat 100, Char.ofNat 101, Char.ofNat 76, Char.ofNat 101, Char.ofNat 110, Char.ofNat 115, Char.ofNat 32, Char.ofNat 116, Char.ofNat 114, Char.ofNat 117, Char.ofNat 110, Char.ofNat 110, Char.ofNat 105, Char.ofNat 111, Char.ofNat 110, Char.ofNat 47, Char.ofNat 116, Char.ofNat 114, Char.ofNat 117, Char.ofNat 110, Char.ofNat 110, Char.ofNat 105, Char.ofNat 111, Char.ofNat 110, Char.ofNat 108, Char.ofNat 97, Char.ofNat 119, Char.ofNat 48, Char.ofNat 49, Char.ofNat 46, Char.ofNat 87, Char.ofNat 105, Char.ofNat 100, Char.ofNat 101, Char.ofNat 83, Char.ofNat 117, Char.ofNat 109, Char.ofNat 115, Char.ofNat 32, Char.ofNat 116, Char.ofNat 114, Char.ofNat 117, Char.ofNat 110, Char.ofNat 110, Char.ofNat 105, Char.ofNat 111, Char.ofNat 110, Char.ofNat 47, Char.ofNat 116, Char.ofNat 114, Char.ofNat 117, Char.ofNat 110, Char.ofNat 110, Char.ofNat 105, Char.ofNat 111, Char.ofNat 110, Char.ofNat 108, Char.ofNat 97, Char.ofNat 119, Char.ofNat 48, Char.ofNat 56, Char.ofNat 46, Char.ofNat 79, Char.ofNat 114, Char.ofNat 100, Char.ofNat 101, Char.ofNat 114, Char.ofNat 80, Char.ofNat 105, Char.ofNat 99, Char.ofNat 107, Char.ofNat 115, Char.ofNat 32, Char.ofNat 116, Char.ofNat 114, Char.ofNat 117, Char.ofNat 110, Char.ofNat 110, Char.ofNat 105, Char.ofNat 111, Char.ofNat 110, Char.ofNat 47, Char.ofNat 116, Char.ofNat 114, Char.ofNat 117, Char.ofNat 110, Char.ofNat 110, Char.ofNat 105, Char.ofNat 111, Char.ofNat 110, Char.ofNat 108, Char.ofNat 97, Char.ofNat 119, Char.ofNat 48, Char.ofNat 50, Char.ofNat 46, Char.ofNat 83, Char.ofNat 104, Char.ofNat 97, Char.ofNat 112, Char.ofNat 101, Char.ofNat 66, Char.ofNat 97, Char.ofNat 99, Char.ofNat 107, Char.ofNat 32, Char.ofNat 116, Char.ofNat 114, Char.ofNat 117, Char.ofNat 110, Char.ofNat 110, Char.ofNat 105, Char.ofNat 111, Char.ofNat 110, Char.ofNat 47, Char.ofNat 116, Char.ofNat 114, Char.ofNat 117, Char.ofNat 110, Char.ofNat 110, Char.ofNat 105, Char.ofNat 111, Char.ofNat 110, Char.ofNat 108, Char.ofNat 97, Char.ofNat 119, Char.ofNat 48, Char.ofNat 56, Char.ofNat 46, Char.ofNat 79, Char.ofNat 114, Char.ofNat 100, Char.ofNat 101, Char.ofNat 114, Char.ofNat 65, Char.ofNat 115, Char.ofNat 107, Char.ofNat 115, Char.ofNat 32, Char.ofNat 116, Char.ofNat 114, Char.ofNat 117, Char.ofNat 110, Char.ofNat 110, Char.ofNat 105, Char.ofNat 111, Char.ofNat 110, Char.ofNat 47, Char.ofNat 116, Char.ofNat 114, Char.ofNat 117, Char.ofNat 110, Char.ofNat 110, Char.ofNat 105, Char.ofNat 111, Char.ofNat 110, Char.ofNat 108, Char.ofNat 97, Char.ofNat 119, Char.ofNat 48, Char.ofNat 56, Char.ofNat 46, Char.ofNat 79, Char.ofNat 114, Char.ofNat 100, Char.ofNat 101, Char.ofNat 114, Char.ofNat 75, Char.ofNat 101, Char.ofNat 101, Char.ofNat 112, Char.ofNat 115, Char.ofNat 32, Char.ofNat 116, Char.ofNat 114, Char.ofNat 117, Char.ofNat 110, Char.ofNat 110, Char.ofNat 105, Char.ofNat 111, Char.ofNat 110, Char.ofNat 47, Char.ofNat 116, Char.ofNat 114, Char.ofNat 117, Char.ofNat 110, Char.ofNat 110, Char.ofNat 105, Char.ofNat 111, Char.ofNat 110, Char.ofNat 108, Char.ofNat 97, Char.ofNat 119, Char.ofNat 48, Char.ofNat 56, Char.ofNat 46, Char.ofNat 79, Char.ofNat 114, Char.ofNat 100, Char.ofNat 101, Char.ofNat 114, Char.ofNat 67, Char.ofNat 104, Char.ofNat 97, Char.ofNat 105, Char.ofNat 110, Char.ofNat 32, Char.ofNat 116, Char.ofNat 114, Char.ofNat 117, Char.ofNat 110, Char.ofNat 110, Char.ofNat 105, Char.ofNat 111, Char.ofNat 110, Char.ofNat 47, Char.ofNat 116, Char.ofNat 114, Char.ofNat 117, Char.ofNat 110, Char.ofNat 110, Char.ofNat 105, Char.ofNat 111, Char.ofNat 110, Char.ofNat 108, Char.ofNat 97, Char.ofNat 119, Char.ofNat 49, Char.ofNat 51, Char.ofNat 46, Char.ofNat 73, Char.ofNat 110, Char.ofNat 116, Char.ofNat 115, Char.ofNat 66, Char.ofNat 97, Char.ofNat 99, Char.ofNat 107, Char.ofNat 32, Char.ofNat 116, Char.ofNat 114, Char.ofNat 117, Char.ofNat 110, Char.ofNat 110, Char.ofNat 105, Char.ofNat 111, Char.ofNat 110, Char.ofNat 47, Char.ofNat 116, Char.ofNat 114, Char.ofNat 117, Char.ofNat 110, Char.ofNat 110, Char.ofNat 105, Char.ofNat 111, Char.ofNat 110, Char.ofNat 108, Char.ofNat 97, Char.ofNat 119, Char.ofNat 48, Char.ofNat 49, Char.ofNat 46, Char.ofNat 87, Char.ofNat 105, Char.ofNat 100, Char.ofNat 101, Char.ofNat 68, Char.ofNat 105, Char.ofNat 118, Char.ofNat 115, Char.ofNat 32, Char.ofNat 116, Char.ofNat 114, Char.ofNat 117, Char.ofNat 110, Char.ofNat 110, Char.ofNat 105, Char.ofNat 111, Char.ofNat 110, Char.ofNat 47, Char.ofNat 116, Char.ofNat 114, Char.ofNat 117, Char.ofNat 110, Char.ofNat 110, Char.ofNat 105, Char.ofNat 111, Char.ofNat 110, Char.ofNat 108, Char.ofNat 97, Char.ofNat 119, Char.ofNat 48, Char.ofNat 49, Char.ofNat 46, Char.ofNat 87, Char.ofNat 105, Char.ofNat 100, Char.ofNat 101, Char.ofNat 66, Char.ofNat 97, Char.ofNat 99, Char.ofNat 107]
set_option maxRecDepth 100000 in
theorem head_list : Try.prog.initOrder.toList = w1 ++ Char.ofNat 32 :: (w2 ++ Char.ofNat 32 :: (w3 ++ Char.ofNat 32 :: tailSigns)) :=
  (congrArg String.toList (show Try.prog.initOrder = String.ofList (w1 ++ Char.ofNat 32 :: (w2 ++ Char.ofNat 32 :: (w3 ++ Char.ofNat 32 :: tailSigns))) from rfl)).trans String.toList_ofList
theorem words : ∃ rest, behindMainWord (wordsSigns Try.prog.initOrder.toList) = w3 :: rest := by
  refine ⟨wordsSigns tailSigns, ?_⟩
  rw [head_list, words_word w1 _ (by kernel_rfl), words_word w2 _ (by kernel_rfl), words_word w3 _ (by kernel_rfl)]
  generalize wordsSigns tailSigns = rest
  have e : ((w1 == "harness".toList || w1 == "ownmain".toList) && isSumSigns w2) = true := by kernel_rfl
  show (if ((w1 == "harness".toList || w1 == "ownmain".toList) && isSumSigns w2) = true then w3 :: rest else w1 :: w2 :: w3 :: rest) = w3 :: rest
  rw [if_pos e]
theorem c3 : (w3 == "gc".toList) = false ∧ (w3 == "spec".toList) = false ∧ (w3 == "cut".toList) = true ∧ (w3 == "carried".toList) = false ∧ (w3 == "finals".toList) = false := ⟨by kernel_rfl, by kernel_rfl, by kernel_rfl, by kernel_rfl, by kernel_rfl⟩
theorem strip (rest : List (List Char)) : stripLifts liftWords (w3 :: rest) = ([], w3 :: rest) := by
  have key : ∀ l : List String, l.all (fun o => !(w3 == o.toList)) = true → stripLifts l (w3 :: rest) = ([], w3 :: rest) := by
    intro l
    induction l with
    | nil => intro _; rfl
    | cons o l ih =>
      intro h
      rw [List.all_cons, Bool.and_eq_true] at h
      unfold stripLifts
      rw [if_neg (fun e => by have h1 := h.1; rw [e] at h1; cases h1)]
      exact ih h.2
  exact key liftWords (by kernel_rfl)
theorem make_of (P : Program) (h : ∃ rest, behindMainWord (wordsSigns P.initOrder.toList) = w3 :: rest) : P.make = some .cut := by
  obtain ⟨rest, h⟩ := h
  unfold Program.make
  rw [h]
  show (if (w3 == "gc".toList || w3 == "spec".toList) = true then some Make.whole else if (w3 == "cut".toList || (w3 == "finals".toList && rest.head? == some "cut".toList)) = true then some Make.cut else _) = some Make.cut
  rw [if_neg (by rw [c3.1, c3.2.1]; decide), if_pos (by rw [c3.2.2.1, Bool.true_or])]
set_option maxRecDepth 100000 in
theorem liftsFact : Try.prog.liftsFinal = false := by
  unfold Program.liftsFinal Program.headLifts
  rw [head_list]
  kernel_rfl
theorem doorFact : (!Try.prog.laysLater && !Try.prog.bearsReflect && Try.prog.doorFits []) = true := by kernel_rfl
theorem makeFact : Try.prog.make = some .cut := make_of _ words
theorem enter_of (P : Program) (h : ∃ rest, behindMainWord (wordsSigns P.initOrder.toList) = w3 :: rest) (d : (!P.laysLater && !P.bearsReflect && P.doorFits []) = true) : P.mayEnter = true := by
  obtain ⟨rest, h⟩ := h
  rw [Bool.and_eq_true, Bool.and_eq_true] at d
  have e : ((some w3 == some "cut".toList) : Bool) = true := by kernel_rfl
  unfold Program.mayEnter
  rw [h]
  show ((_ || _) || ((stripLifts liftWords (w3 :: rest)).2.head? == some "cut".toList && ((stripLifts liftWords (w3 :: rest)).1.contains "finals" || !P.laysLater) && ((stripLifts liftWords (w3 :: rest)).1.contains "reflectrows" || !P.bearsReflect) &&
      ((stripLifts liftWords (w3 :: rest)).1.contains "reflectrows" || !(stripLifts liftWords (w3 :: rest)).1.contains "leanrows") && P.doorFits (stripLifts liftWords (w3 :: rest)).1)) = true
  rw [strip, Bool.or_eq_true]
  refine .inr ?_
  rw [Bool.and_eq_true, Bool.and_eq_true, Bool.and_eq_true, Bool.and_eq_true, Bool.or_eq_true, Bool.or_eq_true]
  exact ⟨⟨⟨⟨e, .inr d.1.1⟩, .inr d.1.2⟩, rfl⟩, d.2⟩
theorem enterFact : Try.prog.mayEnter = true := enter_of _ words doorFact
end Go.Proofs.Ytmjfenbbgfohlaa.Facts
