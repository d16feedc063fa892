/- What the Go functions that a statement reaches compute, each as a Lean function with its proof, and the statement itself behind it, for every input; written by a program of this session (pp.py) out of the translation. -/
import Derived.Test.YtmjfenbbgfohlaaPAx0
import Derived.Test.YtmjfenbbgfohlaaPAsignbit
namespace Go.Proofs.Ytmjfenbbgfohlaa.PA
open Go.RowKit Go.Proofs.YtmjfenbbgfohlaaW.PrintWords Go.Proofs.YtmjfenbbgfohlaaW.PrintLast Go.Proofs.YtmjfenbbgfohlaaW.PrintMore
attribute [local go_sem] max2_int min2_int max_two min_two max_three min_three max_four min_four   -- for this text's walks alone
set_option linter.unusedVariables false
set_option linter.unusedSimpArgs false

/-! ### sign_Is: function 30 -/
def sign_Is.f (a0 : Int) (a1 : Int) : Option (Bool) := (sign_bit.f a0).bind fun t121 => (some ((Go.bits .and .u64 a1 t121) != 0))
set_option maxHeartbeats 8000000 in
set_option maxRecDepth 100000 in
theorem sign_Is.calls (a0 : Int) (a1 : Int) (r : Bool) (w : World) (h : sign_Is.f a0 a1 = some r) :
    Calls Try.prog 30 #[.int .i64 a0, .int .u64 a1] w fun e w' => e = .returned (.bool r) ∧ Below w.heap.size w w' := by
  have HB := Aside0.mk (Below.refl w.heap.size w)
  have H : ((sign_bit.f a0).bind fun t121 => (some ((Go.bits .and .u64 a1 t121) != 0))) = some r := h
  clear h
  replace H := Option.bind_eq_some_iff.mp H
  obtain ⟨t121, A30, H⟩ := H
  replace H : (some ((Go.bits .and .u64 a1 t121) != 0)) = some r := H
  have A3 := Aside0.mk A30
  clear A30
  obtain rfl := Option.some.inj H
  go_enter Try.func30, Try.ntmps30
  go_wp2_with (first | ((with_reducible refine gate_callee (f := 110) rfl ?_); refine goesL_ (some 7) rfl rfl Try.func110 (by kernel_rfl) rfl #[.int .i64 a0] rfl (by (try simp only [List.map_toArray, List.map_cons, List.map_nil]); first | done | rfl | (simp only [List.length_drop, List.length_take]; rfl)) ?_; (with_reducible refine (sign_bit.calls a0 t121 _ A3.out).mono ?_); rintro e w4 ⟨rfl, hb⟩; refine ⟨_, rfl, ?_⟩; have n0_ := Aside0.mk (below_step (by repeat (first | (with_reducible first | exact HB.out | apply below_alloc | apply pw_below_drewN | apply below_drew1) | exact HB.out)) hb); clear HB; have HB := n0_; clear n0_; (try clear hb); (try clear hb2); (try clear hk); (try clear hi)))
  go_ret
  exact ⟨by first | rfl | (simp [errW_none, errW_some] <;> rfl) | (simp [*, errW_none, errW_some] <;> rfl), by repeat (first | (with_reducible first | exact HB.out | apply below_alloc | apply pw_below_drewN | apply below_drew1) | exact HB.out)⟩

end Go.Proofs.Ytmjfenbbgfohlaa.PA
