/- What the Go functions that a statement reaches compute, each as a Lean function with its proof, and the statement itself behind it, for every input; written by a program of this session (pp.py) out of the translation. -/
import Derived.Test.YtjjehbedpgdhgaaRows
import Derived.Test.YtjjehbedpgdhgaaMChopTraps7
import Derived.Test.YtjjehbedpgdhgaaMChopTraps8
import Derived.JoinedOf
import Derived.WalkKit
import Derived.ProofKit
import Derived.OpenShut
import Derived.ShutString
import Derived.ChangeOld
import Derived.Below
import Derived.SizedLaws
import Derived.Lib.SmallJoins
namespace Go.Proofs.Ytjjehbedpgdhgaa.chopTraps
open Go.ChangeShapes Go.WideShapes Go.ChangeAt Go.RowKit
set_option linter.unusedVariables false
theorem own : ownKnob Try.prog.godebug = none := by kernel_rfl
set_option maxRecDepth 100000 in
theorem lifted (os : Os) (started : os.Started) (H : Type) (enc : TypeId × Value → H) :
    ReturnsInHanded {} Try.checked os 6 .any (Rows.chopTrapsSpec.pre6 enc Try.prog Try.f6 Rows.chopTrapsRow.domain false) (Rows.chopTrapsSpec.post enc Try.prog Try.f6 false true false false) := by
  refine returnsInHanded_of_change_sized (C := Try.checked) own started (by kernel_rfl) Try.func6
    (ChangeSpec.witness6 (enc := enc) (C := Try.checked) false ⟨#[], #[.agg #[.int .i64 0, .int .i64 0, .bool false], .int .u64 0], []⟩ 8 (by kernel_rfl) (by kernel_rfl) (by kernel_rfl) (by kernel_rfl)) ?_
  intro W base args ds gs before hval0 hW hcnd hsz0 _
  have hval : ∀ (j : Nat) t v, Try.f6.params[j]? = some t → args[j]? = some v → Value.okWide Try.prog W .any base t v := hval0
  have hW' := hW
  obtain ⟨p, q, hA0, hV, rfl, hfz, hnd⟩ := hW
  have hA : DataW.TrodAll enc Try.prog W 0 (fun _ => true) true Try.f6.params.toList args.toList ds p := hA0
  rw [Try.params6] at hA hval
  obtain ⟨v0, vs0, d0, ds0, p0, q0, hargs, rfl, rfl, h0, r0⟩ := trodAll_cons hA
  obtain ⟨v1, vs1, d1, ds1, p1, q1, rfl, rfl, rfl, h1, r1⟩ := trodAll_cons r0
  obtain ⟨rfl, rfl, rfl⟩ := trodAll_nil r1
  obtain rfl : args = #[v0, v1] := by cases args; simp_all
  obtain ⟨rfl, rfl⟩ := trodVars_none hV
  obtain ⟨c0_0, c0_1, c0_2, y0_0, y0_1, y0_2, n0, rfl, rfl, rfl, t0_0, t0_1, t0_2⟩ := Go.Joins.open_agg3 Try.underlying38 (by kernel_rfl) (by kernel_rfl) (hval 0 38 v0 rfl rfl) h0
  obtain ⟨a0_0, e0_0, z0_0, w0_0⟩ := DataW.trod_int Try.underlying3 t0_0
  obtain rfl : c0_0 = .int .i64 a0_0 := by simpa using e0_0
  subst z0_0
  clear t0_0 e0_0
  obtain ⟨a0_1, e0_1, z0_1, w0_1⟩ := DataW.trod_int Try.underlying3 t0_1
  obtain rfl : c0_1 = .int .i64 a0_1 := by simpa using e0_1
  subst z0_1
  clear t0_1 e0_1
  obtain ⟨a0_2, e0_2, z0_2⟩ := DataW.trod_bool Try.underlying4 t0_2
  obtain rfl : c0_2 = .bool a0_2 := by simpa using e0_2
  subst z0_2
  clear t0_2 e0_2
  obtain ⟨a1, rfl, rfl, rfl, w1⟩ := open_int Try.underlying22 (hval 1 22 v1 rfl rfl) h1
  clear hA0 hval0 hsz0
  refine (PA.L12_ChopTraps.walk Pure.ChopTraps a0_0 a0_1 a0_2 a1 W w0_0 w0_1 w1).mono fun e W' ⟨he, bel⟩ => ?_
  subst he
  exact ⟨_, rfl, _, _, _, [], _, [], hW', trodAll_mk1 (shut_bool Try.underlying4 _), (trodAll_cons_mk (Go.Joins.shut_agg3 (y0 := (.lit (.int .i64 a0_0), [])) (y1 := (.lit (.int .i64 a0_1), [])) (y2 := (.lit (.bool a0_2), [])) Try.underlying38 (by kernel_rfl) (by kernel_rfl) ⟨1, trod_int_mk 0 Try.underlying3 w0_0⟩ ⟨1, trod_int_mk 0 Try.underlying3 w0_1⟩ ⟨1, show DataW.trod _ Try.prog _ _ _ _ 1 4 [.bool a0_2] = some (.lit (.bool a0_2), []) from by simp [DataW.trod, Try.underlying4]⟩) (trodAll_cons_mk (shut_int Try.underlying22 w1) trodAll_mk0)), rfl, bel.frame _, fun h => by cases h⟩
set_option maxHeartbeats 8000000 in
theorem closed : joinedFacts Try.prog 6 Try.f6 Rows.chopTrapsSpec Rows.chopTrapsRow = true := by
  unfold joinedFacts
  simp only [Bool.and_eq_true]
  and_intros
  all_goals first | (with_reducible exact Facts.enterFact) | (rw [Facts.liftsFact]; kernel_rfl) | (rw [Facts.makeFact]; kernel_rfl) | (as_aux_lemma => kernel_rfl)
theorem over : Rows.chopTrapsRow.holds Try.pinned (OpenSpec.ofChange Rows.chopTrapsSpec) :=
  OpenClaim.holds_of_wide 6 Try.f6 rfl rfl rfl rfl rfl rfl rfl ⟨rfl, rfl, rfl, rfl, rfl⟩ rfl rfl rfl rfl rfl (by kernel_rfl) Try.func6 closed
    (of_decide_eq_true (by kernel_rfl)) (by unfold Func.isWrapper; first | (rw [if_pos (by decide +kernel)]; kernel_rfl) | (rw [if_neg (by decide +kernel)]; exact ⟨rfl, rfl⟩))
    (fun os started H enc _ => lifted os started H enc)
theorem proved : Rows.ChopTrapsSaid := over
#print axioms proved
end Go.Proofs.Ytjjehbedpgdhgaa.chopTraps
namespace Go.Proofs.Ytjjehbedpgdhgaa
/-- The row, under a short name, for the claim. -/
theorem chopTraps_holds : Rows.ChopTrapsSaid := chopTraps.proved
end Go.Proofs.Ytjjehbedpgdhgaa
