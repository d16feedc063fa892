/- What the Go functions that a statement reaches compute, each as a Lean function with its proof, and the statement itself behind it, for every input; written by a program of this session (pp.py) out of the translation. -/
import Derived.Test.YtgcgheilbngcoaaRows
import Derived.Test.YtgcgheilbngcoaaMRoundWholes4
import Derived.JoinedOf
import Derived.WalkKit
import Derived.ProofKit
import Derived.OpenShut
import Derived.ShutString
import Derived.ChangeOld
import Derived.Below
import Derived.SizedLaws
import Derived.Lib.SmallJoins
namespace Go.Proofs.Ytgcgheilbngcoaa.roundWholes
open Go.ChangeShapes Go.WideShapes Go.ChangeAt Go.RowKit
set_option linter.unusedVariables false
theorem own : ownKnob Try.prog.godebug = none := by kernel_rfl
set_option maxRecDepth 100000 in
theorem lifted (os : Os) (started : os.Started) (H : Type) (enc : TypeId × Value → H) :
    ReturnsInHanded {} Try.checked os 7 .any (Rows.roundWholesSpec.pre6 enc Try.prog Try.f7 Rows.roundWholesRow.domain false) (Rows.roundWholesSpec.post enc Try.prog Try.f7 false true false false) := by
  refine returnsInHanded_of_change_sized (C := Try.checked) own started (by kernel_rfl) Try.func7
    (ChangeSpec.witness6 (enc := enc) (C := Try.checked) false ⟨#[], #[.int .i64 0, .int .u64 0, .agg #[.bool false, .int .i64 0, .int .i64 0, .int .u64 0]], []⟩ 8 (by kernel_rfl) (by kernel_rfl) (by kernel_rfl) (by kernel_rfl)) ?_
  intro W base args ds gs before hval0 hW hcnd hsz0 _
  have hval : ∀ (j : Nat) t v, Try.f7.params[j]? = some t → args[j]? = some v → Value.okWide Try.prog W .any base t v := hval0
  have hW' := hW
  obtain ⟨p, q, hA0, hV, rfl, hfz, hnd⟩ := hW
  have hA : DataW.TrodAll enc Try.prog W 0 (fun _ => true) true Try.f7.params.toList args.toList ds p := hA0
  rw [Try.params7] at hA hval
  obtain ⟨v0, vs0, d0, ds0, p0, q0, hargs, rfl, rfl, h0, r0⟩ := trodAll_cons hA
  obtain ⟨v1, vs1, d1, ds1, p1, q1, rfl, rfl, rfl, h1, r1⟩ := trodAll_cons r0
  obtain ⟨v2, vs2, d2, ds2, p2, q2, rfl, rfl, rfl, h2, r2⟩ := trodAll_cons r1
  obtain ⟨rfl, rfl, rfl⟩ := trodAll_nil r2
  obtain rfl : args = #[v0, v1, v2] := by cases args; simp_all
  obtain ⟨rfl, rfl⟩ := trodVars_none hV
  obtain ⟨a0, rfl, rfl, rfl, w0⟩ := open_int Try.underlying3 (hval 0 3 v0 rfl rfl) h0
  obtain ⟨a1, rfl, rfl, rfl, w1⟩ := open_int Try.underlying24 (hval 1 24 v1 rfl rfl) h1
  obtain ⟨c2_0, c2_1, c2_2, c2_3, y2_0, y2_1, y2_2, y2_3, n2, rfl, rfl, rfl, t2_0, t2_1, t2_2, t2_3⟩ := Go.Joins.open_agg4 Try.underlying50 (by kernel_rfl) (by kernel_rfl) (hval 2 50 v2 rfl rfl) h2
  obtain ⟨a2_0, e2_0, z2_0⟩ := DataW.trod_bool Try.underlying4 t2_0
  obtain rfl : c2_0 = .bool a2_0 := by simpa using e2_0
  subst z2_0
  clear t2_0 e2_0
  obtain ⟨a2_1, e2_1, z2_1, w2_1⟩ := DataW.trod_int Try.underlying3 t2_1
  obtain rfl : c2_1 = .int .i64 a2_1 := by simpa using e2_1
  subst z2_1
  clear t2_1 e2_1
  obtain ⟨a2_2, e2_2, z2_2, w2_2⟩ := DataW.trod_int Try.underlying3 t2_2
  obtain rfl : c2_2 = .int .i64 a2_2 := by simpa using e2_2
  subst z2_2
  clear t2_2 e2_2
  obtain ⟨a2_3, e2_3, z2_3, w2_3⟩ := DataW.trod_int Try.underlying24 t2_3
  obtain rfl : c2_3 = .int .u64 a2_3 := by simpa using e2_3
  subst z2_3
  clear t2_3 e2_3
  clear hA0 hval0 hsz0
  refine (PA.trunnionlaw03_RoundWholes.walk Pure.RoundWholes a0 a1 a2_0 a2_1 a2_2 a2_3 W w0 w1 w2_1 w2_2 w2_3).mono fun e W' ⟨he, bel⟩ => ?_
  subst he
  exact ⟨_, rfl, _, _, _, [], _, [], hW', trodAll_mk1 (shut_bool Try.underlying4 _), (trodAll_cons_mk (shut_int Try.underlying3 w0) (trodAll_cons_mk (shut_int Try.underlying24 w1) (trodAll_cons_mk (Go.Joins.shut_agg4 (y0 := (.lit (.bool a2_0), [])) (y1 := (.lit (.int .i64 a2_1), [])) (y2 := (.lit (.int .i64 a2_2), [])) (y3 := (.lit (.int .u64 a2_3), [])) Try.underlying50 (by kernel_rfl) (by kernel_rfl) ⟨1, show DataW.trod _ Try.prog _ _ _ _ 1 4 [.bool a2_0] = some (.lit (.bool a2_0), []) from by simp [DataW.trod, Try.underlying4]⟩ ⟨1, trod_int_mk 0 Try.underlying3 w2_1⟩ ⟨1, trod_int_mk 0 Try.underlying3 w2_2⟩ ⟨1, trod_int_mk 0 Try.underlying24 w2_3⟩) trodAll_mk0))), rfl, bel.frame _, fun h => by cases h⟩
set_option maxHeartbeats 8000000 in
theorem closed : joinedFacts Try.prog 7 Try.f7 Rows.roundWholesSpec Rows.roundWholesRow = true := by
  unfold joinedFacts
  simp only [Bool.and_eq_true]
  and_intros
  all_goals first | (with_reducible exact Facts.enterFact) | (rw [Facts.liftsFact]; kernel_rfl) | (rw [Facts.makeFact]; kernel_rfl) | (as_aux_lemma => kernel_rfl)
theorem over : Rows.roundWholesRow.holds Try.pinned (OpenSpec.ofChange Rows.roundWholesSpec) :=
  OpenClaim.holds_of_wide 7 Try.f7 rfl rfl rfl rfl rfl rfl rfl ⟨rfl, rfl, rfl, rfl, rfl⟩ rfl rfl rfl rfl rfl (by kernel_rfl) Try.func7 closed
    (of_decide_eq_true (by kernel_rfl)) (by unfold Func.isWrapper; first | (rw [if_pos (by decide +kernel)]; kernel_rfl) | (rw [if_neg (by decide +kernel)]; exact ⟨rfl, rfl⟩))
    (fun os started H enc _ => lifted os started H enc)
theorem proved : Rows.RoundWholesSaid := over
#print axioms proved
end Go.Proofs.Ytgcgheilbngcoaa.roundWholes
namespace Go.Proofs.Ytgcgheilbngcoaa
/-- The row, under a short name, for the claim. -/
theorem roundWholes_holds : Rows.RoundWholesSaid := roundWholes.proved
end Go.Proofs.Ytgcgheilbngcoaa
