/- What the Go functions that a statement reaches compute, each as a Lean function with its proof, and the statement itself behind it, for every input; written by a program of this session (pp.py) out of the translation. -/
import Derived.Test.YtbpmnmceajmmcaaRows
import Derived.Test.YtbpmnmceajmmcaaMRoundPacks7
import Derived.Test.YtbpmnmceajmmcaaMRoundPacks8
import Derived.JoinedOf
import Derived.WalkKit
import Derived.ProofKit
import Derived.OpenShut
import Derived.ShutString
import Derived.ChangeOld
import Derived.Below
import Derived.SizedLaws
import Derived.Lib.SmallJoins
namespace Go.Proofs.Ytbpmnmceajmmcaa.roundPacks
open Go.ChangeShapes Go.WideShapes Go.ChangeAt Go.RowKit
set_option linter.unusedVariables false
theorem own : ownKnob Try.prog.godebug = none := by kernel_rfl
set_option maxRecDepth 100000 in
theorem nest : ∃ f0 f1 f2 f3 g0 g1 : Field, (f0.type = 4 ∧ f1.type = 42 ∧ f2.type = 3 ∧ f3.type = 4 ∧ g0.type = 22 ∧ g1.type = 22) ∧ NumS.Nest Try.prog 44 f0 f1 f2 f3 g0 g1 :=
  ⟨_, _, _, _, _, _, ⟨rfl, rfl, rfl, rfl, rfl, rfl⟩, ⟨Try.underlying44, Try.underlying42, ⟨rfl, rfl, rfl, rfl, rfl, rfl⟩, by kernel_rfl, by kernel_rfl, by kernel_rfl, by kernel_rfl, by kernel_rfl, by kernel_rfl, by kernel_rfl⟩⟩
set_option maxRecDepth 100000 in
theorem lifted (os : Os) (started : os.Started) (H : Type) (enc : TypeId × Value → H) :
    ReturnsInHanded {} Try.checked os 8 .any (Rows.roundPacksSpec.pre6 enc Try.prog Try.f8 Rows.roundPacksRow.domain false) (Rows.roundPacksSpec.post enc Try.prog Try.f8 false true false false) := by
  refine returnsInHanded_of_change_sized (C := Try.checked) own started (by kernel_rfl) Try.func8
    (ChangeSpec.witness6 (enc := enc) (C := Try.checked) false ⟨#[], #[.int .i64 0, .agg #[.bool false, .int .u64 0, .int .u64 0, .int .i64 0, .bool false]], []⟩ 8 (by kernel_rfl) (by kernel_rfl) (by kernel_rfl) (by kernel_rfl)) ?_
  intro W base args ds gs before hval0 hW hcnd hsz0 _
  have hval : ∀ (j : Nat) t v, Try.f8.params[j]? = some t → args[j]? = some v → Value.okWide Try.prog W .any base t v := hval0
  have hW' := hW
  obtain ⟨p, q, hA0, hV, rfl, hfz, hnd⟩ := hW
  have hA : DataW.TrodAll enc Try.prog W 0 (fun _ => true) true Try.f8.params.toList args.toList ds p := hA0
  rw [Try.params8] at hA hval
  obtain ⟨v0, vs0, d0, ds0, p0, q0, hargs, rfl, rfl, h0, r0⟩ := trodAll_cons hA
  obtain ⟨v1, vs1, d1, ds1, p1, q1, rfl, rfl, rfl, h1, r1⟩ := trodAll_cons r0
  obtain ⟨rfl, rfl, rfl⟩ := trodAll_nil r1
  obtain rfl : args = #[v0, v1] := by cases args; simp_all
  obtain ⟨rfl, rfl⟩ := trodVars_none hV
  obtain ⟨a0, rfl, rfl, rfl, w0⟩ := open_int Try.underlying3 (hval 0 3 v0 rfl rfl) h0
  obtain ⟨f0, f1, f2, f3, g0, g1, ⟨e0, e1, e2, e3, e4, e5⟩, NN⟩ := nest
  obtain ⟨v0_, v1_, v2_, v3_, v4_, y0, z0, z1, y2, y3, nn, rfl, rfl, rfl, t0, ⟨mm, s0, s1⟩, t2, t3⟩ := NumS.opn NN (hval 1 44 v1 rfl rfl) h1
  have NS := @NumS.sht H enc Try.prog
  rw [e0] at t0
  rw [e4] at s0
  rw [e5] at s1
  rw [e2] at t2
  rw [e3] at t3
  obtain ⟨a1_0, xt0, qt0⟩ := DataW.trod_bool Try.underlying4 t0
  obtain rfl : v0_ = .bool a1_0 := by simpa using xt0
  subst qt0
  clear t0 xt0
  obtain ⟨a1_1, xs0, qs0, wh⟩ := DataW.trod_int Try.underlying22 s0
  obtain rfl : v1_ = .int .u64 a1_1 := by simpa using xs0
  subst qs0
  clear s0 xs0
  obtain ⟨a1_2, xs1, qs1, wl⟩ := DataW.trod_int Try.underlying22 s1
  obtain rfl : v2_ = .int .u64 a1_2 := by simpa using xs1
  subst qs1
  clear s1 xs1
  obtain ⟨a1_3, xt2, qt2, we⟩ := DataW.trod_int Try.underlying3 t2
  obtain rfl : v3_ = .int .i64 a1_3 := by simpa using xt2
  subst qt2
  clear t2 xt2
  obtain ⟨a1_4, xt3, qt3⟩ := DataW.trod_bool Try.underlying4 t3
  obtain rfl : v4_ = .bool a1_4 := by simpa using xt3
  subst qt3
  clear t3 xt3
  clear hA0 hval0 hsz0
  refine (PA.L03_RoundPacks.walk Pure.RoundPacks a0 a1_0 a1_1 a1_2 a1_3 a1_4 W w0 wh wl we).mono fun e W' ⟨he, bel⟩ => ?_
  subst he
  exact ⟨_, rfl, _, _, _, [], _, [], hW', trodAll_mk1 (shut_bool Try.underlying4 _), (trodAll_cons_mk (shut_int Try.underlying3 w0) (trodAll_cons_mk (NS NN (y0 := (.lit (.bool a1_0), [])) (z0 := (.lit (.int .u64 a1_1), [])) (z1 := (.lit (.int .u64 a1_2), [])) (y2 := (.lit (.int .i64 a1_3), [])) (y3 := (.lit (.bool a1_4), [])) (by rw [e0]; simp [DataW.trod, Try.underlying4]) (by rw [e4]; exact trod_int_mk 0 Try.underlying22 wh) (by rw [e5]; exact trod_int_mk 0 Try.underlying22 wl) (by rw [e2]; exact trod_int_mk 1 Try.underlying3 we) (by rw [e3]; simp [DataW.trod, Try.underlying4])) trodAll_mk0)), rfl, bel.frame _, fun h => by cases h⟩
set_option maxHeartbeats 8000000 in
theorem closed : joinedFacts Try.prog 8 Try.f8 Rows.roundPacksSpec Rows.roundPacksRow = true := by
  unfold joinedFacts
  simp only [Bool.and_eq_true]
  and_intros
  all_goals first | (with_reducible exact Facts.enterFact) | (rw [Facts.liftsFact]; kernel_rfl) | (rw [Facts.makeFact]; kernel_rfl) | (as_aux_lemma => kernel_rfl)
theorem over : Rows.roundPacksRow.holds Try.pinned (OpenSpec.ofChange Rows.roundPacksSpec) :=
  OpenClaim.holds_of_wide 8 Try.f8 rfl rfl rfl rfl rfl rfl rfl ⟨rfl, rfl, rfl, rfl, rfl⟩ rfl rfl rfl rfl rfl (by kernel_rfl) Try.func8 closed
    (of_decide_eq_true (by kernel_rfl)) (by unfold Func.isWrapper; first | (rw [if_pos (by decide +kernel)]; kernel_rfl) | (rw [if_neg (by decide +kernel)]; exact ⟨rfl, rfl⟩))
    (fun os started H enc _ => lifted os started H enc)
theorem proved : Rows.RoundPacksSaid := over
#print axioms proved
end Go.Proofs.Ytbpmnmceajmmcaa.roundPacks
namespace Go.Proofs.Ytbpmnmceajmmcaa
/-- The row, under a short name, for the claim. -/
theorem roundPacks_holds : Rows.RoundPacksSaid := roundPacks.proved
end Go.Proofs.Ytbpmnmceajmmcaa
