/- What the Go functions that a statement reaches compute, each as a Lean function with its proof, and the statement itself behind it, for every input; written by a program of this session (pp.py) out of the translation. -/
import Derived.Test.YthdeeoallfbjmaaDoorRows
import Derived.Test.YthdeeoallfbjmaaDoorMChopBack8
import Derived.Test.YthdeeoallfbjmaaDoorMChopBack9
import Derived.Test.YthdeeoallfbjmaaDoorCards
import Derived.Test.YthdeeoallfbjmaaDoorTie
import Derived.SevenTiedAt
import Derived.LaidMore
import Derived.Lib.LaidTab
import Derived.Stop.Joined
import Derived.JoinedOf
import Derived.WalkKit
import Derived.ProofKit
import Derived.OpenShut
import Derived.ShutString
import Derived.ChangeOld
import Derived.Below
import Derived.SizedLaws
import Derived.Lib.SmallJoins
namespace Go.Proofs.YthdeeoallfbjmaaDoor.chopBack
open Go.ChangeShapes Go.WideShapes Go.ChangeAt Go.RowKit
set_option linter.unusedVariables false
theorem own : ownKnob Tryd.prog.godebug = none := by kernel_rfl
theorem gTab : Tryd.prog.globalNamed "math/bits.deBruijn64tab" = some 0 := by kernel_rfl
theorem tTab : (Tryd.prog.globals[0]?).map (·.type) = some 88 := by kernel_rfl
/-- The door's own heap meets the condition. -/
theorem door_met (os : Os) (args : Array Value) : laidMetH Tryd.prog [("math/bits.deBruijn64tab", Rows.laid_math_bits_deBruijn64tab)] ((World.doorLaid Tryd.prog 14 os).forCall (fun _ _ => 0) ⟨#[], args, []⟩).memory :=
  laidMetH_of_parts3 (fuel := 8) (laidMet_of_run' 8 (by kernel_rfl) (by kernel_rfl)) (by kernel_rfl) (by kernel_rfl)
theorem of_laid {W : World} (h : laidMetH Tryd.prog [("math/bits.deBruijn64tab", Rows.laid_math_bits_deBruijn64tab)] W) : Go.Proofs.YthdeeoallfbjmaaDoorW.PrintWords.Aside0 (PA.TT W) := by
  rw [MakeChecks.laidMetH_plain _ _ _ (by kernel_rfl)] at h
  have hz : ([("math/bits.deBruijn64tab", Rows.laid_math_bits_deBruijn64tab)] : List (String × DataW Unit)) = [("math/bits.deBruijn64tab", Lib.tabData .u8 (List.map (fun x : Nat => (x : Int)) Lib.deBruijn64tab))] := by kernel_rfl
  rw [hz] at h
  have hT := Lib.tabIs_of_head gTab tTab Tryd.underlying88 (by kernel_rfl) (by kernel_rfl) (by kernel_rfl) h
  have hlen : Lib.deBruijn64tab.length = 64 := by decide
  have hc := fun j (hj : j < 64) => hT.cell gTab j (by rw [List.length_map, hlen]; exact hj)
  refine Go.Proofs.YthdeeoallfbjmaaDoorW.PrintWords.Aside0.mk ⟨fun j hj => ?_, ?_⟩
  · rw [hlen] at hj
    have := hc j hj
    rw [this]
    congr 2
    simp only [List.getD, List.getElem?_map]
    rw [List.getElem?_eq_getElem (by rw [hlen]; exact hj)]
    rfl
  · have := hc 0 (by decide)
    rcases Nat.eq_zero_or_pos W.heap.size with e | e
    · exfalso
      have hn : W.heap[0]? = none := Array.getElem?_eq_none (by omega)
      simp [World.cell?, hn] at this
    · exact e
set_option maxRecDepth 100000 in
theorem lifted (os : Os) (started : os.Started) (H : Type) (enc : TypeId × Value → H) :
    ReturnsInHanded {} Tryd.checked os 7 .any (fun w args => (Rows.chopBackSpec.pre enc Tryd.prog Tryd.f7 [] false w args ∧ laidMetH Tryd.prog [("math/bits.deBruijn64tab", Rows.laid_math_bits_deBruijn64tab)] w) ∧ sizedMet enc Tryd.prog Tryd.f7 (OpenSpec.ofChange Rows.chopBackSpec) false w args) (Rows.chopBackSpec.post enc Tryd.prog Tryd.f7 false true false false) := by
  refine returnsInHanded_of_change_and (C := Tryd.checked) (X := fun w _ => laidMetH Tryd.prog [("math/bits.deBruijn64tab", Rows.laid_math_bits_deBruijn64tab)] w) (fun _ _ _ hh h => h.of_heap hh) own started (by kernel_rfl) Tryd.func7
    (ChangeSpec.witness_shaped (enc := enc) (C := Tryd.checked) (os := os) (X := fun w _ => laidMetH Tryd.prog [("math/bits.deBruijn64tab", Rows.laid_math_bits_deBruijn64tab)] w) false (World.doorLaid Tryd.prog 14 os) #[.agg #[.int .i64 0, .int .i64 0, .bool false], .int .u64 0] 8 rfl (World.shaped_of_RefB (by kernel_rfl) (by kernel_rfl)) (by kernel_rfl) (by kernel_rfl) (by kernel_rfl) (door_met os _)) ?_
  intro W base args ds gs before hval0 hW hcnd hsz0 hL _
  have hval : ∀ (j : Nat) t v, Tryd.f7.params[j]? = some t → args[j]? = some v → Value.okWide Tryd.prog W .any base t v := hval0
  have hW' := hW
  obtain ⟨p, q, hA0, hV, rfl, hfz, hnd⟩ := hW
  have hA : DataW.TrodAll enc Tryd.prog W 0 (fun _ => true) true Tryd.f7.params.toList args.toList ds p := hA0
  rw [Tryd.params7] at hA hval
  obtain ⟨v0, vs0, d0, ds0, p0, q0, hargs, rfl, rfl, h0, r0⟩ := trodAll_cons hA
  obtain ⟨v1, vs1, d1, ds1, p1, q1, rfl, rfl, rfl, h1, r1⟩ := trodAll_cons r0
  obtain ⟨rfl, rfl, rfl⟩ := trodAll_nil r1
  obtain rfl : args = #[v0, v1] := by cases args; simp_all
  obtain ⟨rfl, rfl⟩ := trodVars_none hV
  obtain ⟨c0_0, c0_1, c0_2, y0_0, y0_1, y0_2, n0, rfl, rfl, rfl, t0_0, t0_1, t0_2⟩ := Go.Joins.open_agg3 Tryd.underlying42 (by kernel_rfl) (by kernel_rfl) (hval 0 42 v0 rfl rfl) h0
  obtain ⟨a0_0, e0_0, z0_0, w0_0⟩ := DataW.trod_int Tryd.underlying3 t0_0
  obtain rfl : c0_0 = .int .i64 a0_0 := by simpa using e0_0
  subst z0_0
  clear t0_0 e0_0
  obtain ⟨a0_1, e0_1, z0_1, w0_1⟩ := DataW.trod_int Tryd.underlying3 t0_1
  obtain rfl : c0_1 = .int .i64 a0_1 := by simpa using e0_1
  subst z0_1
  clear t0_1 e0_1
  obtain ⟨a0_2, e0_2, z0_2⟩ := DataW.trod_bool Tryd.underlying4 t0_2
  obtain rfl : c0_2 = .bool a0_2 := by simpa using e0_2
  subst z0_2
  clear t0_2 e0_2
  obtain ⟨a1, rfl, rfl, rfl, w1⟩ := open_int Tryd.underlying22 (hval 1 22 v1 rfl rfl) h1
  clear hA0 hval0 hsz0
  refine (PA.L12_ChopBack.walk Pure.ChopBack a0_0 a0_1 a0_2 a1 W w0_0 w0_1 w1 (of_laid hL)).mono fun e W' ⟨he, bel⟩ => ?_
  subst he
  exact ⟨_, rfl, _, _, _, [], _, [], hW', trodAll_mk1 (shut_bool Tryd.underlying4 _), (trodAll_cons_mk (Go.Joins.shut_agg3 (y0 := (.lit (.int .i64 a0_0), [])) (y1 := (.lit (.int .i64 a0_1), [])) (y2 := (.lit (.bool a0_2), [])) Tryd.underlying42 (by kernel_rfl) (by kernel_rfl) ⟨1, trod_int_mk 0 Tryd.underlying3 w0_0⟩ ⟨1, trod_int_mk 0 Tryd.underlying3 w0_1⟩ ⟨1, show DataW.trod _ Tryd.prog _ _ _ _ 1 4 [.bool a0_2] = some (.lit (.bool a0_2), []) from by simp [DataW.trod, Tryd.underlying4]⟩) (trodAll_cons_mk (shut_int Tryd.underlying22 w1) trodAll_mk0)), rfl, bel.frame _, fun h => by cases h⟩
set_option maxHeartbeats 8000000 in
theorem closed : joinedFacts Tryd.prog 7 Tryd.f7 Rows.chopBackSpec Rows.chopBackRow = true := by
  unfold joinedFacts
  simp only [Bool.and_eq_true]
  and_intros
  all_goals first | (with_reducible exact Facts.enterFact) | (rw [Facts.liftsFact]; kernel_rfl) | (rw [Facts.makeFact]; kernel_rfl) | (as_aux_lemma => kernel_rfl)
theorem over : Rows.chopBackRow.holds Tryd.pinned (OpenSpec.ofChange Rows.chopBackSpec) :=
  OpenClaim.holds_of_wide 7 Tryd.f7 rfl rfl rfl rfl rfl rfl rfl ⟨rfl, rfl, rfl, rfl, rfl⟩ rfl rfl rfl rfl rfl (by kernel_rfl) Tryd.func7 closed
    (of_decide_eq_true (by kernel_rfl)) (by unfold Func.isWrapper; first | (rw [if_pos (by decide +kernel)]; kernel_rfl) | (rw [if_neg (by decide +kernel)]; exact ⟨rfl, rfl⟩))
    (fun os started H enc _ => lifted os started H enc)
theorem proved : Rows.ChopBackSaid := over
theorem card_holds : Rows.ChopBackCardSaid :=
  Claim7.holds_tied_plain_at .later [] [.data] true (true, "b96310178990f38e2d0d65c47ed25f6bb49f607043c2e8db7f8af07a71d826c0") false
    over (fun _ h => by cases h) (by kernel_rfl) (fun _ h => by cases h) chopBack_row_tie rfl ⟨rfl, rfl⟩ (by kernel_rfl) rfl
    (fun f fn hf hfn => by
      obtain rfl : f = 7 := Option.some.inj ((show Tryd.prog.funcNamed "trunnion/trunnionlaw12.ChopBack" = some 7 by kernel_rfl).symm.trans hf) |>.symm
      obtain rfl : fn = Tryd.f7 := (Option.some.inj (Tryd.func7.symm.trans hfn)).symm
      exact ⟨by kernel_rfl, fun j t ht => by
        have hall : (Tryd.f7.params.toList.all fun u => !Tryd.prog.wantsStandIn u) = true := by kernel_rfl
        have hm : t ∈ Tryd.f7.params.toList := List.mem_of_getElem? (by simpa using ht)
        exact (show Tryd.prog.wantsStandIn t = false by simpa using List.all_eq_true.1 hall t hm)⟩)
    (by kernel_rfl)
#print axioms card_holds
end Go.Proofs.YthdeeoallfbjmaaDoor.chopBack
namespace Go.Proofs.YthdeeoallfbjmaaDoor
/-- The card, under a short name, for the claim. -/
theorem chopBack_holds : Rows.ChopBackCardSaid := chopBack.card_holds
end Go.Proofs.YthdeeoallfbjmaaDoor
