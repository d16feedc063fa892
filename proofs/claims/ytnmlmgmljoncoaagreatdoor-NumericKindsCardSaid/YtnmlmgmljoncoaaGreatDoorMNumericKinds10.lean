/- What the Go functions that the statement NumericKinds reaches compute, and the mathematics on it, in the order in which one leans on the other; for every input. -/
import Derived.Test.YtnmlmgmljoncoaaGreatDoorVNumericKinds0
import Derived.Test.YtnmlmgmljoncoaaGreatDoorMNumericKinds0
namespace Go.Proofs.YtnmlmgmljoncoaaGreatDoor.PA
open Go.RowKit Go.Proofs.YtnmlmgmljoncoaaGreatDoorW.PrintWords Go.Proofs.YtnmlmgmljoncoaaGreatDoorW.PrintLast Go.Proofs.YtnmlmgmljoncoaaGreatDoorW.PrintMore
attribute [local go_sem] max2_int min2_int max_two min_two max_three min_three max_four min_four   -- for this text's walks alone
set_option linter.unusedVariables false
set_option linter.unusedSimpArgs false
set_option maxHeartbeats 8000000
set_option maxRecDepth 100000
def trunnionref14_doubles.f  : Option (List ByteArray) := some (([(⟨#[97, 98, 115]⟩ : ByteArray), (⟨#[110, 101, 103]⟩ : ByteArray), (⟨#[99, 101, 105, 108]⟩ : ByteArray), (⟨#[102, 108, 111, 111, 114]⟩ : ByteArray), (⟨#[116, 114, 117, 110, 99]⟩ : ByteArray), (⟨#[110, 101, 97, 114, 101, 115, 116]⟩ : ByteArray), (⟨#[115, 113, 114, 116]⟩ : ByteArray), (⟨#[97, 100, 100]⟩ : ByteArray), (⟨#[115, 117, 98]⟩ : ByteArray), (⟨#[109, 117, 108]⟩ : ByteArray), (⟨#[100, 105, 118]⟩ : ByteArray), (⟨#[109, 105, 110]⟩ : ByteArray), (⟨#[109, 97, 120]⟩ : ByteArray), (⟨#[99, 111, 112, 121, 115, 105, 103, 110]⟩ : ByteArray)] : List ByteArray))
theorem trunnionref14_doubles.calls  (r : List ByteArray) (w : World) (h : trunnionref14_doubles.f  = some r) :
  Calls Tryz.prog 162 #[] w fun e w' => ∃ v0_ : Value, e = .returned (v0_) ∧ Kd.R Kd.string 9 w' w.heap.size (fun _ => True) v0_ r ∧ Below w.heap.size w w' := by
 have HB := A_ (Below.refl w.heap.size w)
 have H : (some (([(⟨#[97, 98, 115]⟩ : ByteArray), (⟨#[110, 101, 103]⟩ : ByteArray), (⟨#[99, 101, 105, 108]⟩ : ByteArray), (⟨#[102, 108, 111, 111, 114]⟩ : ByteArray), (⟨#[116, 114, 117, 110, 99]⟩ : ByteArray), (⟨#[110, 101, 97, 114, 101, 115, 116]⟩ : ByteArray), (⟨#[115, 113, 114, 116]⟩ : ByteArray), (⟨#[97, 100, 100]⟩ : ByteArray), (⟨#[115, 117, 98]⟩ : ByteArray), (⟨#[109, 117, 108]⟩ : ByteArray), (⟨#[100, 105, 118]⟩ : ByteArray), (⟨#[109, 105, 110]⟩ : ByteArray), (⟨#[109, 97, 120]⟩ : ByteArray), (⟨#[99, 111, 112, 121, 115, 105, 103, 110]⟩ : ByteArray)] : List ByteArray))) = some r := h
 clear h
 obtain ⟨y605, hy605⟩ : ∃ y_ : List ByteArray, y_ = (([(⟨#[97, 98, 115]⟩ : ByteArray), (⟨#[110, 101, 103]⟩ : ByteArray), (⟨#[99, 101, 105, 108]⟩ : ByteArray), (⟨#[102, 108, 111, 111, 114]⟩ : ByteArray), (⟨#[116, 114, 117, 110, 99]⟩ : ByteArray), (⟨#[110, 101, 97, 114, 101, 115, 116]⟩ : ByteArray), (⟨#[115, 113, 114, 116]⟩ : ByteArray), (⟨#[97, 100, 100]⟩ : ByteArray), (⟨#[115, 117, 98]⟩ : ByteArray), (⟨#[109, 117, 108]⟩ : ByteArray), (⟨#[100, 105, 118]⟩ : ByteArray), (⟨#[109, 105, 110]⟩ : ByteArray), (⟨#[109, 97, 120]⟩ : ByteArray), (⟨#[99, 111, 112, 121, 115, 105, 103, 110]⟩ : ByteArray)] : List ByteArray)) := ⟨_, rfl⟩
 replace H : (some y605) = some r := by first | (rw [hy605]; with_reducible exact H) | (have H2_ := (Option.bind_some _ _).symm.trans H; rw [hy605]; with_reducible exact H2_) | (have H2_ := (Option.bind_some _ _).symm.trans H; with_reducible exact H2_) | with_reducible exact H | (rw [hy605]; exact H) | exact H
 have Ny605 := A_ hy605;clear hy605
 obtain rfl := Option.some.inj H
 go_enter Tryz.func162, Tryz.ntmps162
 go_wp2_with (first | ((with_reducible refine gate_dst (N := 1) rfl ?_); refine Kd.R_lit Kd.string _ 9 ?hg (N := 1) ?hd (xs := ([(⟨#[97, 98, 115]⟩ : ByteArray), (⟨#[110, 101, 103]⟩ : ByteArray), (⟨#[99, 101, 105, 108]⟩ : ByteArray), (⟨#[102, 108, 111, 111, 114]⟩ : ByteArray), (⟨#[116, 114, 117, 110, 99]⟩ : ByteArray), (⟨#[110, 101, 97, 114, 101, 115, 116]⟩ : ByteArray), (⟨#[115, 113, 114, 116]⟩ : ByteArray), (⟨#[97, 100, 100]⟩ : ByteArray), (⟨#[115, 117, 98]⟩ : ByteArray), (⟨#[109, 117, 108]⟩ : ByteArray), (⟨#[100, 105, 118]⟩ : ByteArray), (⟨#[109, 105, 110]⟩ : ByteArray), (⟨#[109, 97, 120]⟩ : ByteArray), (⟨#[99, 111, 112, 121, 115, 105, 103, 110]⟩ : ByteArray)] : List ByteArray)) (inner := [.string (⟨#[97, 98, 115]⟩ : ByteArray), .string (⟨#[110, 101, 103]⟩ : ByteArray), .string (⟨#[99, 101, 105, 108]⟩ : ByteArray), .string (⟨#[102, 108, 111, 111, 114]⟩ : ByteArray), .string (⟨#[116, 114, 117, 110, 99]⟩ : ByteArray), .string (⟨#[110, 101, 97, 114, 101, 115, 116]⟩ : ByteArray), .string (⟨#[115, 113, 114, 116]⟩ : ByteArray), .string (⟨#[97, 100, 100]⟩ : ByteArray), .string (⟨#[115, 117, 98]⟩ : ByteArray), .string (⟨#[109, 117, 108]⟩ : ByteArray), .string (⟨#[100, 105, 118]⟩ : ByteArray), .string (⟨#[109, 105, 110]⟩ : ByteArray), .string (⟨#[109, 97, 120]⟩ : ByteArray), .string (⟨#[99, 111, 112, 121, 115, 105, 103, 110]⟩ : ByteArray)]) (ok := fun _ => True) (okp := fun _ => True) ?hr ?hp (fun _ hk => hk) trivial (Below.refl _ _) (Nat.le_refl _) (by simp) ?_; (case hd => rfl); (case hg => rfl); (case hr => first | (go_simp; done) | (go_simp; rfl)); (case hp => exact (Reps.one (show Kd.M Kd.string _ _ _ (⟨#[97, 98, 115]⟩ : ByteArray) [.string (⟨#[97, 98, 115]⟩ : ByteArray)] from rfl) (Reps.one (show Kd.M Kd.string _ _ _ (⟨#[110, 101, 103]⟩ : ByteArray) [.string (⟨#[110, 101, 103]⟩ : ByteArray)] from rfl) (Reps.one (show Kd.M Kd.string _ _ _ (⟨#[99, 101, 105, 108]⟩ : ByteArray) [.string (⟨#[99, 101, 105, 108]⟩ : ByteArray)] from rfl) (Reps.one (show Kd.M Kd.string _ _ _ (⟨#[102, 108, 111, 111, 114]⟩ : ByteArray) [.string (⟨#[102, 108, 111, 111, 114]⟩ : ByteArray)] from rfl) (Reps.one (show Kd.M Kd.string _ _ _ (⟨#[116, 114, 117, 110, 99]⟩ : ByteArray) [.string (⟨#[116, 114, 117, 110, 99]⟩ : ByteArray)] from rfl) (Reps.one (show Kd.M Kd.string _ _ _ (⟨#[110, 101, 97, 114, 101, 115, 116]⟩ : ByteArray) [.string (⟨#[110, 101, 97, 114, 101, 115, 116]⟩ : ByteArray)] from rfl) (Reps.one (show Kd.M Kd.string _ _ _ (⟨#[115, 113, 114, 116]⟩ : ByteArray) [.string (⟨#[115, 113, 114, 116]⟩ : ByteArray)] from rfl) (Reps.one (show Kd.M Kd.string _ _ _ (⟨#[97, 100, 100]⟩ : ByteArray) [.string (⟨#[97, 100, 100]⟩ : ByteArray)] from rfl) (Reps.one (show Kd.M Kd.string _ _ _ (⟨#[115, 117, 98]⟩ : ByteArray) [.string (⟨#[115, 117, 98]⟩ : ByteArray)] from rfl) (Reps.one (show Kd.M Kd.string _ _ _ (⟨#[109, 117, 108]⟩ : ByteArray) [.string (⟨#[109, 117, 108]⟩ : ByteArray)] from rfl) (Reps.one (show Kd.M Kd.string _ _ _ (⟨#[100, 105, 118]⟩ : ByteArray) [.string (⟨#[100, 105, 118]⟩ : ByteArray)] from rfl) (Reps.one (show Kd.M Kd.string _ _ _ (⟨#[109, 105, 110]⟩ : ByteArray) [.string (⟨#[109, 105, 110]⟩ : ByteArray)] from rfl) (Reps.one (show Kd.M Kd.string _ _ _ (⟨#[109, 97, 120]⟩ : ByteArray) [.string (⟨#[109, 97, 120]⟩ : ByteArray)] from rfl) (Reps.one (show Kd.M Kd.string _ _ _ (⟨#[99, 111, 112, 121, 115, 105, 103, 110]⟩ : ByteArray) [.string (⟨#[99, 111, 112, 121, 115, 105, 103, 110]⟩ : ByteArray)] from rfl) (Reps.none _ _)))))))))))))))); intro v606 w1 ho2 hb hg_ hnew_; clear hg_ hnew_; (first | rw [← Ny605.out] at ho2 | (simp only [Int.reduceToNat] at ho2; rw [← Ny605.out] at ho2)); have HO607 := A_ (Kd.R_lower ho2 (below_size (hb_ HB.out))); replace HB := A_ (below_step (hb_ HB.out) hb); clear hb ho2))
 go_ret
 exact ⟨_, by first | rfl | (simp [errW_none, errW_some] <;> rfl) | (simp [*, errW_none, errW_some] <;> rfl), by (with_reducible repeat (first | apply Kd.R_alloc | apply Kd.R_drewN | apply Kd.R_drew)); exact HO607.out, hb_ HB.out⟩
def trunnionref14_floats.f  : Option (List ByteArray) := some (([(⟨#[101, 113]⟩ : ByteArray), (⟨#[110, 101]⟩ : ByteArray), (⟨#[108, 116]⟩ : ByteArray), (⟨#[103, 116]⟩ : ByteArray), (⟨#[108, 101]⟩ : ByteArray), (⟨#[103, 101]⟩ : ByteArray)] : List ByteArray))
theorem trunnionref14_floats.calls  (r : List ByteArray) (w : World) (h : trunnionref14_floats.f  = some r) :
  Calls Tryz.prog 57 #[] w fun e w' => ∃ v0_ : Value, e = .returned (v0_) ∧ Kd.R Kd.string 9 w' w.heap.size (fun _ => True) v0_ r ∧ Below w.heap.size w w' := by
 have HB := A_ (Below.refl w.heap.size w)
 have H : (some (([(⟨#[101, 113]⟩ : ByteArray), (⟨#[110, 101]⟩ : ByteArray), (⟨#[108, 116]⟩ : ByteArray), (⟨#[103, 116]⟩ : ByteArray), (⟨#[108, 101]⟩ : ByteArray), (⟨#[103, 101]⟩ : ByteArray)] : List ByteArray))) = some r := h
 clear h
 obtain ⟨y599, hy599⟩ : ∃ y_ : List ByteArray, y_ = (([(⟨#[101, 113]⟩ : ByteArray), (⟨#[110, 101]⟩ : ByteArray), (⟨#[108, 116]⟩ : ByteArray), (⟨#[103, 116]⟩ : ByteArray), (⟨#[108, 101]⟩ : ByteArray), (⟨#[103, 101]⟩ : ByteArray)] : List ByteArray)) := ⟨_, rfl⟩
 replace H : (some y599) = some r := by first | (rw [hy599]; with_reducible exact H) | (have H2_ := (Option.bind_some _ _).symm.trans H; rw [hy599]; with_reducible exact H2_) | (have H2_ := (Option.bind_some _ _).symm.trans H; with_reducible exact H2_) | with_reducible exact H | (rw [hy599]; exact H) | exact H
 have Ny599 := A_ hy599;clear hy599
 obtain rfl := Option.some.inj H
 go_enter Tryz.func57, Tryz.ntmps57
 go_wp2_with (first | ((with_reducible refine gate_dst (N := 1) rfl ?_); refine Kd.R_lit Kd.string _ 9 ?hg (N := 1) ?hd (xs := ([(⟨#[101, 113]⟩ : ByteArray), (⟨#[110, 101]⟩ : ByteArray), (⟨#[108, 116]⟩ : ByteArray), (⟨#[103, 116]⟩ : ByteArray), (⟨#[108, 101]⟩ : ByteArray), (⟨#[103, 101]⟩ : ByteArray)] : List ByteArray)) (inner := [.string (⟨#[101, 113]⟩ : ByteArray), .string (⟨#[110, 101]⟩ : ByteArray), .string (⟨#[108, 116]⟩ : ByteArray), .string (⟨#[103, 116]⟩ : ByteArray), .string (⟨#[108, 101]⟩ : ByteArray), .string (⟨#[103, 101]⟩ : ByteArray)]) (ok := fun _ => True) (okp := fun _ => True) ?hr ?hp (fun _ hk => hk) trivial (Below.refl _ _) (Nat.le_refl _) (by simp) ?_; (case hd => rfl); (case hg => rfl); (case hr => first | (go_simp; done) | (go_simp; rfl)); (case hp => exact (Reps.one (show Kd.M Kd.string _ _ _ (⟨#[101, 113]⟩ : ByteArray) [.string (⟨#[101, 113]⟩ : ByteArray)] from rfl) (Reps.one (show Kd.M Kd.string _ _ _ (⟨#[110, 101]⟩ : ByteArray) [.string (⟨#[110, 101]⟩ : ByteArray)] from rfl) (Reps.one (show Kd.M Kd.string _ _ _ (⟨#[108, 116]⟩ : ByteArray) [.string (⟨#[108, 116]⟩ : ByteArray)] from rfl) (Reps.one (show Kd.M Kd.string _ _ _ (⟨#[103, 116]⟩ : ByteArray) [.string (⟨#[103, 116]⟩ : ByteArray)] from rfl) (Reps.one (show Kd.M Kd.string _ _ _ (⟨#[108, 101]⟩ : ByteArray) [.string (⟨#[108, 101]⟩ : ByteArray)] from rfl) (Reps.one (show Kd.M Kd.string _ _ _ (⟨#[103, 101]⟩ : ByteArray) [.string (⟨#[103, 101]⟩ : ByteArray)] from rfl) (Reps.none _ _)))))))); intro v600 w1 ho2 hb hg_ hnew_; clear hg_ hnew_; (first | rw [← Ny599.out] at ho2 | (simp only [Int.reduceToNat] at ho2; rw [← Ny599.out] at ho2)); have HO601 := A_ (Kd.R_lower ho2 (below_size (hb_ HB.out))); replace HB := A_ (below_step (hb_ HB.out) hb); clear hb ho2))
 go_ret
 exact ⟨_, by first | rfl | (simp [errW_none, errW_some] <;> rfl) | (simp [*, errW_none, errW_some] <;> rfl), by (with_reducible repeat (first | apply Kd.R_alloc | apply Kd.R_drewN | apply Kd.R_drew)); exact HO601.out, hb_ HB.out⟩
def trunnionref14_relations.f  : Option (List ByteArray) := some (([(⟨#[101, 113, 122]⟩ : ByteArray), (⟨#[101, 113]⟩ : ByteArray), (⟨#[110, 101]⟩ : ByteArray), (⟨#[108, 116, 95, 115]⟩ : ByteArray), (⟨#[108, 116, 95, 117]⟩ : ByteArray), (⟨#[103, 116, 95, 115]⟩ : ByteArray), (⟨#[103, 116, 95, 117]⟩ : ByteArray), (⟨#[108, 101, 95, 115]⟩ : ByteArray), (⟨#[108, 101, 95, 117]⟩ : ByteArray), (⟨#[103, 101, 95, 115]⟩ : ByteArray), (⟨#[103, 101, 95, 117]⟩ : ByteArray)] : List ByteArray))
theorem trunnionref14_relations.calls  (r : List ByteArray) (w : World) (h : trunnionref14_relations.f  = some r) :
  Calls Tryz.prog 56 #[] w fun e w' => ∃ v0_ : Value, e = .returned (v0_) ∧ Kd.R Kd.string 9 w' w.heap.size (fun _ => True) v0_ r ∧ Below w.heap.size w w' := by
 have HB := A_ (Below.refl w.heap.size w)
 have H : (some (([(⟨#[101, 113, 122]⟩ : ByteArray), (⟨#[101, 113]⟩ : ByteArray), (⟨#[110, 101]⟩ : ByteArray), (⟨#[108, 116, 95, 115]⟩ : ByteArray), (⟨#[108, 116, 95, 117]⟩ : ByteArray), (⟨#[103, 116, 95, 115]⟩ : ByteArray), (⟨#[103, 116, 95, 117]⟩ : ByteArray), (⟨#[108, 101, 95, 115]⟩ : ByteArray), (⟨#[108, 101, 95, 117]⟩ : ByteArray), (⟨#[103, 101, 95, 115]⟩ : ByteArray), (⟨#[103, 101, 95, 117]⟩ : ByteArray)] : List ByteArray))) = some r := h
 clear h
 obtain ⟨y596, hy596⟩ : ∃ y_ : List ByteArray, y_ = (([(⟨#[101, 113, 122]⟩ : ByteArray), (⟨#[101, 113]⟩ : ByteArray), (⟨#[110, 101]⟩ : ByteArray), (⟨#[108, 116, 95, 115]⟩ : ByteArray), (⟨#[108, 116, 95, 117]⟩ : ByteArray), (⟨#[103, 116, 95, 115]⟩ : ByteArray), (⟨#[103, 116, 95, 117]⟩ : ByteArray), (⟨#[108, 101, 95, 115]⟩ : ByteArray), (⟨#[108, 101, 95, 117]⟩ : ByteArray), (⟨#[103, 101, 95, 115]⟩ : ByteArray), (⟨#[103, 101, 95, 117]⟩ : ByteArray)] : List ByteArray)) := ⟨_, rfl⟩
 replace H : (some y596) = some r := by first | (rw [hy596]; with_reducible exact H) | (have H2_ := (Option.bind_some _ _).symm.trans H; rw [hy596]; with_reducible exact H2_) | (have H2_ := (Option.bind_some _ _).symm.trans H; with_reducible exact H2_) | with_reducible exact H | (rw [hy596]; exact H) | exact H
 have Ny596 := A_ hy596;clear hy596
 obtain rfl := Option.some.inj H
 go_enter Tryz.func56, Tryz.ntmps56
 go_wp2_with (first | ((with_reducible refine gate_dst (N := 1) rfl ?_); refine Kd.R_lit Kd.string _ 9 ?hg (N := 1) ?hd (xs := ([(⟨#[101, 113, 122]⟩ : ByteArray), (⟨#[101, 113]⟩ : ByteArray), (⟨#[110, 101]⟩ : ByteArray), (⟨#[108, 116, 95, 115]⟩ : ByteArray), (⟨#[108, 116, 95, 117]⟩ : ByteArray), (⟨#[103, 116, 95, 115]⟩ : ByteArray), (⟨#[103, 116, 95, 117]⟩ : ByteArray), (⟨#[108, 101, 95, 115]⟩ : ByteArray), (⟨#[108, 101, 95, 117]⟩ : ByteArray), (⟨#[103, 101, 95, 115]⟩ : ByteArray), (⟨#[103, 101, 95, 117]⟩ : ByteArray)] : List ByteArray)) (inner := [.string (⟨#[101, 113, 122]⟩ : ByteArray), .string (⟨#[101, 113]⟩ : ByteArray), .string (⟨#[110, 101]⟩ : ByteArray), .string (⟨#[108, 116, 95, 115]⟩ : ByteArray), .string (⟨#[108, 116, 95, 117]⟩ : ByteArray), .string (⟨#[103, 116, 95, 115]⟩ : ByteArray), .string (⟨#[103, 116, 95, 117]⟩ : ByteArray), .string (⟨#[108, 101, 95, 115]⟩ : ByteArray), .string (⟨#[108, 101, 95, 117]⟩ : ByteArray), .string (⟨#[103, 101, 95, 115]⟩ : ByteArray), .string (⟨#[103, 101, 95, 117]⟩ : ByteArray)]) (ok := fun _ => True) (okp := fun _ => True) ?hr ?hp (fun _ hk => hk) trivial (Below.refl _ _) (Nat.le_refl _) (by simp) ?_; (case hd => rfl); (case hg => rfl); (case hr => first | (go_simp; done) | (go_simp; rfl)); (case hp => exact (Reps.one (show Kd.M Kd.string _ _ _ (⟨#[101, 113, 122]⟩ : ByteArray) [.string (⟨#[101, 113, 122]⟩ : ByteArray)] from rfl) (Reps.one (show Kd.M Kd.string _ _ _ (⟨#[101, 113]⟩ : ByteArray) [.string (⟨#[101, 113]⟩ : ByteArray)] from rfl) (Reps.one (show Kd.M Kd.string _ _ _ (⟨#[110, 101]⟩ : ByteArray) [.string (⟨#[110, 101]⟩ : ByteArray)] from rfl) (Reps.one (show Kd.M Kd.string _ _ _ (⟨#[108, 116, 95, 115]⟩ : ByteArray) [.string (⟨#[108, 116, 95, 115]⟩ : ByteArray)] from rfl) (Reps.one (show Kd.M Kd.string _ _ _ (⟨#[108, 116, 95, 117]⟩ : ByteArray) [.string (⟨#[108, 116, 95, 117]⟩ : ByteArray)] from rfl) (Reps.one (show Kd.M Kd.string _ _ _ (⟨#[103, 116, 95, 115]⟩ : ByteArray) [.string (⟨#[103, 116, 95, 115]⟩ : ByteArray)] from rfl) (Reps.one (show Kd.M Kd.string _ _ _ (⟨#[103, 116, 95, 117]⟩ : ByteArray) [.string (⟨#[103, 116, 95, 117]⟩ : ByteArray)] from rfl) (Reps.one (show Kd.M Kd.string _ _ _ (⟨#[108, 101, 95, 115]⟩ : ByteArray) [.string (⟨#[108, 101, 95, 115]⟩ : ByteArray)] from rfl) (Reps.one (show Kd.M Kd.string _ _ _ (⟨#[108, 101, 95, 117]⟩ : ByteArray) [.string (⟨#[108, 101, 95, 117]⟩ : ByteArray)] from rfl) (Reps.one (show Kd.M Kd.string _ _ _ (⟨#[103, 101, 95, 115]⟩ : ByteArray) [.string (⟨#[103, 101, 95, 115]⟩ : ByteArray)] from rfl) (Reps.one (show Kd.M Kd.string _ _ _ (⟨#[103, 101, 95, 117]⟩ : ByteArray) [.string (⟨#[103, 101, 95, 117]⟩ : ByteArray)] from rfl) (Reps.none _ _))))))))))))); intro v597 w1 ho2 hb hg_ hnew_; clear hg_ hnew_; (first | rw [← Ny596.out] at ho2 | (simp only [Int.reduceToNat] at ho2; rw [← Ny596.out] at ho2)); have HO598 := A_ (Kd.R_lower ho2 (below_size (hb_ HB.out))); replace HB := A_ (below_step (hb_ HB.out) hb); clear hb ho2))
 go_ret
 exact ⟨_, by first | rfl | (simp [errW_none, errW_some] <;> rfl) | (simp [*, errW_none, errW_some] <;> rfl), by (with_reducible repeat (first | apply Kd.R_alloc | apply Kd.R_drewN | apply Kd.R_drew)); exact HO598.out, hb_ HB.out⟩
def trunnionref14_turns.f  : Option (List ByteArray) := some (([(⟨#[105, 51, 50, 46, 119, 114, 97, 112, 95, 105, 54, 52]⟩ : ByteArray), (⟨#[105, 51, 50, 46, 116, 114, 117, 110, 99, 95, 102, 51, 50, 95, 115]⟩ : ByteArray), (⟨#[105, 51, 50, 46, 116, 114, 117, 110, 99, 95, 102, 51, 50, 95, 117]⟩ : ByteArray), (⟨#[105, 51, 50, 46, 116, 114, 117, 110, 99, 95, 102, 54, 52, 95, 115]⟩ : ByteArray), (⟨#[105, 51, 50, 46, 116, 114, 117, 110, 99, 95, 102, 54, 52, 95, 117]⟩ : ByteArray), (⟨#[105, 54, 52, 46, 101, 120, 116, 101, 110, 100, 95, 105, 51, 50, 95, 115]⟩ : ByteArray), (⟨#[105, 54, 52, 46, 101, 120, 116, 101, 110, 100, 95, 105, 51, 50, 95, 117]⟩ : ByteArray), (⟨#[105, 54, 52, 46, 116, 114, 117, 110, 99, 95, 102, 51, 50, 95, 115]⟩ : ByteArray), (⟨#[105, 54, 52, 46, 116, 114, 117, 110, 99, 95, 102, 51, 50, 95, 117]⟩ : ByteArray), (⟨#[105, 54, 52, 46, 116, 114, 117, 110, 99, 95, 102, 54, 52, 95, 115]⟩ : ByteArray), (⟨#[105, 54, 52, 46, 116, 114, 117, 110, 99, 95, 102, 54, 52, 95, 117]⟩ : ByteArray), (⟨#[102, 51, 50, 46, 99, 111, 110, 118, 101, 114, 116, 95, 105, 51, 50, 95, 115]⟩ : ByteArray), (⟨#[102, 51, 50, 46, 99, 111, 110, 118, 101, 114, 116, 95, 105, 51, 50, 95, 117]⟩ : ByteArray), (⟨#[102, 51, 50, 46, 99, 111, 110, 118, 101, 114, 116, 95, 105, 54, 52, 95, 115]⟩ : ByteArray), (⟨#[102, 51, 50, 46, 99, 111, 110, 118, 101, 114, 116, 95, 105, 54, 52, 95, 117]⟩ : ByteArray), (⟨#[102, 51, 50, 46, 100, 101, 109, 111, 116, 101, 95, 102, 54, 52]⟩ : ByteArray), (⟨#[102, 54, 52, 46, 99, 111, 110, 118, 101, 114, 116, 95, 105, 51, 50, 95, 115]⟩ : ByteArray), (⟨#[102, 54, 52, 46, 99, 111, 110, 118, 101, 114, 116, 95, 105, 51, 50, 95, 117]⟩ : ByteArray), (⟨#[102, 54, 52, 46, 99, 111, 110, 118, 101, 114, 116, 95, 105, 54, 52, 95, 115]⟩ : ByteArray), (⟨#[102, 54, 52, 46, 99, 111, 110, 118, 101, 114, 116, 95, 105, 54, 52, 95, 117]⟩ : ByteArray), (⟨#[102, 54, 52, 46, 112, 114, 111, 109, 111, 116, 101, 95, 102, 51, 50]⟩ : ByteArray), (⟨#[105, 51, 50, 46, 114, 101, 105, 110, 116, 101, 114, 112, 114, 101, 116, 95, 102, 51, 50]⟩ : ByteArray), (⟨#[105, 54, 52, 46, 114, 101, 105, 110, 116, 101, 114, 112, 114, 101, 116, 95, 102, 54, 52]⟩ : ByteArray), (⟨#[102, 51, 50, 46, 114, 101, 105, 110, 116, 101, 114, 112, 114, 101, 116, 95, 105, 51, 50]⟩ : ByteArray), (⟨#[102, 54, 52, 46, 114, 101, 105, 110, 116, 101, 114, 112, 114, 101, 116, 95, 105, 54, 52]⟩ : ByteArray)] : List ByteArray))
theorem trunnionref14_turns.calls  (r : List ByteArray) (w : World) (h : trunnionref14_turns.f  = some r) :
  Calls Tryz.prog 163 #[] w fun e w' => ∃ v0_ : Value, e = .returned (v0_) ∧ Kd.R Kd.string 9 w' w.heap.size (fun _ => True) v0_ r ∧ Below w.heap.size w w' := by
 have HB := A_ (Below.refl w.heap.size w)
 have H : (some (([(⟨#[105, 51, 50, 46, 119, 114, 97, 112, 95, 105, 54, 52]⟩ : ByteArray), (⟨#[105, 51, 50, 46, 116, 114, 117, 110, 99, 95, 102, 51, 50, 95, 115]⟩ : ByteArray), (⟨#[105, 51, 50, 46, 116, 114, 117, 110, 99, 95, 102, 51, 50, 95, 117]⟩ : ByteArray), (⟨#[105, 51, 50, 46, 116, 114, 117, 110, 99, 95, 102, 54, 52, 95, 115]⟩ : ByteArray), (⟨#[105, 51, 50, 46, 116, 114, 117, 110, 99, 95, 102, 54, 52, 95, 117]⟩ : ByteArray), (⟨#[105, 54, 52, 46, 101, 120, 116, 101, 110, 100, 95, 105, 51, 50, 95, 115]⟩ : ByteArray), (⟨#[105, 54, 52, 46, 101, 120, 116, 101, 110, 100, 95, 105, 51, 50, 95, 117]⟩ : ByteArray), (⟨#[105, 54, 52, 46, 116, 114, 117, 110, 99, 95, 102, 51, 50, 95, 115]⟩ : ByteArray), (⟨#[105, 54, 52, 46, 116, 114, 117, 110, 99, 95, 102, 51, 50, 95, 117]⟩ : ByteArray), (⟨#[105, 54, 52, 46, 116, 114, 117, 110, 99, 95, 102, 54, 52, 95, 115]⟩ : ByteArray), (⟨#[105, 54, 52, 46, 116, 114, 117, 110, 99, 95, 102, 54, 52, 95, 117]⟩ : ByteArray), (⟨#[102, 51, 50, 46, 99, 111, 110, 118, 101, 114, 116, 95, 105, 51, 50, 95, 115]⟩ : ByteArray), (⟨#[102, 51, 50, 46, 99, 111, 110, 118, 101, 114, 116, 95, 105, 51, 50, 95, 117]⟩ : ByteArray), (⟨#[102, 51, 50, 46, 99, 111, 110, 118, 101, 114, 116, 95, 105, 54, 52, 95, 115]⟩ : ByteArray), (⟨#[102, 51, 50, 46, 99, 111, 110, 118, 101, 114, 116, 95, 105, 54, 52, 95, 117]⟩ : ByteArray), (⟨#[102, 51, 50, 46, 100, 101, 109, 111, 116, 101, 95, 102, 54, 52]⟩ : ByteArray), (⟨#[102, 54, 52, 46, 99, 111, 110, 118, 101, 114, 116, 95, 105, 51, 50, 95, 115]⟩ : ByteArray), (⟨#[102, 54, 52, 46, 99, 111, 110, 118, 101, 114, 116, 95, 105, 51, 50, 95, 117]⟩ : ByteArray), (⟨#[102, 54, 52, 46, 99, 111, 110, 118, 101, 114, 116, 95, 105, 54, 52, 95, 115]⟩ : ByteArray), (⟨#[102, 54, 52, 46, 99, 111, 110, 118, 101, 114, 116, 95, 105, 54, 52, 95, 117]⟩ : ByteArray), (⟨#[102, 54, 52, 46, 112, 114, 111, 109, 111, 116, 101, 95, 102, 51, 50]⟩ : ByteArray), (⟨#[105, 51, 50, 46, 114, 101, 105, 110, 116, 101, 114, 112, 114, 101, 116, 95, 102, 51, 50]⟩ : ByteArray), (⟨#[105, 54, 52, 46, 114, 101, 105, 110, 116, 101, 114, 112, 114, 101, 116, 95, 102, 54, 52]⟩ : ByteArray), (⟨#[102, 51, 50, 46, 114, 101, 105, 110, 116, 101, 114, 112, 114, 101, 116, 95, 105, 51, 50]⟩ : ByteArray), (⟨#[102, 54, 52, 46, 114, 101, 105, 110, 116, 101, 114, 112, 114, 101, 116, 95, 105, 54, 52]⟩ : ByteArray)] : List ByteArray))) = some r := h
 clear h
 obtain ⟨y608, hy608⟩ : ∃ y_ : List ByteArray, y_ = (([(⟨#[105, 51, 50, 46, 119, 114, 97, 112, 95, 105, 54, 52]⟩ : ByteArray), (⟨#[105, 51, 50, 46, 116, 114, 117, 110, 99, 95, 102, 51, 50, 95, 115]⟩ : ByteArray), (⟨#[105, 51, 50, 46, 116, 114, 117, 110, 99, 95, 102, 51, 50, 95, 117]⟩ : ByteArray), (⟨#[105, 51, 50, 46, 116, 114, 117, 110, 99, 95, 102, 54, 52, 95, 115]⟩ : ByteArray), (⟨#[105, 51, 50, 46, 116, 114, 117, 110, 99, 95, 102, 54, 52, 95, 117]⟩ : ByteArray), (⟨#[105, 54, 52, 46, 101, 120, 116, 101, 110, 100, 95, 105, 51, 50, 95, 115]⟩ : ByteArray), (⟨#[105, 54, 52, 46, 101, 120, 116, 101, 110, 100, 95, 105, 51, 50, 95, 117]⟩ : ByteArray), (⟨#[105, 54, 52, 46, 116, 114, 117, 110, 99, 95, 102, 51, 50, 95, 115]⟩ : ByteArray), (⟨#[105, 54, 52, 46, 116, 114, 117, 110, 99, 95, 102, 51, 50, 95, 117]⟩ : ByteArray), (⟨#[105, 54, 52, 46, 116, 114, 117, 110, 99, 95, 102, 54, 52, 95, 115]⟩ : ByteArray), (⟨#[105, 54, 52, 46, 116, 114, 117, 110, 99, 95, 102, 54, 52, 95, 117]⟩ : ByteArray), (⟨#[102, 51, 50, 46, 99, 111, 110, 118, 101, 114, 116, 95, 105, 51, 50, 95, 115]⟩ : ByteArray), (⟨#[102, 51, 50, 46, 99, 111, 110, 118, 101, 114, 116, 95, 105, 51, 50, 95, 117]⟩ : ByteArray), (⟨#[102, 51, 50, 46, 99, 111, 110, 118, 101, 114, 116, 95, 105, 54, 52, 95, 115]⟩ : ByteArray), (⟨#[102, 51, 50, 46, 99, 111, 110, 118, 101, 114, 116, 95, 105, 54, 52, 95, 117]⟩ : ByteArray), (⟨#[102, 51, 50, 46, 100, 101, 109, 111, 116, 101, 95, 102, 54, 52]⟩ : ByteArray), (⟨#[102, 54, 52, 46, 99, 111, 110, 118, 101, 114, 116, 95, 105, 51, 50, 95, 115]⟩ : ByteArray), (⟨#[102, 54, 52, 46, 99, 111, 110, 118, 101, 114, 116, 95, 105, 51, 50, 95, 117]⟩ : ByteArray), (⟨#[102, 54, 52, 46, 99, 111, 110, 118, 101, 114, 116, 95, 105, 54, 52, 95, 115]⟩ : ByteArray), (⟨#[102, 54, 52, 46, 99, 111, 110, 118, 101, 114, 116, 95, 105, 54, 52, 95, 117]⟩ : ByteArray), (⟨#[102, 54, 52, 46, 112, 114, 111, 109, 111, 116, 101, 95, 102, 51, 50]⟩ : ByteArray), (⟨#[105, 51, 50, 46, 114, 101, 105, 110, 116, 101, 114, 112, 114, 101, 116, 95, 102, 51, 50]⟩ : ByteArray), (⟨#[105, 54, 52, 46, 114, 101, 105, 110, 116, 101, 114, 112, 114, 101, 116, 95, 102, 54, 52]⟩ : ByteArray), (⟨#[102, 51, 50, 46, 114, 101, 105, 110, 116, 101, 114, 112, 114, 101, 116, 95, 105, 51, 50]⟩ : ByteArray), (⟨#[102, 54, 52, 46, 114, 101, 105, 110, 116, 101, 114, 112, 114, 101, 116, 95, 105, 54, 52]⟩ : ByteArray)] : List ByteArray)) := ⟨_, rfl⟩
 replace H : (some y608) = some r := by first | (rw [hy608]; with_reducible exact H) | (have H2_ := (Option.bind_some _ _).symm.trans H; rw [hy608]; with_reducible exact H2_) | (have H2_ := (Option.bind_some _ _).symm.trans H; with_reducible exact H2_) | with_reducible exact H | (rw [hy608]; exact H) | exact H
 have Ny608 := A_ hy608;clear hy608
 obtain rfl := Option.some.inj H
 go_enter Tryz.func163, Tryz.ntmps163
 go_wp2_with (first | ((with_reducible refine gate_dst (N := 1) rfl ?_); refine Kd.R_lit Kd.string _ 9 ?hg (N := 1) ?hd (xs := ([(⟨#[105, 51, 50, 46, 119, 114, 97, 112, 95, 105, 54, 52]⟩ : ByteArray), (⟨#[105, 51, 50, 46, 116, 114, 117, 110, 99, 95, 102, 51, 50, 95, 115]⟩ : ByteArray), (⟨#[105, 51, 50, 46, 116, 114, 117, 110, 99, 95, 102, 51, 50, 95, 117]⟩ : ByteArray), (⟨#[105, 51, 50, 46, 116, 114, 117, 110, 99, 95, 102, 54, 52, 95, 115]⟩ : ByteArray), (⟨#[105, 51, 50, 46, 116, 114, 117, 110, 99, 95, 102, 54, 52, 95, 117]⟩ : ByteArray), (⟨#[105, 54, 52, 46, 101, 120, 116, 101, 110, 100, 95, 105, 51, 50, 95, 115]⟩ : ByteArray), (⟨#[105, 54, 52, 46, 101, 120, 116, 101, 110, 100, 95, 105, 51, 50, 95, 117]⟩ : ByteArray), (⟨#[105, 54, 52, 46, 116, 114, 117, 110, 99, 95, 102, 51, 50, 95, 115]⟩ : ByteArray), (⟨#[105, 54, 52, 46, 116, 114, 117, 110, 99, 95, 102, 51, 50, 95, 117]⟩ : ByteArray), (⟨#[105, 54, 52, 46, 116, 114, 117, 110, 99, 95, 102, 54, 52, 95, 115]⟩ : ByteArray), (⟨#[105, 54, 52, 46, 116, 114, 117, 110, 99, 95, 102, 54, 52, 95, 117]⟩ : ByteArray), (⟨#[102, 51, 50, 46, 99, 111, 110, 118, 101, 114, 116, 95, 105, 51, 50, 95, 115]⟩ : ByteArray), (⟨#[102, 51, 50, 46, 99, 111, 110, 118, 101, 114, 116, 95, 105, 51, 50, 95, 117]⟩ : ByteArray), (⟨#[102, 51, 50, 46, 99, 111, 110, 118, 101, 114, 116, 95, 105, 54, 52, 95, 115]⟩ : ByteArray), (⟨#[102, 51, 50, 46, 99, 111, 110, 118, 101, 114, 116, 95, 105, 54, 52, 95, 117]⟩ : ByteArray), (⟨#[102, 51, 50, 46, 100, 101, 109, 111, 116, 101, 95, 102, 54, 52]⟩ : ByteArray), (⟨#[102, 54, 52, 46, 99, 111, 110, 118, 101, 114, 116, 95, 105, 51, 50, 95, 115]⟩ : ByteArray), (⟨#[102, 54, 52, 46, 99, 111, 110, 118, 101, 114, 116, 95, 105, 51, 50, 95, 117]⟩ : ByteArray), (⟨#[102, 54, 52, 46, 99, 111, 110, 118, 101, 114, 116, 95, 105, 54, 52, 95, 115]⟩ : ByteArray), (⟨#[102, 54, 52, 46, 99, 111, 110, 118, 101, 114, 116, 95, 105, 54, 52, 95, 117]⟩ : ByteArray), (⟨#[102, 54, 52, 46, 112, 114, 111, 109, 111, 116, 101, 95, 102, 51, 50]⟩ : ByteArray), (⟨#[105, 51, 50, 46, 114, 101, 105, 110, 116, 101, 114, 112, 114, 101, 116, 95, 102, 51, 50]⟩ : ByteArray), (⟨#[105, 54, 52, 46, 114, 101, 105, 110, 116, 101, 114, 112, 114, 101, 116, 95, 102, 54, 52]⟩ : ByteArray), (⟨#[102, 51, 50, 46, 114, 101, 105, 110, 116, 101, 114, 112, 114, 101, 116, 95, 105, 51, 50]⟩ : ByteArray), (⟨#[102, 54, 52, 46, 114, 101, 105, 110, 116, 101, 114, 112, 114, 101, 116, 95, 105, 54, 52]⟩ : ByteArray)] : List ByteArray)) (inner := [.string (⟨#[105, 51, 50, 46, 119, 114, 97, 112, 95, 105, 54, 52]⟩ : ByteArray), .string (⟨#[105, 51, 50, 46, 116, 114, 117, 110, 99, 95, 102, 51, 50, 95, 115]⟩ : ByteArray), .string (⟨#[105, 51, 50, 46, 116, 114, 117, 110, 99, 95, 102, 51, 50, 95, 117]⟩ : ByteArray), .string (⟨#[105, 51, 50, 46, 116, 114, 117, 110, 99, 95, 102, 54, 52, 95, 115]⟩ : ByteArray), .string (⟨#[105, 51, 50, 46, 116, 114, 117, 110, 99, 95, 102, 54, 52, 95, 117]⟩ : ByteArray), .string (⟨#[105, 54, 52, 46, 101, 120, 116, 101, 110, 100, 95, 105, 51, 50, 95, 115]⟩ : ByteArray), .string (⟨#[105, 54, 52, 46, 101, 120, 116, 101, 110, 100, 95, 105, 51, 50, 95, 117]⟩ : ByteArray), .string (⟨#[105, 54, 52, 46, 116, 114, 117, 110, 99, 95, 102, 51, 50, 95, 115]⟩ : ByteArray), .string (⟨#[105, 54, 52, 46, 116, 114, 117, 110, 99, 95, 102, 51, 50, 95, 117]⟩ : ByteArray), .string (⟨#[105, 54, 52, 46, 116, 114, 117, 110, 99, 95, 102, 54, 52, 95, 115]⟩ : ByteArray), .string (⟨#[105, 54, 52, 46, 116, 114, 117, 110, 99, 95, 102, 54, 52, 95, 117]⟩ : ByteArray), .string (⟨#[102, 51, 50, 46, 99, 111, 110, 118, 101, 114, 116, 95, 105, 51, 50, 95, 115]⟩ : ByteArray), .string (⟨#[102, 51, 50, 46, 99, 111, 110, 118, 101, 114, 116, 95, 105, 51, 50, 95, 117]⟩ : ByteArray), .string (⟨#[102, 51, 50, 46, 99, 111, 110, 118, 101, 114, 116, 95, 105, 54, 52, 95, 115]⟩ : ByteArray), .string (⟨#[102, 51, 50, 46, 99, 111, 110, 118, 101, 114, 116, 95, 105, 54, 52, 95, 117]⟩ : ByteArray), .string (⟨#[102, 51, 50, 46, 100, 101, 109, 111, 116, 101, 95, 102, 54, 52]⟩ : ByteArray), .string (⟨#[102, 54, 52, 46, 99, 111, 110, 118, 101, 114, 116, 95, 105, 51, 50, 95, 115]⟩ : ByteArray), .string (⟨#[102, 54, 52, 46, 99, 111, 110, 118, 101, 114, 116, 95, 105, 51, 50, 95, 117]⟩ : ByteArray), .string (⟨#[102, 54, 52, 46, 99, 111, 110, 118, 101, 114, 116, 95, 105, 54, 52, 95, 115]⟩ : ByteArray), .string (⟨#[102, 54, 52, 46, 99, 111, 110, 118, 101, 114, 116, 95, 105, 54, 52, 95, 117]⟩ : ByteArray), .string (⟨#[102, 54, 52, 46, 112, 114, 111, 109, 111, 116, 101, 95, 102, 51, 50]⟩ : ByteArray), .string (⟨#[105, 51, 50, 46, 114, 101, 105, 110, 116, 101, 114, 112, 114, 101, 116, 95, 102, 51, 50]⟩ : ByteArray), .string (⟨#[105, 54, 52, 46, 114, 101, 105, 110, 116, 101, 114, 112, 114, 101, 116, 95, 102, 54, 52]⟩ : ByteArray), .string (⟨#[102, 51, 50, 46, 114, 101, 105, 110, 116, 101, 114, 112, 114, 101, 116, 95, 105, 51, 50]⟩ : ByteArray), .string (⟨#[102, 54, 52, 46, 114, 101, 105, 110, 116, 101, 114, 112, 114, 101, 116, 95, 105, 54, 52]⟩ : ByteArray)]) (ok := fun _ => True) (okp := fun _ => True) ?hr ?hp (fun _ hk => hk) trivial (Below.refl _ _) (Nat.le_refl _) (by simp) ?_; (case hd => rfl); (case hg => rfl); (case hr => first | (go_simp; done) | (go_simp; rfl)); (case hp => exact (Reps.one (show Kd.M Kd.string _ _ _ (⟨#[105, 51, 50, 46, 119, 114, 97, 112, 95, 105, 54, 52]⟩ : ByteArray) [.string (⟨#[105, 51, 50, 46, 119, 114, 97, 112, 95, 105, 54, 52]⟩ : ByteArray)] from rfl) (Reps.one (show Kd.M Kd.string _ _ _ (⟨#[105, 51, 50, 46, 116, 114, 117, 110, 99, 95, 102, 51, 50, 95, 115]⟩ : ByteArray) [.string (⟨#[105, 51, 50, 46, 116, 114, 117, 110, 99, 95, 102, 51, 50, 95, 115]⟩ : ByteArray)] from rfl) (Reps.one (show Kd.M Kd.string _ _ _ (⟨#[105, 51, 50, 46, 116, 114, 117, 110, 99, 95, 102, 51, 50, 95, 117]⟩ : ByteArray) [.string (⟨#[105, 51, 50, 46, 116, 114, 117, 110, 99, 95, 102, 51, 50, 95, 117]⟩ : ByteArray)] from rfl) (Reps.one (show Kd.M Kd.string _ _ _ (⟨#[105, 51, 50, 46, 116, 114, 117, 110, 99, 95, 102, 54, 52, 95, 115]⟩ : ByteArray) [.string (⟨#[105, 51, 50, 46, 116, 114, 117, 110, 99, 95, 102, 54, 52, 95, 115]⟩ : ByteArray)] from rfl) (Reps.one (show Kd.M Kd.string _ _ _ (⟨#[105, 51, 50, 46, 116, 114, 117, 110, 99, 95, 102, 54, 52, 95, 117]⟩ : ByteArray) [.string (⟨#[105, 51, 50, 46, 116, 114, 117, 110, 99, 95, 102, 54, 52, 95, 117]⟩ : ByteArray)] from rfl) (Reps.one (show Kd.M Kd.string _ _ _ (⟨#[105, 54, 52, 46, 101, 120, 116, 101, 110, 100, 95, 105, 51, 50, 95, 115]⟩ : ByteArray) [.string (⟨#[105, 54, 52, 46, 101, 120, 116, 101, 110, 100, 95, 105, 51, 50, 95, 115]⟩ : ByteArray)] from rfl) (Reps.one (show Kd.M Kd.string _ _ _ (⟨#[105, 54, 52, 46, 101, 120, 116, 101, 110, 100, 95, 105, 51, 50, 95, 117]⟩ : ByteArray) [.string (⟨#[105, 54, 52, 46, 101, 120, 116, 101, 110, 100, 95, 105, 51, 50, 95, 117]⟩ : ByteArray)] from rfl) (Reps.one (show Kd.M Kd.string _ _ _ (⟨#[105, 54, 52, 46, 116, 114, 117, 110, 99, 95, 102, 51, 50, 95, 115]⟩ : ByteArray) [.string (⟨#[105, 54, 52, 46, 116, 114, 117, 110, 99, 95, 102, 51, 50, 95, 115]⟩ : ByteArray)] from rfl) (Reps.one (show Kd.M Kd.string _ _ _ (⟨#[105, 54, 52, 46, 116, 114, 117, 110, 99, 95, 102, 51, 50, 95, 117]⟩ : ByteArray) [.string (⟨#[105, 54, 52, 46, 116, 114, 117, 110, 99, 95, 102, 51, 50, 95, 117]⟩ : ByteArray)] from rfl) (Reps.one (show Kd.M Kd.string _ _ _ (⟨#[105, 54, 52, 46, 116, 114, 117, 110, 99, 95, 102, 54, 52, 95, 115]⟩ : ByteArray) [.string (⟨#[105, 54, 52, 46, 116, 114, 117, 110, 99, 95, 102, 54, 52, 95, 115]⟩ : ByteArray)] from rfl) (Reps.one (show Kd.M Kd.string _ _ _ (⟨#[105, 54, 52, 46, 116, 114, 117, 110, 99, 95, 102, 54, 52, 95, 117]⟩ : ByteArray) [.string (⟨#[105, 54, 52, 46, 116, 114, 117, 110, 99, 95, 102, 54, 52, 95, 117]⟩ : ByteArray)] from rfl) (Reps.one (show Kd.M Kd.string _ _ _ (⟨#[102, 51, 50, 46, 99, 111, 110, 118, 101, 114, 116, 95, 105, 51, 50, 95, 115]⟩ : ByteArray) [.string (⟨#[102, 51, 50, 46, 99, 111, 110, 118, 101, 114, 116, 95, 105, 51, 50, 95, 115]⟩ : ByteArray)] from rfl) (Reps.one (show Kd.M Kd.string _ _ _ (⟨#[102, 51, 50, 46, 99, 111, 110, 118, 101, 114, 116, 95, 105, 51, 50, 95, 117]⟩ : ByteArray) [.string (⟨#[102, 51, 50, 46, 99, 111, 110, 118, 101, 114, 116, 95, 105, 51, 50, 95, 117]⟩ : ByteArray)] from rfl) (Reps.one (show Kd.M Kd.string _ _ _ (⟨#[102, 51, 50, 46, 99, 111, 110, 118, 101, 114, 116, 95, 105, 54, 52, 95, 115]⟩ : ByteArray) [.string (⟨#[102, 51, 50, 46, 99, 111, 110, 118, 101, 114, 116, 95, 105, 54, 52, 95, 115]⟩ : ByteArray)] from rfl) (Reps.one (show Kd.M Kd.string _ _ _ (⟨#[102, 51, 50, 46, 99, 111, 110, 118, 101, 114, 116, 95, 105, 54, 52, 95, 117]⟩ : ByteArray) [.string (⟨#[102, 51, 50, 46, 99, 111, 110, 118, 101, 114, 116, 95, 105, 54, 52, 95, 117]⟩ : ByteArray)] from rfl) (Reps.one (show Kd.M Kd.string _ _ _ (⟨#[102, 51, 50, 46, 100, 101, 109, 111, 116, 101, 95, 102, 54, 52]⟩ : ByteArray) [.string (⟨#[102, 51, 50, 46, 100, 101, 109, 111, 116, 101, 95, 102, 54, 52]⟩ : ByteArray)] from rfl) (Reps.one (show Kd.M Kd.string _ _ _ (⟨#[102, 54, 52, 46, 99, 111, 110, 118, 101, 114, 116, 95, 105, 51, 50, 95, 115]⟩ : ByteArray) [.string (⟨#[102, 54, 52, 46, 99, 111, 110, 118, 101, 114, 116, 95, 105, 51, 50, 95, 115]⟩ : ByteArray)] from rfl) (Reps.one (show Kd.M Kd.string _ _ _ (⟨#[102, 54, 52, 46, 99, 111, 110, 118, 101, 114, 116, 95, 105, 51, 50, 95, 117]⟩ : ByteArray) [.string (⟨#[102, 54, 52, 46, 99, 111, 110, 118, 101, 114, 116, 95, 105, 51, 50, 95, 117]⟩ : ByteArray)] from rfl) (Reps.one (show Kd.M Kd.string _ _ _ (⟨#[102, 54, 52, 46, 99, 111, 110, 118, 101, 114, 116, 95, 105, 54, 52, 95, 115]⟩ : ByteArray) [.string (⟨#[102, 54, 52, 46, 99, 111, 110, 118, 101, 114, 116, 95, 105, 54, 52, 95, 115]⟩ : ByteArray)] from rfl) (Reps.one (show Kd.M Kd.string _ _ _ (⟨#[102, 54, 52, 46, 99, 111, 110, 118, 101, 114, 116, 95, 105, 54, 52, 95, 117]⟩ : ByteArray) [.string (⟨#[102, 54, 52, 46, 99, 111, 110, 118, 101, 114, 116, 95, 105, 54, 52, 95, 117]⟩ : ByteArray)] from rfl) (Reps.one (show Kd.M Kd.string _ _ _ (⟨#[102, 54, 52, 46, 112, 114, 111, 109, 111, 116, 101, 95, 102, 51, 50]⟩ : ByteArray) [.string (⟨#[102, 54, 52, 46, 112, 114, 111, 109, 111, 116, 101, 95, 102, 51, 50]⟩ : ByteArray)] from rfl) (Reps.one (show Kd.M Kd.string _ _ _ (⟨#[105, 51, 50, 46, 114, 101, 105, 110, 116, 101, 114, 112, 114, 101, 116, 95, 102, 51, 50]⟩ : ByteArray) [.string (⟨#[105, 51, 50, 46, 114, 101, 105, 110, 116, 101, 114, 112, 114, 101, 116, 95, 102, 51, 50]⟩ : ByteArray)] from rfl) (Reps.one (show Kd.M Kd.string _ _ _ (⟨#[105, 54, 52, 46, 114, 101, 105, 110, 116, 101, 114, 112, 114, 101, 116, 95, 102, 54, 52]⟩ : ByteArray) [.string (⟨#[105, 54, 52, 46, 114, 101, 105, 110, 116, 101, 114, 112, 114, 101, 116, 95, 102, 54, 52]⟩ : ByteArray)] from rfl) (Reps.one (show Kd.M Kd.string _ _ _ (⟨#[102, 51, 50, 46, 114, 101, 105, 110, 116, 101, 114, 112, 114, 101, 116, 95, 105, 51, 50]⟩ : ByteArray) [.string (⟨#[102, 51, 50, 46, 114, 101, 105, 110, 116, 101, 114, 112, 114, 101, 116, 95, 105, 51, 50]⟩ : ByteArray)] from rfl) (Reps.one (show Kd.M Kd.string _ _ _ (⟨#[102, 54, 52, 46, 114, 101, 105, 110, 116, 101, 114, 112, 114, 101, 116, 95, 105, 54, 52]⟩ : ByteArray) [.string (⟨#[102, 54, 52, 46, 114, 101, 105, 110, 116, 101, 114, 112, 114, 101, 116, 95, 105, 54, 52]⟩ : ByteArray)] from rfl) (Reps.none _ _))))))))))))))))))))))))))); intro v609 w1 ho2 hb hg_ hnew_; clear hg_ hnew_; (first | rw [← Ny608.out] at ho2 | (simp only [Int.reduceToNat] at ho2; rw [← Ny608.out] at ho2)); have HO610 := A_ (Kd.R_lower ho2 (below_size (hb_ HB.out))); replace HB := A_ (below_step (hb_ HB.out) hb); clear hb ho2))
 go_ret
 exact ⟨_, by first | rfl | (simp [errW_none, errW_some] <;> rfl) | (simp [*, errW_none, errW_some] <;> rfl), by (with_reducible repeat (first | apply Kd.R_alloc | apply Kd.R_drewN | apply Kd.R_drew)); exact HO610.out, hb_ HB.out⟩
def trunnionref14_wholes.f  : Option (List ByteArray) := some (([(⟨#[99, 108, 122]⟩ : ByteArray), (⟨#[99, 116, 122]⟩ : ByteArray), (⟨#[112, 111, 112, 99, 110, 116]⟩ : ByteArray), (⟨#[97, 100, 100]⟩ : ByteArray), (⟨#[115, 117, 98]⟩ : ByteArray), (⟨#[109, 117, 108]⟩ : ByteArray), (⟨#[100, 105, 118, 95, 115]⟩ : ByteArray), (⟨#[100, 105, 118, 95, 117]⟩ : ByteArray), (⟨#[114, 101, 109, 95, 115]⟩ : ByteArray), (⟨#[114, 101, 109, 95, 117]⟩ : ByteArray), (⟨#[97, 110, 100]⟩ : ByteArray), (⟨#[111, 114]⟩ : ByteArray), (⟨#[120, 111, 114]⟩ : ByteArray), (⟨#[115, 104, 108]⟩ : ByteArray), (⟨#[115, 104, 114, 95, 115]⟩ : ByteArray), (⟨#[115, 104, 114, 95, 117]⟩ : ByteArray), (⟨#[114, 111, 116, 108]⟩ : ByteArray), (⟨#[114, 111, 116, 114]⟩ : ByteArray)] : List ByteArray))
theorem trunnionref14_wholes.calls  (r : List ByteArray) (w : World) (h : trunnionref14_wholes.f  = some r) :
  Calls Tryz.prog 161 #[] w fun e w' => ∃ v0_ : Value, e = .returned (v0_) ∧ Kd.R Kd.string 9 w' w.heap.size (fun _ => True) v0_ r ∧ Below w.heap.size w w' := by
 have HB := A_ (Below.refl w.heap.size w)
 have H : (some (([(⟨#[99, 108, 122]⟩ : ByteArray), (⟨#[99, 116, 122]⟩ : ByteArray), (⟨#[112, 111, 112, 99, 110, 116]⟩ : ByteArray), (⟨#[97, 100, 100]⟩ : ByteArray), (⟨#[115, 117, 98]⟩ : ByteArray), (⟨#[109, 117, 108]⟩ : ByteArray), (⟨#[100, 105, 118, 95, 115]⟩ : ByteArray), (⟨#[100, 105, 118, 95, 117]⟩ : ByteArray), (⟨#[114, 101, 109, 95, 115]⟩ : ByteArray), (⟨#[114, 101, 109, 95, 117]⟩ : ByteArray), (⟨#[97, 110, 100]⟩ : ByteArray), (⟨#[111, 114]⟩ : ByteArray), (⟨#[120, 111, 114]⟩ : ByteArray), (⟨#[115, 104, 108]⟩ : ByteArray), (⟨#[115, 104, 114, 95, 115]⟩ : ByteArray), (⟨#[115, 104, 114, 95, 117]⟩ : ByteArray), (⟨#[114, 111, 116, 108]⟩ : ByteArray), (⟨#[114, 111, 116, 114]⟩ : ByteArray)] : List ByteArray))) = some r := h
 clear h
 obtain ⟨y602, hy602⟩ : ∃ y_ : List ByteArray, y_ = (([(⟨#[99, 108, 122]⟩ : ByteArray), (⟨#[99, 116, 122]⟩ : ByteArray), (⟨#[112, 111, 112, 99, 110, 116]⟩ : ByteArray), (⟨#[97, 100, 100]⟩ : ByteArray), (⟨#[115, 117, 98]⟩ : ByteArray), (⟨#[109, 117, 108]⟩ : ByteArray), (⟨#[100, 105, 118, 95, 115]⟩ : ByteArray), (⟨#[100, 105, 118, 95, 117]⟩ : ByteArray), (⟨#[114, 101, 109, 95, 115]⟩ : ByteArray), (⟨#[114, 101, 109, 95, 117]⟩ : ByteArray), (⟨#[97, 110, 100]⟩ : ByteArray), (⟨#[111, 114]⟩ : ByteArray), (⟨#[120, 111, 114]⟩ : ByteArray), (⟨#[115, 104, 108]⟩ : ByteArray), (⟨#[115, 104, 114, 95, 115]⟩ : ByteArray), (⟨#[115, 104, 114, 95, 117]⟩ : ByteArray), (⟨#[114, 111, 116, 108]⟩ : ByteArray), (⟨#[114, 111, 116, 114]⟩ : ByteArray)] : List ByteArray)) := ⟨_, rfl⟩
 replace H : (some y602) = some r := by first | (rw [hy602]; with_reducible exact H) | (have H2_ := (Option.bind_some _ _).symm.trans H; rw [hy602]; with_reducible exact H2_) | (have H2_ := (Option.bind_some _ _).symm.trans H; with_reducible exact H2_) | with_reducible exact H | (rw [hy602]; exact H) | exact H
 have Ny602 := A_ hy602;clear hy602
 obtain rfl := Option.some.inj H
 go_enter Tryz.func161, Tryz.ntmps161
 go_wp2_with (first | ((with_reducible refine gate_dst (N := 1) rfl ?_); refine Kd.R_lit Kd.string _ 9 ?hg (N := 1) ?hd (xs := ([(⟨#[99, 108, 122]⟩ : ByteArray), (⟨#[99, 116, 122]⟩ : ByteArray), (⟨#[112, 111, 112, 99, 110, 116]⟩ : ByteArray), (⟨#[97, 100, 100]⟩ : ByteArray), (⟨#[115, 117, 98]⟩ : ByteArray), (⟨#[109, 117, 108]⟩ : ByteArray), (⟨#[100, 105, 118, 95, 115]⟩ : ByteArray), (⟨#[100, 105, 118, 95, 117]⟩ : ByteArray), (⟨#[114, 101, 109, 95, 115]⟩ : ByteArray), (⟨#[114, 101, 109, 95, 117]⟩ : ByteArray), (⟨#[97, 110, 100]⟩ : ByteArray), (⟨#[111, 114]⟩ : ByteArray), (⟨#[120, 111, 114]⟩ : ByteArray), (⟨#[115, 104, 108]⟩ : ByteArray), (⟨#[115, 104, 114, 95, 115]⟩ : ByteArray), (⟨#[115, 104, 114, 95, 117]⟩ : ByteArray), (⟨#[114, 111, 116, 108]⟩ : ByteArray), (⟨#[114, 111, 116, 114]⟩ : ByteArray)] : List ByteArray)) (inner := [.string (⟨#[99, 108, 122]⟩ : ByteArray), .string (⟨#[99, 116, 122]⟩ : ByteArray), .string (⟨#[112, 111, 112, 99, 110, 116]⟩ : ByteArray), .string (⟨#[97, 100, 100]⟩ : ByteArray), .string (⟨#[115, 117, 98]⟩ : ByteArray), .string (⟨#[109, 117, 108]⟩ : ByteArray), .string (⟨#[100, 105, 118, 95, 115]⟩ : ByteArray), .string (⟨#[100, 105, 118, 95, 117]⟩ : ByteArray), .string (⟨#[114, 101, 109, 95, 115]⟩ : ByteArray), .string (⟨#[114, 101, 109, 95, 117]⟩ : ByteArray), .string (⟨#[97, 110, 100]⟩ : ByteArray), .string (⟨#[111, 114]⟩ : ByteArray), .string (⟨#[120, 111, 114]⟩ : ByteArray), .string (⟨#[115, 104, 108]⟩ : ByteArray), .string (⟨#[115, 104, 114, 95, 115]⟩ : ByteArray), .string (⟨#[115, 104, 114, 95, 117]⟩ : ByteArray), .string (⟨#[114, 111, 116, 108]⟩ : ByteArray), .string (⟨#[114, 111, 116, 114]⟩ : ByteArray)]) (ok := fun _ => True) (okp := fun _ => True) ?hr ?hp (fun _ hk => hk) trivial (Below.refl _ _) (Nat.le_refl _) (by simp) ?_; (case hd => rfl); (case hg => rfl); (case hr => first | (go_simp; done) | (go_simp; rfl)); (case hp => exact (Reps.one (show Kd.M Kd.string _ _ _ (⟨#[99, 108, 122]⟩ : ByteArray) [.string (⟨#[99, 108, 122]⟩ : ByteArray)] from rfl) (Reps.one (show Kd.M Kd.string _ _ _ (⟨#[99, 116, 122]⟩ : ByteArray) [.string (⟨#[99, 116, 122]⟩ : ByteArray)] from rfl) (Reps.one (show Kd.M Kd.string _ _ _ (⟨#[112, 111, 112, 99, 110, 116]⟩ : ByteArray) [.string (⟨#[112, 111, 112, 99, 110, 116]⟩ : ByteArray)] from rfl) (Reps.one (show Kd.M Kd.string _ _ _ (⟨#[97, 100, 100]⟩ : ByteArray) [.string (⟨#[97, 100, 100]⟩ : ByteArray)] from rfl) (Reps.one (show Kd.M Kd.string _ _ _ (⟨#[115, 117, 98]⟩ : ByteArray) [.string (⟨#[115, 117, 98]⟩ : ByteArray)] from rfl) (Reps.one (show Kd.M Kd.string _ _ _ (⟨#[109, 117, 108]⟩ : ByteArray) [.string (⟨#[109, 117, 108]⟩ : ByteArray)] from rfl) (Reps.one (show Kd.M Kd.string _ _ _ (⟨#[100, 105, 118, 95, 115]⟩ : ByteArray) [.string (⟨#[100, 105, 118, 95, 115]⟩ : ByteArray)] from rfl) (Reps.one (show Kd.M Kd.string _ _ _ (⟨#[100, 105, 118, 95, 117]⟩ : ByteArray) [.string (⟨#[100, 105, 118, 95, 117]⟩ : ByteArray)] from rfl) (Reps.one (show Kd.M Kd.string _ _ _ (⟨#[114, 101, 109, 95, 115]⟩ : ByteArray) [.string (⟨#[114, 101, 109, 95, 115]⟩ : ByteArray)] from rfl) (Reps.one (show Kd.M Kd.string _ _ _ (⟨#[114, 101, 109, 95, 117]⟩ : ByteArray) [.string (⟨#[114, 101, 109, 95, 117]⟩ : ByteArray)] from rfl) (Reps.one (show Kd.M Kd.string _ _ _ (⟨#[97, 110, 100]⟩ : ByteArray) [.string (⟨#[97, 110, 100]⟩ : ByteArray)] from rfl) (Reps.one (show Kd.M Kd.string _ _ _ (⟨#[111, 114]⟩ : ByteArray) [.string (⟨#[111, 114]⟩ : ByteArray)] from rfl) (Reps.one (show Kd.M Kd.string _ _ _ (⟨#[120, 111, 114]⟩ : ByteArray) [.string (⟨#[120, 111, 114]⟩ : ByteArray)] from rfl) (Reps.one (show Kd.M Kd.string _ _ _ (⟨#[115, 104, 108]⟩ : ByteArray) [.string (⟨#[115, 104, 108]⟩ : ByteArray)] from rfl) (Reps.one (show Kd.M Kd.string _ _ _ (⟨#[115, 104, 114, 95, 115]⟩ : ByteArray) [.string (⟨#[115, 104, 114, 95, 115]⟩ : ByteArray)] from rfl) (Reps.one (show Kd.M Kd.string _ _ _ (⟨#[115, 104, 114, 95, 117]⟩ : ByteArray) [.string (⟨#[115, 104, 114, 95, 117]⟩ : ByteArray)] from rfl) (Reps.one (show Kd.M Kd.string _ _ _ (⟨#[114, 111, 116, 108]⟩ : ByteArray) [.string (⟨#[114, 111, 116, 108]⟩ : ByteArray)] from rfl) (Reps.one (show Kd.M Kd.string _ _ _ (⟨#[114, 111, 116, 114]⟩ : ByteArray) [.string (⟨#[114, 111, 116, 114]⟩ : ByteArray)] from rfl) (Reps.none _ _)))))))))))))))))))); intro v603 w1 ho2 hb hg_ hnew_; clear hg_ hnew_; (first | rw [← Ny602.out] at ho2 | (simp only [Int.reduceToNat] at ho2; rw [← Ny602.out] at ho2)); have HO604 := A_ (Kd.R_lower ho2 (below_size (hb_ HB.out))); replace HB := A_ (below_step (hb_ HB.out) hb); clear hb ho2))
 go_ret
 exact ⟨_, by first | rfl | (simp [errW_none, errW_some] <;> rfl) | (simp [*, errW_none, errW_some] <;> rfl), by (with_reducible repeat (first | apply Kd.R_alloc | apply Kd.R_drewN | apply Kd.R_drew)); exact HO604.out, hb_ HB.out⟩
mutual
def trunnionref14_group.j0 : Nat → Int → List ByteArray → Int → Bool → Option (ByteArray × List ByteArray)
 | 0, _, _, _, _ => none
 | k + 1, x0, x4, x6, x7 => if x7 = true then (if 0 ≤ x0 then (if x0 < (x4.length : Int) then ((trunnionref14_relations.f).bind fun t615 => (some (rdOf ByteArray.empty x4 x0, t615))) else (none)) else (none)) else (if x6 = 2 then (trunnionref14_group.j1 k x0 x4 x6 (x6 == 2)) else (trunnionref14_group.j1 k x0 x4 x6 (x6 == 3)))
def trunnionref14_group.j1 : Nat → Int → List ByteArray → Int → Bool → Option (ByteArray × List ByteArray)
 | 0, _, _, _, _ => none
 | k + 1, x0, x4, x6, x15 => if x15 = true then (if 0 ≤ x0 then (if x0 < (x4.length : Int) then ((trunnionref14_floats.f).bind fun t619 => (some (rdOf ByteArray.empty x4 x0, t619))) else (none)) else (none)) else (if x6 = 4 then (trunnionref14_group.j2 k x0 x4 x6 (x6 == 4)) else (trunnionref14_group.j2 k x0 x4 x6 (x6 == 5)))
def trunnionref14_group.j2 : Nat → Int → List ByteArray → Int → Bool → Option (ByteArray × List ByteArray)
 | 0, _, _, _, _ => none
 | k + 1, x0, x4, x6, x23 => if x23 = true then (if 0 ≤ x0 then (if x0 < (x4.length : Int) then ((trunnionref14_wholes.f).bind fun t623 => (some (rdOf ByteArray.empty x4 x0, t623))) else (none)) else (none)) else (if x6 = 6 then (trunnionref14_group.j3 k x0 x4 (x6 == 6)) else (trunnionref14_group.j3 k x0 x4 (x6 == 7)))
def trunnionref14_group.j3 : Nat → Int → List ByteArray → Bool → Option (ByteArray × List ByteArray)
 | 0, _, _, _ => none
 | k + 1, x0, x4, x31 => if x31 = true then (if 0 ≤ x0 then (if x0 < (x4.length : Int) then ((trunnionref14_doubles.f).bind fun t627 => (some (rdOf ByteArray.empty x4 x0, t627))) else (none)) else (none)) else (if 0 ≤ x0 then (if x0 < (x4.length : Int) then ((trunnionref14_turns.f).bind fun t631 => (some (rdOf ByteArray.empty x4 x0, t631))) else (none)) else (none))
end
def trunnionref14_group.f (k : Nat) (a0 : Int) : Option (ByteArray × List ByteArray) := (some (([(⟨#[105, 51, 50, 46]⟩ : ByteArray), (⟨#[105, 54, 52, 46]⟩ : ByteArray), (⟨#[102, 51, 50, 46]⟩ : ByteArray), (⟨#[102, 54, 52, 46]⟩ : ByteArray), (⟨#[105, 51, 50, 46]⟩ : ByteArray), (⟨#[105, 54, 52, 46]⟩ : ByteArray), (⟨#[102, 51, 50, 46]⟩ : ByteArray), (⟨#[102, 54, 52, 46]⟩ : ByteArray), (⟨#[]⟩ : ByteArray)] : List ByteArray) : List ByteArray)).bind fun y611 => (if a0 = 0 then (trunnionref14_group.j0 k a0 y611 a0 (a0 == 0)) else (trunnionref14_group.j0 k a0 y611 a0 (a0 == 1)))
theorem trunnionref14_group.mono_l : ∀ k, (∀ y0 y1 y2 y3, LeO (trunnionref14_group.j0 k y0 y1 y2 y3) (trunnionref14_group.j0 (k + 1) y0 y1 y2 y3)) ∧ (∀ y0 y1 y2 y3, LeO (trunnionref14_group.j1 k y0 y1 y2 y3) (trunnionref14_group.j1 (k + 1) y0 y1 y2 y3)) ∧ (∀ y0 y1 y2 y3, LeO (trunnionref14_group.j2 k y0 y1 y2 y3) (trunnionref14_group.j2 (k + 1) y0 y1 y2 y3)) ∧ (∀ y0 y1 y2, LeO (trunnionref14_group.j3 k y0 y1 y2) (trunnionref14_group.j3 (k + 1) y0 y1 y2))
 | 0 => ⟨fun _ _ _ _ r h => by simp [trunnionref14_group.j0] at h, fun _ _ _ _ r h => by simp [trunnionref14_group.j1] at h, fun _ _ _ _ r h => by simp [trunnionref14_group.j2] at h, fun _ _ _ r h => by simp [trunnionref14_group.j3] at h⟩
 | k + 1 => by
  obtain ⟨ih0, ih1, ih2, ih3⟩ := trunnionref14_group.mono_l k
  refine ⟨?_, ?_, ?_, ?_⟩
  ·intro y0 y1 y2 y3
   unfold trunnionref14_group.j0
   repeat' first
   | (with_reducible exact ih0 _ _ _ _)
   | (with_reducible exact ih1 _ _ _ _)
   | (with_reducible exact ih2 _ _ _ _)
   | (with_reducible exact ih3 _ _ _)
   | (with_reducible exact LeO.refl _)
   | (with_reducible exact LeO.none _)
   | (with_reducible refine LeO.ite ?_ ?_)
   | (with_reducible refine LeO.bind ?_ (fun _ => ?_))
   | exact ih0 _ _ _ _
   | exact ih1 _ _ _ _
   | exact ih2 _ _ _ _
   | exact ih3 _ _ _
   | exact LeO.none _
   | refine LeO.ite ?_ ?_
   | refine LeO.bind ?_ (fun _ => ?_)
  ·intro y0 y1 y2 y3
   unfold trunnionref14_group.j1
   repeat' first
   | (with_reducible exact ih0 _ _ _ _)
   | (with_reducible exact ih1 _ _ _ _)
   | (with_reducible exact ih2 _ _ _ _)
   | (with_reducible exact ih3 _ _ _)
   | (with_reducible exact LeO.refl _)
   | (with_reducible exact LeO.none _)
   | (with_reducible refine LeO.ite ?_ ?_)
   | (with_reducible refine LeO.bind ?_ (fun _ => ?_))
   | exact ih0 _ _ _ _
   | exact ih1 _ _ _ _
   | exact ih2 _ _ _ _
   | exact ih3 _ _ _
   | exact LeO.none _
   | refine LeO.ite ?_ ?_
   | refine LeO.bind ?_ (fun _ => ?_)
  ·intro y0 y1 y2 y3
   unfold trunnionref14_group.j2
   repeat' first
   | (with_reducible exact ih0 _ _ _ _)
   | (with_reducible exact ih1 _ _ _ _)
   | (with_reducible exact ih2 _ _ _ _)
   | (with_reducible exact ih3 _ _ _)
   | (with_reducible exact LeO.refl _)
   | (with_reducible exact LeO.none _)
   | (with_reducible refine LeO.ite ?_ ?_)
   | (with_reducible refine LeO.bind ?_ (fun _ => ?_))
   | exact ih0 _ _ _ _
   | exact ih1 _ _ _ _
   | exact ih2 _ _ _ _
   | exact ih3 _ _ _
   | exact LeO.none _
   | refine LeO.ite ?_ ?_
   | refine LeO.bind ?_ (fun _ => ?_)
  ·intro y0 y1 y2
   unfold trunnionref14_group.j3
   repeat' first
   | (with_reducible exact ih0 _ _ _ _)
   | (with_reducible exact ih1 _ _ _ _)
   | (with_reducible exact ih2 _ _ _ _)
   | (with_reducible exact ih3 _ _ _)
   | (with_reducible exact LeO.refl _)
   | (with_reducible exact LeO.none _)
   | (with_reducible refine LeO.ite ?_ ?_)
   | (with_reducible refine LeO.bind ?_ (fun _ => ?_))
   | exact ih0 _ _ _ _
   | exact ih1 _ _ _ _
   | exact ih2 _ _ _ _
   | exact ih3 _ _ _
   | exact LeO.none _
   | refine LeO.ite ?_ ?_
   | refine LeO.bind ?_ (fun _ => ?_)
theorem trunnionref14_group.mono : ∀ a0 k, LeO (trunnionref14_group.f k a0) (trunnionref14_group.f (k + 1) a0) := by
 intro a0 k
 obtain ⟨ih0, ih1, ih2, ih3⟩ := trunnionref14_group.mono_l k
 unfold trunnionref14_group.f
 repeat' first
   | (with_reducible exact ih0 _ _ _ _)
   | (with_reducible exact ih1 _ _ _ _)
   | (with_reducible exact ih2 _ _ _ _)
   | (with_reducible exact ih3 _ _ _)
   | (with_reducible exact LeO.refl _)
   | (with_reducible exact LeO.none _)
   | (with_reducible refine LeO.ite ?_ ?_)
   | (with_reducible refine LeO.bind ?_ (fun _ => ?_))
   | exact ih0 _ _ _ _
   | exact ih1 _ _ _ _
   | exact ih2 _ _ _ _
   | exact ih3 _ _ _
   | exact LeO.none _
   | refine LeO.ite ?_ ?_
   | refine LeO.bind ?_ (fun _ => ?_)
theorem trunnionref14_group.calls (k : Nat) (a0 : Int) (r1 : ByteArray) (r2 : List ByteArray) (w : World) (h : trunnionref14_group.f k a0 = some (r1, r2)) :
  Calls Tryz.prog 101 #[.int .i64 a0] w fun e w' => ∃ v1_ : Value, e = .returned (.tuple #[.string r1, v1_]) ∧ Kd.R Kd.string 9 w' w.heap.size (fun _ => True) v1_ r2 ∧ Below w.heap.size w w' := by
 have HB := A_ (Below.refl w.heap.size w)
 have H : ((some (([(⟨#[105, 51, 50, 46]⟩ : ByteArray), (⟨#[105, 54, 52, 46]⟩ : ByteArray), (⟨#[102, 51, 50, 46]⟩ : ByteArray), (⟨#[102, 54, 52, 46]⟩ : ByteArray), (⟨#[105, 51, 50, 46]⟩ : ByteArray), (⟨#[105, 54, 52, 46]⟩ : ByteArray), (⟨#[102, 51, 50, 46]⟩ : ByteArray), (⟨#[102, 54, 52, 46]⟩ : ByteArray), (⟨#[]⟩ : ByteArray)] : List ByteArray) : List ByteArray)).bind fun y611 => (if a0 = 0 then (trunnionref14_group.j0 k a0 y611 a0 (a0 == 0)) else (trunnionref14_group.j0 k a0 y611 a0 (a0 == 1)))) = some (r1, r2) := h
 clear h
 obtain ⟨y611, hy611⟩ : ∃ y_ : List ByteArray, y_ = (([(⟨#[105, 51, 50, 46]⟩ : ByteArray), (⟨#[105, 54, 52, 46]⟩ : ByteArray), (⟨#[102, 51, 50, 46]⟩ : ByteArray), (⟨#[102, 54, 52, 46]⟩ : ByteArray), (⟨#[105, 51, 50, 46]⟩ : ByteArray), (⟨#[105, 54, 52, 46]⟩ : ByteArray), (⟨#[102, 51, 50, 46]⟩ : ByteArray), (⟨#[102, 54, 52, 46]⟩ : ByteArray), (⟨#[]⟩ : ByteArray)] : List ByteArray)) := ⟨_, rfl⟩
 replace H : (if a0 = 0 then (trunnionref14_group.j0 k a0 y611 a0 (a0 == 0)) else (trunnionref14_group.j0 k a0 y611 a0 (a0 == 1))) = some (r1, r2) := by first | (rw [hy611]; with_reducible exact H) | (have H2_ := (Option.bind_some _ _).symm.trans H; rw [hy611]; with_reducible exact H2_) | (have H2_ := (Option.bind_some _ _).symm.trans H; with_reducible exact H2_) | with_reducible exact H | (rw [hy611]; exact H) | exact H
 have Ny611 := A_ hy611;clear hy611;have HC2 := A_ H;clear H
 go_enter Tryz.func101, Tryz.ntmps101
 go_upto_if 7 with (first | ((with_reducible refine gate_dst (N := 5) rfl ?_); refine Kd.R_lit Kd.string _ 9 ?hg (N := 5) ?hd (xs := ([(⟨#[105, 51, 50, 46]⟩ : ByteArray), (⟨#[105, 54, 52, 46]⟩ : ByteArray), (⟨#[102, 51, 50, 46]⟩ : ByteArray), (⟨#[102, 54, 52, 46]⟩ : ByteArray), (⟨#[105, 51, 50, 46]⟩ : ByteArray), (⟨#[105, 54, 52, 46]⟩ : ByteArray), (⟨#[102, 51, 50, 46]⟩ : ByteArray), (⟨#[102, 54, 52, 46]⟩ : ByteArray), (⟨#[]⟩ : ByteArray)] : List ByteArray)) (inner := [.string (⟨#[105, 51, 50, 46]⟩ : ByteArray), .string (⟨#[105, 54, 52, 46]⟩ : ByteArray), .string (⟨#[102, 51, 50, 46]⟩ : ByteArray), .string (⟨#[102, 54, 52, 46]⟩ : ByteArray), .string (⟨#[105, 51, 50, 46]⟩ : ByteArray), .string (⟨#[105, 54, 52, 46]⟩ : ByteArray), .string (⟨#[102, 51, 50, 46]⟩ : ByteArray), .string (⟨#[102, 54, 52, 46]⟩ : ByteArray), .string (⟨#[]⟩ : ByteArray)]) (ok := fun _ => True) (okp := fun _ => True) ?hr ?hp (fun _ hk => hk) trivial (Below.refl _ _) (Nat.le_refl _) (by simp) ?_; (case hd => rfl); (case hg => rfl); (case hr => first | (go_simp; done) | (go_simp; rfl)); (case hp => exact (Reps.one (show Kd.M Kd.string _ _ _ (⟨#[105, 51, 50, 46]⟩ : ByteArray) [.string (⟨#[105, 51, 50, 46]⟩ : ByteArray)] from rfl) (Reps.one (show Kd.M Kd.string _ _ _ (⟨#[105, 54, 52, 46]⟩ : ByteArray) [.string (⟨#[105, 54, 52, 46]⟩ : ByteArray)] from rfl) (Reps.one (show Kd.M Kd.string _ _ _ (⟨#[102, 51, 50, 46]⟩ : ByteArray) [.string (⟨#[102, 51, 50, 46]⟩ : ByteArray)] from rfl) (Reps.one (show Kd.M Kd.string _ _ _ (⟨#[102, 54, 52, 46]⟩ : ByteArray) [.string (⟨#[102, 54, 52, 46]⟩ : ByteArray)] from rfl) (Reps.one (show Kd.M Kd.string _ _ _ (⟨#[105, 51, 50, 46]⟩ : ByteArray) [.string (⟨#[105, 51, 50, 46]⟩ : ByteArray)] from rfl) (Reps.one (show Kd.M Kd.string _ _ _ (⟨#[105, 54, 52, 46]⟩ : ByteArray) [.string (⟨#[105, 54, 52, 46]⟩ : ByteArray)] from rfl) (Reps.one (show Kd.M Kd.string _ _ _ (⟨#[102, 51, 50, 46]⟩ : ByteArray) [.string (⟨#[102, 51, 50, 46]⟩ : ByteArray)] from rfl) (Reps.one (show Kd.M Kd.string _ _ _ (⟨#[102, 54, 52, 46]⟩ : ByteArray) [.string (⟨#[102, 54, 52, 46]⟩ : ByteArray)] from rfl) (Reps.one (show Kd.M Kd.string _ _ _ (⟨#[]⟩ : ByteArray) [.string (⟨#[]⟩ : ByteArray)] from rfl) (Reps.none _ _))))))))))); intro v612 w3 ho4 hb hg_ hnew_; clear hg_ hnew_; (first | rw [← Ny611.out] at ho4 | (simp only [Int.reduceToNat] at ho4; rw [← Ny611.out] at ho4)); have HO613 := A_ (Kd.R_lower ho4 (below_size (hb_ HB.out))); replace HB := A_ (below_step (hb_ HB.out) hb); clear hb ho4))
 (try simp only [Act.put, lI_, l0_, lS_])
 go_cut [7] (fun v7 wc => ∃ (kq : Nat) (x7_1 : Bool), v7 = .bool x7_1 ∧ Aside0 (trunnionref14_group.j0 kq a0 y611 a0 x7_1 = some (r1, r2)) ∧ Aside0 (kq ≤ k) ∧ Aside0 (Kd.R Kd.string 9 wc w.heap.size (fun _ => True) v612 y611) ∧ Aside0 (Below w.heap.size w wc))
 case first =>
  have H := HC2.out
  clear HC2
  by_cases c5 : a0 = 0
  ·rw [if_pos c5] at H
   have c5b0 : (a0 == 0) = true := beq_iff_eq.mpr c5
   have c5b1 : (a0 != 0) = false := bne_eq_false_iff_eq.mpr c5
   clear c5
   (first | rw [c5b0] | (simp only [i64_w, i32_w]; rw [c5b0]) | skip)
   have H' := A_ H
   clear H
   go_wp2
   go_meet
   case rel => exact ⟨_, ((a0 == 0)), sm_, H', ⟨by first | omega | exact Nat.le_refl _⟩, ⟨by (with_reducible repeat (first | apply Kd.R_alloc | apply Kd.R_drewN | apply Kd.R_drew)); exact HO613.out⟩, ⟨hb_ HB.out⟩⟩
  ·rw [if_neg c5] at H
   have c5b0 : (a0 == 0) = false := beq_eq_false_iff_ne.mpr c5
   have c5b1 : (a0 != 0) = true := bne_iff_ne.mpr c5
   (first | rw [c5b0] | (simp only [i64_w, i32_w]; rw [c5b0]) | skip)
   have H' := A_ H
   clear H
   go_wp2
   go_meet
   case rel => exact ⟨_, ((a0 == 1)), sm_, H', ⟨by first | omega | exact Nat.le_refl _⟩, ⟨by (with_reducible repeat (first | apply Kd.R_alloc | apply Kd.R_drewN | apply Kd.R_drew)); exact HO613.out⟩, ⟨hb_ HB.out⟩⟩
 case rest =>
  clear HC2
  try clear c1
  try clear p2
  try clear c5
  try clear c5b0
  try clear c5b1
  obtain ⟨kq, x7_1, rfl, HA, HJ1, HO_4, HB⟩ := hcut
  cases kq with
  | zero => exact absurd HA.out (by simp [trunnionref14_group.j0])
  | succ kj1 =>
   have H := HA.out
   clear HA
   simp only [trunnionref14_group.j0] at H
   by_cases c6 : x7_1 = true
   ·subst c6
    have H1 : (if 0 ≤ a0 then (if a0 < (y611.length : Int) then ((trunnionref14_relations.f).bind fun t615 => (some (rdOf ByteArray.empty y611 a0, t615))) else (none)) else (none)) = some (r1, r2) := by rw [if_pos rfl] at H; exact H
    clear H;have H := H1;clear H1
    by_cases c7 : 0 ≤ a0
    ·rw [if_pos c7] at H
     have c7b0 : decide (0 ≤ a0) = true := decide_eq_true c7
     clear c7
     by_cases c8 : a0 < (y611.length : Int)
     ·rw [if_pos c8] at H
      have c8b0 : decide (a0 < (y611.length : Int)) = true := decide_eq_true c8
      clear c8
      replace H := ob_ H
      obtain ⟨t615, A90, H⟩ := H
      replace H : (some (rdOf ByteArray.empty y611 a0, t615)) = some (r1, r2) := H
      have A9 := A_ A90;clear A90
      simp only [Option.some.injEq, Prod.mk.injEq] at H
      obtain ⟨rfl, rfl⟩ := H
      try go_wp2
      replace HO_4 := A_ (Kd.R_drew HO_4.out)
      replace HB := A_ (below_drew1 HB.out)
      obtain ⟨Ao11, co11, eo11⟩ := Kd.R_slice HO_4.out
      (first | subst eo11 | (injection eo11 with f1_ f2_ f3_; have f4_ := f1_.symm; have f5_ := f3_.symm; clear f1_ f2_ f3_; subst f4_; subst f5_))
      have p614 : 0 ≤ (a0 : Int) := of_decide_eq_true (by first | (with_reducible assumption) | assumption)
      have q614 : a0 < (y611.length : Int) := of_decide_eq_true (by first | (with_reducible assumption) | assumption)
      obtain ⟨ad614, e614, hx614_0⟩ := Kd.at_string (Kd.R_reads' HO_4.out).2.2 a0 p614 q614
      cases e614
      replace p614 := eq_true p614
      replace q614 := eq_true q614
      refine start_ (n := 7) (S := fun w' => w'.cell? (ad614.add (a0).toNat) = some (.string (rdOf ByteArray.empty y611 a0))) (ds := []) #[false, false, false, false, false, false, false] (by kernel_rfl) rfl rfl (hx614_0) (fun hHeld => ?_)
      generalize wc.drew = w10 at HO_4 HB hx614_0 hHeld ⊢
      refine pu_ 0 (some 10) #[true, false, false, false, false, false, false] rfl rfl (by kernel_rfl) ?_
      refine pu_ 1 (some 11) #[true, true, false, false, false, false, false] rfl rfl (by kernel_rfl) ?_
      refine pu_ 2 (some 12) #[true, true, true, false, false, false, false] rfl rfl (by kernel_rfl) ?_
      refine tk1_ 3 (some 13) #[true, true, true, true, false, false, false] rfl rfl (by kernel_rfl) hHeld ?_
      refine one_ (i := 4) (N := some 14) #[true, true, true, true, true, false, false] rfl rfl (by kernel_rfl) (by decide) (fun K hK => ?_)
      refine goes_ Tryz.func56 (by kernel_rfl) rfl #[] (by rfl) rfl rfl mp_ ?_
      with_reducible refine (trunnionref14_relations.calls  t615 _ A9.out).mono ?_
      rintro e w12 ⟨v616, rfl, ho0, hb⟩
      have HS0_ := (hb.cell (World.block_lt_of_cell? _ _ (hHeld))).trans (hHeld)
      refine ⟨_, rfl, ?_⟩
      have HO617 := A_ (Kd.R_lower (Kd.R_new' ho0 (Kd.R_lt (kr_ HO_4.out))) (below_size (hb_ HB.out)))
      replace HO_4 := A_ (Kd.R_elder' (kr_ HO_4.out) (Kd.R_base ho0) hb)
      replace HB := A_ (below_step (hb_ HB.out) hb);(try clear hb);(try clear hb2);(try clear hk);(try clear hi);(try clear ho0)
      refine hK.out _ _ (HS0_) (fun hHeld => ?_)
      clear hK K
      refine norm_ (a' := ?_) ?_ ?_
      rotate_left
      ·show Act.put _ (some 14) _ = _
       simp only [Act.put, lI_, l0_, lS_, i64_w, i32_w]
       rfl
      refine pu_ 5 (some 2) #[true, true, true, true, true, true, false] rfl rfl (by kernel_rfl) ?_
      refine pu_ 6 (some 3) #[true, true, true, true, true, true, true] rfl rfl (by kernel_rfl) ?_
      refine done_ (by kernel_rfl) ?_
      try go_wp2
      go_ret2
      exact ⟨_, by first | rfl | (simp [errW_none, errW_some] <;> rfl) | (simp [*, errW_none, errW_some] <;> rfl), by (with_reducible repeat (first | apply Kd.R_alloc | apply Kd.R_drewN | apply Kd.R_drew)); exact Kd.R_mono HO617.out (fun _ hk => trivial), hb_ HB.out⟩
     ·rw [if_neg c8] at H
      exact absurd H (by simp)
    ·rw [if_neg c7] at H
     exact absurd H (by simp)
   ·replace c6 := Bool.eq_false_iff.mpr c6
    subst c6
    have H1 : (if a0 = 2 then (trunnionref14_group.j1 kj1 a0 y611 a0 (a0 == 2)) else (trunnionref14_group.j1 kj1 a0 y611 a0 (a0 == 3))) = some (r1, r2) := by rw [if_neg (show ¬ (false = true) by decide)] at H; exact H
    clear H;have H := H1;clear H1;have HC13 := A_ H;clear H
    go_upto_if 15 with (fail)
    go_cut [15] (fun v15 wc => ∃ (kq : Nat) (x15_12 : Bool), v15 = .bool x15_12 ∧ Aside0 (trunnionref14_group.j1 kq a0 y611 a0 x15_12 = some (r1, r2)) ∧ Aside0 (kq ≤ kj1) ∧ Aside0 (Kd.R Kd.string 9 wc w.heap.size (fun _ => True) v612 y611) ∧ Aside0 (Below w.heap.size w wc))
    case first =>
     have H := HC13.out
     clear HC13
     by_cases c14 : a0 = 2
     ·rw [if_pos c14] at H
      have c14b0 : (a0 == 2) = true := beq_iff_eq.mpr c14
      have c14b1 : (a0 != 2) = false := bne_eq_false_iff_eq.mpr c14
      clear c14
      (first | rw [c14b0] | (simp only [i64_w, i32_w]; rw [c14b0]) | skip)
      have H' := A_ H
      clear H
      go_wp2
      go_meet
      case rel => exact ⟨_, ((a0 == 2)), sm_, H', ⟨by have := HJ1.out; first | omega | exact Nat.le_refl _⟩, ⟨by (with_reducible repeat (first | apply Kd.R_alloc | apply Kd.R_drewN | apply Kd.R_drew)); exact HO_4.out⟩, ⟨hb_ HB.out⟩⟩
     ·rw [if_neg c14] at H
      have c14b0 : (a0 == 2) = false := beq_eq_false_iff_ne.mpr c14
      have c14b1 : (a0 != 2) = true := bne_iff_ne.mpr c14
      (first | rw [c14b0] | (simp only [i64_w, i32_w]; rw [c14b0]) | skip)
      have H' := A_ H
      clear H
      go_wp2
      go_meet
      case rel => exact ⟨_, ((a0 == 3)), sm_, H', ⟨by have := HJ1.out; first | omega | exact Nat.le_refl _⟩, ⟨by (with_reducible repeat (first | apply Kd.R_alloc | apply Kd.R_drewN | apply Kd.R_drew)); exact HO_4.out⟩, ⟨hb_ HB.out⟩⟩
    case rest =>
     clear HC13
     try clear c1
     try clear p2
     try clear c5
     try clear c5b0
     try clear c5b1
     try clear c6
     try clear p6
     try clear q6
     try clear hx6
     try clear c7
     try clear c7b0
     try clear c8
     try clear c8b0
     try clear c10
     try clear c14
     try clear c14b0
     try clear c14b1
     try clear hx614_0
     try clear p2
     try clear p614
     try clear q614
     obtain ⟨kq, x15_12, rfl, HA, HJ12, HO_4, HB⟩ := hcut
     cases kq with
     | zero => exact absurd HA.out (by simp [trunnionref14_group.j1])
     | succ kj12 =>
      have H := HA.out
      clear HA
      simp only [trunnionref14_group.j1] at H
      by_cases c15 : x15_12 = true
      ·subst c15
       have H1 : (if 0 ≤ a0 then (if a0 < (y611.length : Int) then ((trunnionref14_floats.f).bind fun t619 => (some (rdOf ByteArray.empty y611 a0, t619))) else (none)) else (none)) = some (r1, r2) := by rw [if_pos rfl] at H; exact H
       clear H;have H := H1;clear H1
       by_cases c16 : 0 ≤ a0
       ·rw [if_pos c16] at H
        have c16b0 : decide (0 ≤ a0) = true := decide_eq_true c16
        clear c16
        by_cases c17 : a0 < (y611.length : Int)
        ·rw [if_pos c17] at H
         have c17b0 : decide (a0 < (y611.length : Int)) = true := decide_eq_true c17
         clear c17
         replace H := ob_ H
         obtain ⟨t619, A180, H⟩ := H
         replace H : (some (rdOf ByteArray.empty y611 a0, t619)) = some (r1, r2) := H
         have A18 := A_ A180;clear A180
         simp only [Option.some.injEq, Prod.mk.injEq] at H
         obtain ⟨rfl, rfl⟩ := H
         try go_wp2
         replace HO_4 := A_ (Kd.R_drew HO_4.out)
         replace HB := A_ (below_drew1 HB.out)
         obtain ⟨Ao20, co20, eo20⟩ := Kd.R_slice HO_4.out
         (first | subst eo20 | (injection eo20 with f1_ f2_ f3_; have f4_ := f1_.symm; have f5_ := f3_.symm; clear f1_ f2_ f3_; subst f4_; subst f5_))
         have p618 : 0 ≤ (a0 : Int) := of_decide_eq_true (by first | (with_reducible assumption) | assumption)
         have q618 : a0 < (y611.length : Int) := of_decide_eq_true (by first | (with_reducible assumption) | assumption)
         obtain ⟨ad618, e618, hx618_0⟩ := Kd.at_string (Kd.R_reads' HO_4.out).2.2 a0 p618 q618
         cases e618
         replace p618 := eq_true p618
         replace q618 := eq_true q618
         refine start_ (n := 7) (S := fun w' => w'.cell? (ad618.add (a0).toNat) = some (.string (rdOf ByteArray.empty y611 a0))) (ds := []) #[false, false, false, false, false, false, false] (by kernel_rfl) rfl rfl (hx618_0) (fun hHeld => ?_)
         generalize wc.drew = w19 at HO_4 HB hx618_0 hHeld ⊢
         refine pu_ 0 (some 18) #[true, false, false, false, false, false, false] rfl rfl (by kernel_rfl) ?_
         refine pu_ 1 (some 19) #[true, true, false, false, false, false, false] rfl rfl (by kernel_rfl) ?_
         refine pu_ 2 (some 20) #[true, true, true, false, false, false, false] rfl rfl (by kernel_rfl) ?_
         refine tk1_ 3 (some 21) #[true, true, true, true, false, false, false] rfl rfl (by kernel_rfl) hHeld ?_
         refine one_ (i := 4) (N := some 22) #[true, true, true, true, true, false, false] rfl rfl (by kernel_rfl) (by decide) (fun K hK => ?_)
         refine goes_ Tryz.func57 (by kernel_rfl) rfl #[] (by rfl) rfl rfl mp_ ?_
         with_reducible refine (trunnionref14_floats.calls  t619 _ A18.out).mono ?_
         rintro e w21 ⟨v620, rfl, ho0, hb⟩
         have HS0_ := (hb.cell (World.block_lt_of_cell? _ _ (hHeld))).trans (hHeld)
         refine ⟨_, rfl, ?_⟩
         have HO621 := A_ (Kd.R_lower (Kd.R_new' ho0 (Kd.R_lt (kr_ HO_4.out))) (below_size (hb_ HB.out)))
         replace HO_4 := A_ (Kd.R_elder' (kr_ HO_4.out) (Kd.R_base ho0) hb)
         replace HB := A_ (below_step (hb_ HB.out) hb);(try clear hb);(try clear hb2);(try clear hk);(try clear hi);(try clear ho0)
         refine hK.out _ _ (HS0_) (fun hHeld => ?_)
         clear hK K
         refine norm_ (a' := ?_) ?_ ?_
         rotate_left
         ·show Act.put _ (some 22) _ = _
          simp only [Act.put, lI_, l0_, lS_, i64_w, i32_w]
          rfl
         refine pu_ 5 (some 2) #[true, true, true, true, true, true, false] rfl rfl (by kernel_rfl) ?_
         refine pu_ 6 (some 3) #[true, true, true, true, true, true, true] rfl rfl (by kernel_rfl) ?_
         refine done_ (by kernel_rfl) ?_
         try go_wp2
         go_ret2
         exact ⟨_, by first | rfl | (simp [errW_none, errW_some] <;> rfl) | (simp [*, errW_none, errW_some] <;> rfl), by (with_reducible repeat (first | apply Kd.R_alloc | apply Kd.R_drewN | apply Kd.R_drew)); exact Kd.R_mono HO621.out (fun _ hk => trivial), hb_ HB.out⟩
        ·rw [if_neg c17] at H
         exact absurd H (by simp)
       ·rw [if_neg c16] at H
        exact absurd H (by simp)
      ·replace c15 := Bool.eq_false_iff.mpr c15
       subst c15
       have H1 : (if a0 = 4 then (trunnionref14_group.j2 kj12 a0 y611 a0 (a0 == 4)) else (trunnionref14_group.j2 kj12 a0 y611 a0 (a0 == 5))) = some (r1, r2) := by rw [if_neg (show ¬ (false = true) by decide)] at H; exact H
       clear H;have H := H1;clear H1;have HC22 := A_ H;clear H
       go_upto_if 23 with (fail)
       go_cut [23] (fun v23 wc => ∃ (kq : Nat) (x23_21 : Bool), v23 = .bool x23_21 ∧ Aside0 (trunnionref14_group.j2 kq a0 y611 a0 x23_21 = some (r1, r2)) ∧ Aside0 (kq ≤ kj12) ∧ Aside0 (Kd.R Kd.string 9 wc w.heap.size (fun _ => True) v612 y611) ∧ Aside0 (Below w.heap.size w wc))
       case first =>
        have H := HC22.out
        clear HC22
        by_cases c23 : a0 = 4
        ·rw [if_pos c23] at H
         have c23b0 : (a0 == 4) = true := beq_iff_eq.mpr c23
         have c23b1 : (a0 != 4) = false := bne_eq_false_iff_eq.mpr c23
         clear c23
         (first | rw [c23b0] | (simp only [i64_w, i32_w]; rw [c23b0]) | skip)
         have H' := A_ H
         clear H
         go_wp2
         go_meet
         case rel => exact ⟨_, ((a0 == 4)), sm_, H', ⟨by have := HJ1.out; have := HJ12.out; first | omega | exact Nat.le_refl _⟩, ⟨by (with_reducible repeat (first | apply Kd.R_alloc | apply Kd.R_drewN | apply Kd.R_drew)); exact HO_4.out⟩, ⟨hb_ HB.out⟩⟩
        ·rw [if_neg c23] at H
         have c23b0 : (a0 == 4) = false := beq_eq_false_iff_ne.mpr c23
         have c23b1 : (a0 != 4) = true := bne_iff_ne.mpr c23
         (first | rw [c23b0] | (simp only [i64_w, i32_w]; rw [c23b0]) | skip)
         have H' := A_ H
         clear H
         go_wp2
         go_meet
         case rel => exact ⟨_, ((a0 == 5)), sm_, H', ⟨by have := HJ1.out; have := HJ12.out; first | omega | exact Nat.le_refl _⟩, ⟨by (with_reducible repeat (first | apply Kd.R_alloc | apply Kd.R_drewN | apply Kd.R_drew)); exact HO_4.out⟩, ⟨hb_ HB.out⟩⟩
       case rest =>
        clear HC22
        try clear c1
        try clear c2
        try clear p2
        try clear c5
        try clear c5b0
        try clear c5b1
        try clear c6
        try clear p6
        try clear q6
        try clear hx6
        try clear c7
        try clear c7b0
        try clear c8
        try clear c8b0
        try clear c10
        try clear c14
        try clear c14b0
        try clear c14b1
        try clear c15
        try clear c16
        try clear c16b0
        try clear c17
        try clear c17b0
        try clear c23
        try clear c23b0
        try clear c23b1
        try clear hx614_0
        try clear hx618_0
        try clear p2
        try clear p6
        try clear p614
        try clear p618
        try clear q6
        try clear q614
        try clear q618
        obtain ⟨kq, x23_21, rfl, HA, HJ21, HO_4, HB⟩ := hcut
        cases kq with
        | zero => exact absurd HA.out (by simp [trunnionref14_group.j2])
        | succ kj21 =>
         have H := HA.out
         clear HA
         simp only [trunnionref14_group.j2] at H
         by_cases c24 : x23_21 = true
         ·subst c24
          have H1 : (if 0 ≤ a0 then (if a0 < (y611.length : Int) then ((trunnionref14_wholes.f).bind fun t623 => (some (rdOf ByteArray.empty y611 a0, t623))) else (none)) else (none)) = some (r1, r2) := by rw [if_pos rfl] at H; exact H
          clear H;have H := H1;clear H1
          by_cases c25 : 0 ≤ a0
          ·rw [if_pos c25] at H
           have c25b0 : decide (0 ≤ a0) = true := decide_eq_true c25
           clear c25
           by_cases c26 : a0 < (y611.length : Int)
           ·rw [if_pos c26] at H
            have c26b0 : decide (a0 < (y611.length : Int)) = true := decide_eq_true c26
            clear c26
            replace H := ob_ H
            obtain ⟨t623, A270, H⟩ := H
            replace H : (some (rdOf ByteArray.empty y611 a0, t623)) = some (r1, r2) := H
            have A27 := A_ A270;clear A270
            simp only [Option.some.injEq, Prod.mk.injEq] at H
            obtain ⟨rfl, rfl⟩ := H
            try go_wp2
            replace HO_4 := A_ (Kd.R_drew HO_4.out)
            replace HB := A_ (below_drew1 HB.out)
            obtain ⟨Ao29, co29, eo29⟩ := Kd.R_slice HO_4.out
            (first | subst eo29 | (injection eo29 with f1_ f2_ f3_; have f4_ := f1_.symm; have f5_ := f3_.symm; clear f1_ f2_ f3_; subst f4_; subst f5_))
            have p622 : 0 ≤ (a0 : Int) := of_decide_eq_true (by first | (with_reducible assumption) | assumption)
            have q622 : a0 < (y611.length : Int) := of_decide_eq_true (by first | (with_reducible assumption) | assumption)
            obtain ⟨ad622, e622, hx622_0⟩ := Kd.at_string (Kd.R_reads' HO_4.out).2.2 a0 p622 q622
            cases e622
            replace p622 := eq_true p622
            replace q622 := eq_true q622
            refine start_ (n := 7) (S := fun w' => w'.cell? (ad622.add (a0).toNat) = some (.string (rdOf ByteArray.empty y611 a0))) (ds := []) #[false, false, false, false, false, false, false] (by kernel_rfl) rfl rfl (hx622_0) (fun hHeld => ?_)
            generalize wc.drew = w28 at HO_4 HB hx622_0 hHeld ⊢
            refine pu_ 0 (some 26) #[true, false, false, false, false, false, false] rfl rfl (by kernel_rfl) ?_
            refine pu_ 1 (some 27) #[true, true, false, false, false, false, false] rfl rfl (by kernel_rfl) ?_
            refine pu_ 2 (some 28) #[true, true, true, false, false, false, false] rfl rfl (by kernel_rfl) ?_
            refine tk1_ 3 (some 29) #[true, true, true, true, false, false, false] rfl rfl (by kernel_rfl) hHeld ?_
            refine one_ (i := 4) (N := some 30) #[true, true, true, true, true, false, false] rfl rfl (by kernel_rfl) (by decide) (fun K hK => ?_)
            refine goes_ Tryz.func161 (by kernel_rfl) rfl #[] (by rfl) rfl rfl mp_ ?_
            with_reducible refine (trunnionref14_wholes.calls  t623 _ A27.out).mono ?_
            rintro e w30 ⟨v624, rfl, ho0, hb⟩
            have HS0_ := (hb.cell (World.block_lt_of_cell? _ _ (hHeld))).trans (hHeld)
            refine ⟨_, rfl, ?_⟩
            have HO625 := A_ (Kd.R_lower (Kd.R_new' ho0 (Kd.R_lt (kr_ HO_4.out))) (below_size (hb_ HB.out)))
            replace HO_4 := A_ (Kd.R_elder' (kr_ HO_4.out) (Kd.R_base ho0) hb)
            replace HB := A_ (below_step (hb_ HB.out) hb);(try clear hb);(try clear hb2);(try clear hk);(try clear hi);(try clear ho0)
            refine hK.out _ _ (HS0_) (fun hHeld => ?_)
            clear hK K
            refine norm_ (a' := ?_) ?_ ?_
            rotate_left
            ·show Act.put _ (some 30) _ = _
             simp only [Act.put, lI_, l0_, lS_, i64_w, i32_w]
             rfl
            refine pu_ 5 (some 2) #[true, true, true, true, true, true, false] rfl rfl (by kernel_rfl) ?_
            refine pu_ 6 (some 3) #[true, true, true, true, true, true, true] rfl rfl (by kernel_rfl) ?_
            refine done_ (by kernel_rfl) ?_
            try go_wp2
            go_ret2
            exact ⟨_, by first | rfl | (simp [errW_none, errW_some] <;> rfl) | (simp [*, errW_none, errW_some] <;> rfl), by (with_reducible repeat (first | apply Kd.R_alloc | apply Kd.R_drewN | apply Kd.R_drew)); exact Kd.R_mono HO625.out (fun _ hk => trivial), hb_ HB.out⟩
           ·rw [if_neg c26] at H
            exact absurd H (by simp)
          ·rw [if_neg c25] at H
           exact absurd H (by simp)
         ·replace c24 := Bool.eq_false_iff.mpr c24
          subst c24
          have H1 : (if a0 = 6 then (trunnionref14_group.j3 kj21 a0 y611 (a0 == 6)) else (trunnionref14_group.j3 kj21 a0 y611 (a0 == 7))) = some (r1, r2) := by rw [if_neg (show ¬ (false = true) by decide)] at H; exact H
          clear H;have H := H1;clear H1;have HC31 := A_ H;clear H
          go_upto_if 31 with (fail)
          go_cut [31] (fun v31 wc => ∃ (kq : Nat) (x31_30 : Bool), v31 = .bool x31_30 ∧ Aside0 (trunnionref14_group.j3 kq a0 y611 x31_30 = some (r1, r2)) ∧ Aside0 (kq ≤ kj21) ∧ Aside0 (Kd.R Kd.string 9 wc w.heap.size (fun _ => True) v612 y611) ∧ Aside0 (Below w.heap.size w wc))
          case first =>
           have H := HC31.out
           clear HC31
           by_cases c32 : a0 = 6
           ·rw [if_pos c32] at H
            have c32b0 : (a0 == 6) = true := beq_iff_eq.mpr c32
            have c32b1 : (a0 != 6) = false := bne_eq_false_iff_eq.mpr c32
            clear c32
            (first | rw [c32b0] | (simp only [i64_w, i32_w]; rw [c32b0]) | skip)
            have H' := A_ H
            clear H
            go_wp2
            go_meet
            case rel => exact ⟨_, ((a0 == 6)), sm_, H', ⟨by have := HJ1.out; have := HJ12.out; have := HJ21.out; first | omega | exact Nat.le_refl _⟩, ⟨by (with_reducible repeat (first | apply Kd.R_alloc | apply Kd.R_drewN | apply Kd.R_drew)); exact HO_4.out⟩, ⟨hb_ HB.out⟩⟩
           ·rw [if_neg c32] at H
            have c32b0 : (a0 == 6) = false := beq_eq_false_iff_ne.mpr c32
            have c32b1 : (a0 != 6) = true := bne_iff_ne.mpr c32
            (first | rw [c32b0] | (simp only [i64_w, i32_w]; rw [c32b0]) | skip)
            have H' := A_ H
            clear H
            go_wp2
            go_meet
            case rel => exact ⟨_, ((a0 == 7)), sm_, H', ⟨by have := HJ1.out; have := HJ12.out; have := HJ21.out; first | omega | exact Nat.le_refl _⟩, ⟨by (with_reducible repeat (first | apply Kd.R_alloc | apply Kd.R_drewN | apply Kd.R_drew)); exact HO_4.out⟩, ⟨hb_ HB.out⟩⟩
          case rest =>
           clear HC31
           try clear c1
           try clear c2
           try clear p2
           try clear c3
           try clear c5
           try clear c5b0
           try clear c5b1
           try clear c6
           try clear p6
           try clear q6
           try clear hx6
           try clear c7
           try clear c7b0
           try clear c8
           try clear c8b0
           try clear c10
           try clear c14
           try clear c14b0
           try clear c14b1
           try clear c15
           try clear c16
           try clear c16b0
           try clear c17
           try clear c17b0
           try clear c23
           try clear c23b0
           try clear c23b1
           try clear c24
           try clear c25
           try clear c25b0
           try clear c26
           try clear c26b0
           try clear c32
           try clear c32b0
           try clear c32b1
           try clear hx614_0
           try clear hx618_0
           try clear hx622_0
           try clear p2
           try clear p6
           try clear p614
           try clear p618
           try clear p622
           try clear q6
           try clear q614
           try clear q618
           try clear q622
           obtain ⟨kq, x31_30, rfl, HA, HJ30, HO_4, HB⟩ := hcut
           cases kq with
           | zero => exact absurd HA.out (by simp [trunnionref14_group.j3])
           | succ kj30 =>
            have H := HA.out
            clear HA
            simp only [trunnionref14_group.j3] at H
            by_cases c33 : x31_30 = true
            ·subst c33
             have H1 : (if 0 ≤ a0 then (if a0 < (y611.length : Int) then ((trunnionref14_doubles.f).bind fun t627 => (some (rdOf ByteArray.empty y611 a0, t627))) else (none)) else (none)) = some (r1, r2) := by rw [if_pos rfl] at H; exact H
             clear H;have H := H1;clear H1
             by_cases c34 : 0 ≤ a0
             ·rw [if_pos c34] at H
              have c34b0 : decide (0 ≤ a0) = true := decide_eq_true c34
              clear c34
              by_cases c35 : a0 < (y611.length : Int)
              ·rw [if_pos c35] at H
               have c35b0 : decide (a0 < (y611.length : Int)) = true := decide_eq_true c35
               clear c35
               replace H := ob_ H
               obtain ⟨t627, A360, H⟩ := H
               replace H : (some (rdOf ByteArray.empty y611 a0, t627)) = some (r1, r2) := H
               have A36 := A_ A360;clear A360
               simp only [Option.some.injEq, Prod.mk.injEq] at H
               obtain ⟨rfl, rfl⟩ := H
               try go_wp2
               replace HO_4 := A_ (Kd.R_drew HO_4.out)
               replace HB := A_ (below_drew1 HB.out)
               obtain ⟨Ao38, co38, eo38⟩ := Kd.R_slice HO_4.out
               (first | subst eo38 | (injection eo38 with f1_ f2_ f3_; have f4_ := f1_.symm; have f5_ := f3_.symm; clear f1_ f2_ f3_; subst f4_; subst f5_))
               have p626 : 0 ≤ (a0 : Int) := of_decide_eq_true (by first | (with_reducible assumption) | assumption)
               have q626 : a0 < (y611.length : Int) := of_decide_eq_true (by first | (with_reducible assumption) | assumption)
               obtain ⟨ad626, e626, hx626_0⟩ := Kd.at_string (Kd.R_reads' HO_4.out).2.2 a0 p626 q626
               cases e626
               replace p626 := eq_true p626
               replace q626 := eq_true q626
               refine start_ (n := 7) (S := fun w' => w'.cell? (ad626.add (a0).toNat) = some (.string (rdOf ByteArray.empty y611 a0))) (ds := []) #[false, false, false, false, false, false, false] (by kernel_rfl) rfl rfl (hx626_0) (fun hHeld => ?_)
               generalize wc.drew = w37 at HO_4 HB hx626_0 hHeld ⊢
               refine pu_ 0 (some 34) #[true, false, false, false, false, false, false] rfl rfl (by kernel_rfl) ?_
               refine pu_ 1 (some 35) #[true, true, false, false, false, false, false] rfl rfl (by kernel_rfl) ?_
               refine pu_ 2 (some 36) #[true, true, true, false, false, false, false] rfl rfl (by kernel_rfl) ?_
               refine tk1_ 3 (some 37) #[true, true, true, true, false, false, false] rfl rfl (by kernel_rfl) hHeld ?_
               refine one_ (i := 4) (N := some 38) #[true, true, true, true, true, false, false] rfl rfl (by kernel_rfl) (by decide) (fun K hK => ?_)
               refine goes_ Tryz.func162 (by kernel_rfl) rfl #[] (by rfl) rfl rfl mp_ ?_
               with_reducible refine (trunnionref14_doubles.calls  t627 _ A36.out).mono ?_
               rintro e w39 ⟨v628, rfl, ho0, hb⟩
               have HS0_ := (hb.cell (World.block_lt_of_cell? _ _ (hHeld))).trans (hHeld)
               refine ⟨_, rfl, ?_⟩
               have HO629 := A_ (Kd.R_lower (Kd.R_new' ho0 (Kd.R_lt (kr_ HO_4.out))) (below_size (hb_ HB.out)))
               replace HO_4 := A_ (Kd.R_elder' (kr_ HO_4.out) (Kd.R_base ho0) hb)
               replace HB := A_ (below_step (hb_ HB.out) hb);(try clear hb);(try clear hb2);(try clear hk);(try clear hi);(try clear ho0)
               refine hK.out _ _ (HS0_) (fun hHeld => ?_)
               clear hK K
               refine norm_ (a' := ?_) ?_ ?_
               rotate_left
               ·show Act.put _ (some 38) _ = _
                simp only [Act.put, lI_, l0_, lS_, i64_w, i32_w]
                rfl
               refine pu_ 5 (some 2) #[true, true, true, true, true, true, false] rfl rfl (by kernel_rfl) ?_
               refine pu_ 6 (some 3) #[true, true, true, true, true, true, true] rfl rfl (by kernel_rfl) ?_
               refine done_ (by kernel_rfl) ?_
               try go_wp2
               go_ret2
               exact ⟨_, by first | rfl | (simp [errW_none, errW_some] <;> rfl) | (simp [*, errW_none, errW_some] <;> rfl), by (with_reducible repeat (first | apply Kd.R_alloc | apply Kd.R_drewN | apply Kd.R_drew)); exact Kd.R_mono HO629.out (fun _ hk => trivial), hb_ HB.out⟩
              ·rw [if_neg c35] at H
               exact absurd H (by simp)
             ·rw [if_neg c34] at H
              exact absurd H (by simp)
            ·replace c33 := Bool.eq_false_iff.mpr c33
             subst c33
             have H1 : (if 0 ≤ a0 then (if a0 < (y611.length : Int) then ((trunnionref14_turns.f).bind fun t631 => (some (rdOf ByteArray.empty y611 a0, t631))) else (none)) else (none)) = some (r1, r2) := by rw [if_neg (show ¬ (false = true) by decide)] at H; exact H
             clear H;have H := H1;clear H1
             by_cases c40 : 0 ≤ a0
             ·rw [if_pos c40] at H
              have c40b0 : decide (0 ≤ a0) = true := decide_eq_true c40
              clear c40
              by_cases c41 : a0 < (y611.length : Int)
              ·rw [if_pos c41] at H
               have c41b0 : decide (a0 < (y611.length : Int)) = true := decide_eq_true c41
               clear c41
               replace H := ob_ H
               obtain ⟨t631, A420, H⟩ := H
               replace H : (some (rdOf ByteArray.empty y611 a0, t631)) = some (r1, r2) := H
               have A42 := A_ A420;clear A420
               simp only [Option.some.injEq, Prod.mk.injEq] at H
               obtain ⟨rfl, rfl⟩ := H
               try go_wp2
               replace HO_4 := A_ (Kd.R_drew HO_4.out)
               replace HB := A_ (below_drew1 HB.out)
               obtain ⟨Ao44, co44, eo44⟩ := Kd.R_slice HO_4.out
               (first | subst eo44 | (injection eo44 with f1_ f2_ f3_; have f4_ := f1_.symm; have f5_ := f3_.symm; clear f1_ f2_ f3_; subst f4_; subst f5_))
               have p630 : 0 ≤ (a0 : Int) := of_decide_eq_true (by first | (with_reducible assumption) | assumption)
               have q630 : a0 < (y611.length : Int) := of_decide_eq_true (by first | (with_reducible assumption) | assumption)
               obtain ⟨ad630, e630, hx630_0⟩ := Kd.at_string (Kd.R_reads' HO_4.out).2.2 a0 p630 q630
               cases e630
               replace p630 := eq_true p630
               replace q630 := eq_true q630
               refine start_ (n := 7) (S := fun w' => w'.cell? (ad630.add (a0).toNat) = some (.string (rdOf ByteArray.empty y611 a0))) (ds := []) #[false, false, false, false, false, false, false] (by kernel_rfl) rfl rfl (hx630_0) (fun hHeld => ?_)
               generalize wc.drew = w43 at HO_4 HB hx630_0 hHeld ⊢
               refine pu_ 0 (some 39) #[true, false, false, false, false, false, false] rfl rfl (by kernel_rfl) ?_
               refine pu_ 1 (some 40) #[true, true, false, false, false, false, false] rfl rfl (by kernel_rfl) ?_
               refine pu_ 2 (some 41) #[true, true, true, false, false, false, false] rfl rfl (by kernel_rfl) ?_
               refine tk1_ 3 (some 42) #[true, true, true, true, false, false, false] rfl rfl (by kernel_rfl) hHeld ?_
               refine one_ (i := 4) (N := some 43) #[true, true, true, true, true, false, false] rfl rfl (by kernel_rfl) (by decide) (fun K hK => ?_)
               refine goes_ Tryz.func163 (by kernel_rfl) rfl #[] (by rfl) rfl rfl mp_ ?_
               with_reducible refine (trunnionref14_turns.calls  t631 _ A42.out).mono ?_
               rintro e w45 ⟨v632, rfl, ho0, hb⟩
               have HS0_ := (hb.cell (World.block_lt_of_cell? _ _ (hHeld))).trans (hHeld)
               refine ⟨_, rfl, ?_⟩
               have HO633 := A_ (Kd.R_lower (Kd.R_new' ho0 (Kd.R_lt (kr_ HO_4.out))) (below_size (hb_ HB.out)))
               replace HO_4 := A_ (Kd.R_elder' (kr_ HO_4.out) (Kd.R_base ho0) hb)
               replace HB := A_ (below_step (hb_ HB.out) hb);(try clear hb);(try clear hb2);(try clear hk);(try clear hi);(try clear ho0)
               refine hK.out _ _ (HS0_) (fun hHeld => ?_)
               clear hK K
               refine norm_ (a' := ?_) ?_ ?_
               rotate_left
               ·show Act.put _ (some 43) _ = _
                simp only [Act.put, lI_, l0_, lS_, i64_w, i32_w]
                rfl
               refine pu_ 5 (some 2) #[true, true, true, true, true, true, false] rfl rfl (by kernel_rfl) ?_
               refine pu_ 6 (some 3) #[true, true, true, true, true, true, true] rfl rfl (by kernel_rfl) ?_
               refine done_ (by kernel_rfl) ?_
               try go_wp2
               go_ret2
               exact ⟨_, by first | rfl | (simp [errW_none, errW_some] <;> rfl) | (simp [*, errW_none, errW_some] <;> rfl), by (with_reducible repeat (first | apply Kd.R_alloc | apply Kd.R_drewN | apply Kd.R_drew)); exact Kd.R_mono HO633.out (fun _ hk => trivial), hb_ HB.out⟩
              ·rw [if_neg c41] at H
               exact absurd H (by simp)
             ·rw [if_neg c40] at H
              exact absurd H (by simp)
def trunnionref14_sats.f  : Option (List ByteArray) := some (([(⟨#[105, 51, 50, 46, 116, 114, 117, 110, 99, 95, 115, 97, 116, 95, 102, 51, 50, 95, 115]⟩ : ByteArray), (⟨#[105, 51, 50, 46, 116, 114, 117, 110, 99, 95, 115, 97, 116, 95, 102, 51, 50, 95, 117]⟩ : ByteArray), (⟨#[105, 51, 50, 46, 116, 114, 117, 110, 99, 95, 115, 97, 116, 95, 102, 54, 52, 95, 115]⟩ : ByteArray), (⟨#[105, 51, 50, 46, 116, 114, 117, 110, 99, 95, 115, 97, 116, 95, 102, 54, 52, 95, 117]⟩ : ByteArray), (⟨#[105, 54, 52, 46, 116, 114, 117, 110, 99, 95, 115, 97, 116, 95, 102, 51, 50, 95, 115]⟩ : ByteArray), (⟨#[105, 54, 52, 46, 116, 114, 117, 110, 99, 95, 115, 97, 116, 95, 102, 51, 50, 95, 117]⟩ : ByteArray), (⟨#[105, 54, 52, 46, 116, 114, 117, 110, 99, 95, 115, 97, 116, 95, 102, 54, 52, 95, 115]⟩ : ByteArray), (⟨#[105, 54, 52, 46, 116, 114, 117, 110, 99, 95, 115, 97, 116, 95, 102, 54, 52, 95, 117]⟩ : ByteArray)] : List ByteArray))
theorem trunnionref14_sats.calls  (r : List ByteArray) (w : World) (h : trunnionref14_sats.f  = some r) :
  Calls Tryz.prog 100 #[] w fun e w' => ∃ v0_ : Value, e = .returned (v0_) ∧ Kd.R Kd.string 9 w' w.heap.size (fun _ => True) v0_ r ∧ Below w.heap.size w w' := by
 have HB := A_ (Below.refl w.heap.size w)
 have H : (some (([(⟨#[105, 51, 50, 46, 116, 114, 117, 110, 99, 95, 115, 97, 116, 95, 102, 51, 50, 95, 115]⟩ : ByteArray), (⟨#[105, 51, 50, 46, 116, 114, 117, 110, 99, 95, 115, 97, 116, 95, 102, 51, 50, 95, 117]⟩ : ByteArray), (⟨#[105, 51, 50, 46, 116, 114, 117, 110, 99, 95, 115, 97, 116, 95, 102, 54, 52, 95, 115]⟩ : ByteArray), (⟨#[105, 51, 50, 46, 116, 114, 117, 110, 99, 95, 115, 97, 116, 95, 102, 54, 52, 95, 117]⟩ : ByteArray), (⟨#[105, 54, 52, 46, 116, 114, 117, 110, 99, 95, 115, 97, 116, 95, 102, 51, 50, 95, 115]⟩ : ByteArray), (⟨#[105, 54, 52, 46, 116, 114, 117, 110, 99, 95, 115, 97, 116, 95, 102, 51, 50, 95, 117]⟩ : ByteArray), (⟨#[105, 54, 52, 46, 116, 114, 117, 110, 99, 95, 115, 97, 116, 95, 102, 54, 52, 95, 115]⟩ : ByteArray), (⟨#[105, 54, 52, 46, 116, 114, 117, 110, 99, 95, 115, 97, 116, 95, 102, 54, 52, 95, 117]⟩ : ByteArray)] : List ByteArray))) = some r := h
 clear h
 obtain ⟨y593, hy593⟩ : ∃ y_ : List ByteArray, y_ = (([(⟨#[105, 51, 50, 46, 116, 114, 117, 110, 99, 95, 115, 97, 116, 95, 102, 51, 50, 95, 115]⟩ : ByteArray), (⟨#[105, 51, 50, 46, 116, 114, 117, 110, 99, 95, 115, 97, 116, 95, 102, 51, 50, 95, 117]⟩ : ByteArray), (⟨#[105, 51, 50, 46, 116, 114, 117, 110, 99, 95, 115, 97, 116, 95, 102, 54, 52, 95, 115]⟩ : ByteArray), (⟨#[105, 51, 50, 46, 116, 114, 117, 110, 99, 95, 115, 97, 116, 95, 102, 54, 52, 95, 117]⟩ : ByteArray), (⟨#[105, 54, 52, 46, 116, 114, 117, 110, 99, 95, 115, 97, 116, 95, 102, 51, 50, 95, 115]⟩ : ByteArray), (⟨#[105, 54, 52, 46, 116, 114, 117, 110, 99, 95, 115, 97, 116, 95, 102, 51, 50, 95, 117]⟩ : ByteArray), (⟨#[105, 54, 52, 46, 116, 114, 117, 110, 99, 95, 115, 97, 116, 95, 102, 54, 52, 95, 115]⟩ : ByteArray), (⟨#[105, 54, 52, 46, 116, 114, 117, 110, 99, 95, 115, 97, 116, 95, 102, 54, 52, 95, 117]⟩ : ByteArray)] : List ByteArray)) := ⟨_, rfl⟩
 replace H : (some y593) = some r := by first | (rw [hy593]; with_reducible exact H) | (have H2_ := (Option.bind_some _ _).symm.trans H; rw [hy593]; with_reducible exact H2_) | (have H2_ := (Option.bind_some _ _).symm.trans H; with_reducible exact H2_) | with_reducible exact H | (rw [hy593]; exact H) | exact H
 have Ny593 := A_ hy593;clear hy593
 obtain rfl := Option.some.inj H
 go_enter Tryz.func100, Tryz.ntmps100
 go_wp2_with (first | ((with_reducible refine gate_dst (N := 1) rfl ?_); refine Kd.R_lit Kd.string _ 9 ?hg (N := 1) ?hd (xs := ([(⟨#[105, 51, 50, 46, 116, 114, 117, 110, 99, 95, 115, 97, 116, 95, 102, 51, 50, 95, 115]⟩ : ByteArray), (⟨#[105, 51, 50, 46, 116, 114, 117, 110, 99, 95, 115, 97, 116, 95, 102, 51, 50, 95, 117]⟩ : ByteArray), (⟨#[105, 51, 50, 46, 116, 114, 117, 110, 99, 95, 115, 97, 116, 95, 102, 54, 52, 95, 115]⟩ : ByteArray), (⟨#[105, 51, 50, 46, 116, 114, 117, 110, 99, 95, 115, 97, 116, 95, 102, 54, 52, 95, 117]⟩ : ByteArray), (⟨#[105, 54, 52, 46, 116, 114, 117, 110, 99, 95, 115, 97, 116, 95, 102, 51, 50, 95, 115]⟩ : ByteArray), (⟨#[105, 54, 52, 46, 116, 114, 117, 110, 99, 95, 115, 97, 116, 95, 102, 51, 50, 95, 117]⟩ : ByteArray), (⟨#[105, 54, 52, 46, 116, 114, 117, 110, 99, 95, 115, 97, 116, 95, 102, 54, 52, 95, 115]⟩ : ByteArray), (⟨#[105, 54, 52, 46, 116, 114, 117, 110, 99, 95, 115, 97, 116, 95, 102, 54, 52, 95, 117]⟩ : ByteArray)] : List ByteArray)) (inner := [.string (⟨#[105, 51, 50, 46, 116, 114, 117, 110, 99, 95, 115, 97, 116, 95, 102, 51, 50, 95, 115]⟩ : ByteArray), .string (⟨#[105, 51, 50, 46, 116, 114, 117, 110, 99, 95, 115, 97, 116, 95, 102, 51, 50, 95, 117]⟩ : ByteArray), .string (⟨#[105, 51, 50, 46, 116, 114, 117, 110, 99, 95, 115, 97, 116, 95, 102, 54, 52, 95, 115]⟩ : ByteArray), .string (⟨#[105, 51, 50, 46, 116, 114, 117, 110, 99, 95, 115, 97, 116, 95, 102, 54, 52, 95, 117]⟩ : ByteArray), .string (⟨#[105, 54, 52, 46, 116, 114, 117, 110, 99, 95, 115, 97, 116, 95, 102, 51, 50, 95, 115]⟩ : ByteArray), .string (⟨#[105, 54, 52, 46, 116, 114, 117, 110, 99, 95, 115, 97, 116, 95, 102, 51, 50, 95, 117]⟩ : ByteArray), .string (⟨#[105, 54, 52, 46, 116, 114, 117, 110, 99, 95, 115, 97, 116, 95, 102, 54, 52, 95, 115]⟩ : ByteArray), .string (⟨#[105, 54, 52, 46, 116, 114, 117, 110, 99, 95, 115, 97, 116, 95, 102, 54, 52, 95, 117]⟩ : ByteArray)]) (ok := fun _ => True) (okp := fun _ => True) ?hr ?hp (fun _ hk => hk) trivial (Below.refl _ _) (Nat.le_refl _) (by simp) ?_; (case hd => rfl); (case hg => rfl); (case hr => first | (go_simp; done) | (go_simp; rfl)); (case hp => exact (Reps.one (show Kd.M Kd.string _ _ _ (⟨#[105, 51, 50, 46, 116, 114, 117, 110, 99, 95, 115, 97, 116, 95, 102, 51, 50, 95, 115]⟩ : ByteArray) [.string (⟨#[105, 51, 50, 46, 116, 114, 117, 110, 99, 95, 115, 97, 116, 95, 102, 51, 50, 95, 115]⟩ : ByteArray)] from rfl) (Reps.one (show Kd.M Kd.string _ _ _ (⟨#[105, 51, 50, 46, 116, 114, 117, 110, 99, 95, 115, 97, 116, 95, 102, 51, 50, 95, 117]⟩ : ByteArray) [.string (⟨#[105, 51, 50, 46, 116, 114, 117, 110, 99, 95, 115, 97, 116, 95, 102, 51, 50, 95, 117]⟩ : ByteArray)] from rfl) (Reps.one (show Kd.M Kd.string _ _ _ (⟨#[105, 51, 50, 46, 116, 114, 117, 110, 99, 95, 115, 97, 116, 95, 102, 54, 52, 95, 115]⟩ : ByteArray) [.string (⟨#[105, 51, 50, 46, 116, 114, 117, 110, 99, 95, 115, 97, 116, 95, 102, 54, 52, 95, 115]⟩ : ByteArray)] from rfl) (Reps.one (show Kd.M Kd.string _ _ _ (⟨#[105, 51, 50, 46, 116, 114, 117, 110, 99, 95, 115, 97, 116, 95, 102, 54, 52, 95, 117]⟩ : ByteArray) [.string (⟨#[105, 51, 50, 46, 116, 114, 117, 110, 99, 95, 115, 97, 116, 95, 102, 54, 52, 95, 117]⟩ : ByteArray)] from rfl) (Reps.one (show Kd.M Kd.string _ _ _ (⟨#[105, 54, 52, 46, 116, 114, 117, 110, 99, 95, 115, 97, 116, 95, 102, 51, 50, 95, 115]⟩ : ByteArray) [.string (⟨#[105, 54, 52, 46, 116, 114, 117, 110, 99, 95, 115, 97, 116, 95, 102, 51, 50, 95, 115]⟩ : ByteArray)] from rfl) (Reps.one (show Kd.M Kd.string _ _ _ (⟨#[105, 54, 52, 46, 116, 114, 117, 110, 99, 95, 115, 97, 116, 95, 102, 51, 50, 95, 117]⟩ : ByteArray) [.string (⟨#[105, 54, 52, 46, 116, 114, 117, 110, 99, 95, 115, 97, 116, 95, 102, 51, 50, 95, 117]⟩ : ByteArray)] from rfl) (Reps.one (show Kd.M Kd.string _ _ _ (⟨#[105, 54, 52, 46, 116, 114, 117, 110, 99, 95, 115, 97, 116, 95, 102, 54, 52, 95, 115]⟩ : ByteArray) [.string (⟨#[105, 54, 52, 46, 116, 114, 117, 110, 99, 95, 115, 97, 116, 95, 102, 54, 52, 95, 115]⟩ : ByteArray)] from rfl) (Reps.one (show Kd.M Kd.string _ _ _ (⟨#[105, 54, 52, 46, 116, 114, 117, 110, 99, 95, 115, 97, 116, 95, 102, 54, 52, 95, 117]⟩ : ByteArray) [.string (⟨#[105, 54, 52, 46, 116, 114, 117, 110, 99, 95, 115, 97, 116, 95, 102, 54, 52, 95, 117]⟩ : ByteArray)] from rfl) (Reps.none _ _)))))))))); intro v594 w1 ho2 hb hg_ hnew_; clear hg_ hnew_; (first | rw [← Ny593.out] at ho2 | (simp only [Int.reduceToNat] at ho2; rw [← Ny593.out] at ho2)); have HO595 := A_ (Kd.R_lower ho2 (below_size (hb_ HB.out))); replace HB := A_ (below_step (hb_ HB.out) hb); clear hb ho2))
 go_ret
 exact ⟨_, by first | rfl | (simp [errW_none, errW_some] <;> rfl) | (simp [*, errW_none, errW_some] <;> rfl), by (with_reducible repeat (first | apply Kd.R_alloc | apply Kd.R_drewN | apply Kd.R_drew)); exact HO595.out, hb_ HB.out⟩
end Go.Proofs.YtnmlmgmljoncoaaGreatDoor.PA
