/- What the Go functions that the statement RoundWholes reaches compute, and the mathematics on it, in the order in which one leans on the other; for every input. -/
import Derived.Test.YtgcgheilbngcoaaVRoundWholes0
import Derived.Test.YtgcgheilbngcoaaMRoundWholes0
import Derived.Test.YtgcgheilbngcoaaMRoundWholes2
import Derived.Test.YtgcgheilbngcoaaMRoundWholes1
namespace Go.Proofs.Ytgcgheilbngcoaa.PA
open Go.RowKit Go.Proofs.YtgcgheilbngcoaaW.PrintWords Go.Proofs.YtgcgheilbngcoaaW.PrintLast Go.Proofs.YtgcgheilbngcoaaW.PrintMore
attribute [local go_sem] max2_int min2_int max_two min_two max_three min_three max_four min_four   -- for this text's walks alone
set_option linter.unusedVariables false
set_option linter.unusedSimpArgs false
set_option maxHeartbeats 8000000
set_option maxRecDepth 100000
def trunnionref01_Half.f (k : Nat) (l0_0 : List Int) (a1 : Int) : Option (List Int × Bool) := (trunnionref01_Of.f k 1).bind fun t503 => ((trunnionref01_Shl.f k t503 a1).bind fun t506 => ((trunnionref01_Div.f k l0_0 t506).bind fun bt509 => (some (bt509.1, decide ((bt509.2.length : Int) > 0)))))
theorem trunnionref01_Half.mono : ∀ a0 a1 k, LeO (trunnionref01_Half.f k a0 a1) (trunnionref01_Half.f (k + 1) a0 a1) := by
 intro a0 a1 k
 unfold trunnionref01_Half.f
 repeat' first
   | (with_reducible exact trunnionref01_Div.mono _ _ _)
   | (with_reducible exact trunnionref01_Of.mono _ _)
   | (with_reducible exact trunnionref01_Shl.mono _ _ _)
   | (with_reducible exact LeO.refl _)
   | (with_reducible exact LeO.none _)
   | (with_reducible refine LeO.ite ?_ ?_)
   | (with_reducible refine LeO.bind ?_ (fun _ => ?_))
   | exact trunnionref01_Div.mono _ _ _
   | exact trunnionref01_Of.mono _ _
   | exact trunnionref01_Shl.mono _ _ _
   | exact LeO.none _
   | refine LeO.ite ?_ ?_
   | refine LeO.bind ?_ (fun _ => ?_)
def trunnionref01_Half.T1 : Bool × List (List Nat × List Nat) := (true, [([], []), ([], []), ([], []), ([1, 2, 1], [1, 2]), ([0, 3, 3], [0, 3]), ([4], [4]), ([5], [5]), ([5], [5]), ([], []), ([], []), ([8, 6, 4, 0, 1, 2, 3, 4, 5, 6, 8, 9], [6, 8]), ([9, 7, 10, 0, 1, 2, 3, 4, 5, 6, 7, 8, 9, 10], [7, 9])])
def trunnionref01_Half.B1 : List Nat := [0, 0, 0, 6, 15, 31, 63, 63, 0, 0, 895, 2047]
theorem trunnionref01_Half.tab1 : rtab .any (opsOf Try.f160 1) = trunnionref01_Half.T1 := by kernel_rfl
theorem trunnionref01_Half.bits1 : waitsOk trunnionref01_Half.T1.2 trunnionref01_Half.B1 = true := by kernel_rfl
theorem trunnionref01_Half.calls (k : Nat) (A0_0 : Option Addr) (c0_0 : Nat) (l0_0 : List Int) (a1 : Int) (r1 : List Int) (r2 : Bool) (w : World) (hr0_0 : Kd.C (Kd.int .u64) w A0_0 l0_0.length l0_0) (hc0_0 : l0_0.length ≤ c0_0) (h : trunnionref01_Half.f k l0_0 a1 = some (r1, r2)) :
  Calls Try.prog 160 #[.agg #[.slice A0_0 l0_0.length c0_0], .int .i64 a1] w fun e w' => ∃ v0_ : Value, e = .returned (.tuple #[.agg #[v0_], .bool r2]) ∧ Kd.R (Kd.int .u64) 24 w' w.heap.size (fun _ => True) v0_ r1 ∧ Below w.heap.size w w' := by
 have hu56 := Try.underlying56
 have HR0_0 := A_ hr0_0;have HC0_0 := A_ hc0_0;clear hr0_0 hc0_0
 have HB := A_ (Below.refl w.heap.size w)
 have H : ((trunnionref01_Of.f k 1).bind fun t503 => ((trunnionref01_Shl.f k t503 a1).bind fun t506 => ((trunnionref01_Div.f k l0_0 t506).bind fun bt509 => (some (bt509.1, decide ((bt509.2.length : Int) > 0)))))) = some (r1, r2) := h
 clear h
 replace H := Option.bind_eq_some_iff.mp H
 obtain ⟨t503, A30, H⟩ := H
 replace H : ((trunnionref01_Shl.f k t503 a1).bind fun t506 => ((trunnionref01_Div.f k l0_0 t506).bind fun bt509 => (some (bt509.1, decide ((bt509.2.length : Int) > 0))))) = some (r1, r2) := H
 have A3 := A_ A30;clear A30
 replace H := Option.bind_eq_some_iff.mp H
 obtain ⟨t506, A40, H⟩ := H
 replace H : ((trunnionref01_Div.f k l0_0 t506).bind fun bt509 => (some (bt509.1, decide ((bt509.2.length : Int) > 0)))) = some (r1, r2) := H
 have A4 := A_ A40;clear A40
 replace H := Option.bind_eq_some_iff.mp H
 obtain ⟨⟨t509, t512⟩, A50, H⟩ := H
 replace H : (some (t509, decide ((t512.length : Int) > 0))) = some (r1, r2) := H
 have A5 := A_ A50;clear A50
 simp only [Option.some.injEq, Prod.mk.injEq] at H
 obtain ⟨rfl, rfl⟩ := H
 go_enter Try.func160, Try.ntmps160
 try go_wp2_with (first | ((with_reducible refine gate_dst (N := 2) rfl ?_); refine box_event ?hg (N := 2) ?hd (cs := #[.slice A0_0 l0_0.length c0_0]) (t := 56) ?hr ?_; (case hd => rfl); (case hg => rfl); (case hr => first | (go_simp; done) | (go_simp; rfl)); intro gb501 hg w6 hbox hb; have n0_ := A_ (below_step (hb_ HB.out) hb); have n1_ := A_ (hbox); have n2_ := A_ ((by rw [hg]; exact (below_size (hb_ HB.out)) : w.heap.size ≤ gb501)); have n3_ := A_ ((by rw [hg]; exact (below_size (hb_ HB.out)) : w.heap.size ≤ gb501)); clear HB; have HB := n0_; have BK501 := n1_; have GW501 := n2_; have GE501 := n3_; clear n0_ n1_ n2_ n3_; clear hb hbox hg) | ((with_reducible refine gate_dst (N := 4) rfl ?_); refine box_event ?hg (N := 4) ?hd (cs := #[.slice none 0 0]) (t := 56) ?hr ?_; (case hd => rfl); (case hg => rfl); (case hr => first | (go_simp; done) | (go_simp; rfl)); intro gb502 hg w7 hbox hb; have n0_ := A_ (blk_below (g := gb501) (o := .cells #[.slice A0_0 l0_0.length c0_0] 56 (0, 0)) (bk_ BK501.out) hb); have n1_ := A_ (below_step (hb1_ HB.out GE501.out) hb); have n2_ := A_ (hbox); have n3_ := A_ ((by rw [hg]; exact (below_size (hb1_ HB.out GE501.out)) : w.heap.size ≤ gb502)); have n4_ := A_ ((by rw [hg]; exact (below_size (hb1_ HB.out GE501.out)) : w.heap.size ≤ gb502)); have n5_ := A_ ((by rw [hg]; exact Nat.ne_of_lt (blk_lt (g := gb501) (o := .cells #[.slice A0_0 l0_0.length c0_0] 56 (0, 0)) (bk_ BK501.out)) : gb501 ≠ gb502)); have n6_ := A_ ((by rw [hg]; exact Nat.ne_of_gt (blk_lt (g := gb501) (o := .cells #[.slice A0_0 l0_0.length c0_0] 56 (0, 0)) (bk_ BK501.out)) : gb502 ≠ gb501)); clear BK501; clear HB; have BK501 := n0_; have HB := n1_; have BK502 := n2_; have GW502 := n3_; have GE502 := n4_; have NB501_502 := n5_; have NB502_501 := n6_; clear n0_ n1_ n2_ n3_ n4_ n5_ n6_; clear hb hbox hg))
 have n0_ := A_ (blk_drew BK501.out)
 have n1_ := A_ (blk_drew BK502.out)
 have n2_ := A_ (below_drew1 HB.out)
 clear BK501;clear BK502;clear HB;have BK501 := n0_;have BK502 := n1_;have HB := n2_;clear n0_ n1_ n2_
 refine start_ (n := 12) (S := fun w' => w'.cell? ⟨gb501, 0, none⟩ = some (.slice A0_0 l0_0.length c0_0)) (ds := []) #[false, false, false, false, false, false, false, false, false, false, false, false] (by kernel_rfl) rfl rfl ((blk_cell BK501.out 0).trans rfl) (fun hHeld => ?_); refine with_tabW trunnionref01_Half.tab1 trunnionref01_Half.bits1 (fun HT_ HW_ => ?_)
 generalize w7.drew = w8 at BK501 BK502 HB hHeld ⊢
 refine pure_ (i := 2) (N := some 11) (v := ?_) (a' := ?_) #[false, false, true, false, false, false, false, false, false, false, false, false] rfl rfl (any_of HT_.out (by kernel_rfl)) (fun _ _ _ h => h) (Or.inl ⟨by rfl, ?_⟩) ?_ ?_
 rotate_left
 ·intro w'
  go_simp
  with_reducible rfl
 rotate_left
 ·simp only [Act.put, sI, s0, sS, i64_w, i32_w]
  rfl
 refine take_ (i := 0) (N := some 9) (v := ?_) (a' := ?_) #[true, false, true, false, false, false, false, false, false, false, false, false] rfl rfl (take_ofW HT_.out HW_.out (by kernel_rfl)) (fun _ _ _ h => h) (Or.inl ⟨by rfl, ?_⟩) hHeld ?_ ?_
 rotate_left
 ·intro w' s0
  go_simp
  with_reducible rfl
 rotate_left
 ·simp only [Act.put, sI, s0, sS, i64_w, i32_w]
  rfl
 refine join_ (σ := Value × Value × Value × Value × Nat × Nat) 2 #[true, true, true, true, true, true, true, true, true, true, false, false] (fun s_ => [(10, .agg #[s_.1]), (12, .agg #[s_.2.1]), (13, .tuple #[.agg #[s_.2.2.1], .agg #[s_.2.2.2.1]]), (6, .pointer (some ⟨s_.2.2.2.2.1, 0, none⟩)), (7, .pointer (some ⟨s_.2.2.2.2.2, 0, none⟩)), (8, .tuple #[.agg #[s_.2.2.1], .agg #[s_.2.2.2.1]]), (14, .agg #[s_.2.2.1]), (15, .agg #[s_.2.2.2.1])]) (fun s_ w' => (w'.cell? ⟨gb501, 0, none⟩ = some (.slice A0_0 l0_0.length c0_0)) ∧ (Kd.R (Kd.int .u64) 24 w' w.heap.size (fun k_ => some k_ ≠ (s_.2.1 : Value).ownBlock ∧ some k_ ≠ (s_.2.2.1 : Value).ownBlock) s_.1 t503) ∧ (Kd.R (Kd.int .u64) 24 w' w.heap.size (fun k_ => some k_ ≠ (s_.1 : Value).ownBlock ∧ some k_ ≠ (s_.2.2.1 : Value).ownBlock) s_.2.1 t506) ∧ (Kd.R (Kd.int .u64) 24 w' w.heap.size (fun k_ => some k_ ≠ (s_.1 : Value).ownBlock ∧ some k_ ≠ (s_.2.1 : Value).ownBlock) s_.2.2.1 t509) ∧ (Kd.V (Kd.int .u64) 24 w' w.heap.size (fun k_ => some k_ ≠ (s_.1 : Value).ownBlock ∧ some k_ ≠ (s_.2.1 : Value).ownBlock ∧ some k_ ≠ (s_.2.2.1 : Value).ownBlock ∧ k_ ≠ gb501 ∧ k_ ≠ gb502 ∧ k_ ≠ s_.2.2.2.2.1 ∧ k_ ≠ s_.2.2.2.2.2) s_.2.2.2.1 t512) ∧ (w'.heap[gb501]? = some (.cells #[.slice A0_0 l0_0.length c0_0] 56 (0, 0))) ∧ (w'.heap[gb502]? = some (.cells #[.slice none 0 0] 56 (0, 0))) ∧ (w'.heap[s_.2.2.2.2.1]? = some (.cells #[.slice none 0 0] 56 (0, 0))) ∧ (w'.heap[s_.2.2.2.2.2]? = some (.cells #[.slice none 0 0] 56 (0, 0))) ∧ (w.heap.size ≤ s_.2.2.2.2.1) ∧ (w.heap.size ≤ s_.2.2.2.2.1) ∧ (gb501 ≠ s_.2.2.2.2.1) ∧ (s_.2.2.2.2.1 ≠ gb501) ∧ (gb502 ≠ s_.2.2.2.2.1) ∧ (s_.2.2.2.2.1 ≠ gb502) ∧ (s_.2.2.2.2.2 ≠ s_.2.2.2.2.1) ∧ (s_.2.2.2.2.1 ≠ s_.2.2.2.2.2) ∧ (w.heap.size ≤ s_.2.2.2.2.2) ∧ (w.heap.size ≤ s_.2.2.2.2.2) ∧ (gb501 ≠ s_.2.2.2.2.2) ∧ (s_.2.2.2.2.2 ≠ gb501) ∧ (gb502 ≠ s_.2.2.2.2.2) ∧ (s_.2.2.2.2.2 ≠ gb502) ∧ (Below w.heap.size w w')) ?_ ?_
 rotate_left
 ·intro hJ1_3_4_8_9
  refine join_ (σ := Value × Value × Value × Value × Nat) 3 #[true, true, true, true, true, true, true, true, true, false, false, false] (fun s_ => [(10, .agg #[s_.1]), (12, .agg #[s_.2.1]), (13, .tuple #[.agg #[s_.2.2.1], .agg #[s_.2.2.2.1]]), (6, .pointer (some ⟨s_.2.2.2.2, 0, none⟩)), (8, .tuple #[.agg #[s_.2.2.1], .agg #[s_.2.2.2.1]]), (14, .agg #[s_.2.2.1]), (15, .agg #[s_.2.2.2.1])]) (fun s_ w' => (w'.cell? ⟨gb501, 0, none⟩ = some (.slice A0_0 l0_0.length c0_0)) ∧ (Kd.R (Kd.int .u64) 24 w' w.heap.size (fun k_ => some k_ ≠ (s_.2.1 : Value).ownBlock ∧ some k_ ≠ (s_.2.2.1 : Value).ownBlock) s_.1 t503) ∧ (Kd.R (Kd.int .u64) 24 w' w.heap.size (fun k_ => some k_ ≠ (s_.1 : Value).ownBlock ∧ some k_ ≠ (s_.2.2.1 : Value).ownBlock) s_.2.1 t506) ∧ (Kd.R (Kd.int .u64) 24 w' w.heap.size (fun k_ => some k_ ≠ (s_.1 : Value).ownBlock ∧ some k_ ≠ (s_.2.1 : Value).ownBlock) s_.2.2.1 t509) ∧ (Kd.V (Kd.int .u64) 24 w' w.heap.size (fun k_ => some k_ ≠ (s_.1 : Value).ownBlock ∧ some k_ ≠ (s_.2.1 : Value).ownBlock ∧ some k_ ≠ (s_.2.2.1 : Value).ownBlock ∧ k_ ≠ gb501 ∧ k_ ≠ gb502 ∧ k_ ≠ s_.2.2.2.2) s_.2.2.2.1 t512) ∧ (w'.heap[gb501]? = some (.cells #[.slice A0_0 l0_0.length c0_0] 56 (0, 0))) ∧ (w'.heap[gb502]? = some (.cells #[.slice none 0 0] 56 (0, 0))) ∧ (w'.heap[s_.2.2.2.2]? = some (.cells #[.slice none 0 0] 56 (0, 0))) ∧ (w.heap.size ≤ s_.2.2.2.2) ∧ (w.heap.size ≤ s_.2.2.2.2) ∧ (gb501 ≠ s_.2.2.2.2) ∧ (s_.2.2.2.2 ≠ gb501) ∧ (gb502 ≠ s_.2.2.2.2) ∧ (s_.2.2.2.2 ≠ gb502) ∧ (Below w.heap.size w w')) ?_ ?_
  rotate_left
  ·intro hJ1_3_4_8
   refine join_ (σ := Value × Value × Value × Value × Nat) 3 #[true, true, true, true, true, true, true, true, false, true, false, false] (fun s_ => [(10, .agg #[s_.1]), (12, .agg #[s_.2.1]), (13, .tuple #[.agg #[s_.2.2.1], .agg #[s_.2.2.2.1]]), (7, .pointer (some ⟨s_.2.2.2.2, 0, none⟩)), (8, .tuple #[.agg #[s_.2.2.1], .agg #[s_.2.2.2.1]]), (14, .agg #[s_.2.2.1]), (15, .agg #[s_.2.2.2.1])]) (fun s_ w' => (w'.cell? ⟨gb501, 0, none⟩ = some (.slice A0_0 l0_0.length c0_0)) ∧ (Kd.R (Kd.int .u64) 24 w' w.heap.size (fun k_ => some k_ ≠ (s_.2.1 : Value).ownBlock ∧ some k_ ≠ (s_.2.2.1 : Value).ownBlock) s_.1 t503) ∧ (Kd.R (Kd.int .u64) 24 w' w.heap.size (fun k_ => some k_ ≠ (s_.1 : Value).ownBlock ∧ some k_ ≠ (s_.2.2.1 : Value).ownBlock) s_.2.1 t506) ∧ (Kd.R (Kd.int .u64) 24 w' w.heap.size (fun k_ => some k_ ≠ (s_.1 : Value).ownBlock ∧ some k_ ≠ (s_.2.1 : Value).ownBlock) s_.2.2.1 t509) ∧ (Kd.V (Kd.int .u64) 24 w' w.heap.size (fun k_ => some k_ ≠ (s_.1 : Value).ownBlock ∧ some k_ ≠ (s_.2.1 : Value).ownBlock ∧ some k_ ≠ (s_.2.2.1 : Value).ownBlock ∧ k_ ≠ gb501 ∧ k_ ≠ gb502 ∧ k_ ≠ s_.2.2.2.2) s_.2.2.2.1 t512) ∧ (w'.heap[gb501]? = some (.cells #[.slice A0_0 l0_0.length c0_0] 56 (0, 0))) ∧ (w'.heap[gb502]? = some (.cells #[.slice none 0 0] 56 (0, 0))) ∧ (w'.heap[s_.2.2.2.2]? = some (.cells #[.slice none 0 0] 56 (0, 0))) ∧ (w.heap.size ≤ s_.2.2.2.2) ∧ (w.heap.size ≤ s_.2.2.2.2) ∧ (gb501 ≠ s_.2.2.2.2) ∧ (s_.2.2.2.2 ≠ gb501) ∧ (gb502 ≠ s_.2.2.2.2) ∧ (s_.2.2.2.2 ≠ gb502) ∧ (Below w.heap.size w w')) ?_ ?_
   rotate_left
   ·intro hJ1_3_4_9
    refine join_ (σ := Value × Value × Nat × Nat) 6 #[true, true, true, true, false, false, false, false, true, true, false, false] (fun s_ => [(10, .agg #[s_.1]), (12, .agg #[s_.2.1]), (6, .pointer (some ⟨s_.2.2.1, 0, none⟩)), (7, .pointer (some ⟨s_.2.2.2, 0, none⟩))]) (fun s_ w' => (w'.cell? ⟨gb501, 0, none⟩ = some (.slice A0_0 l0_0.length c0_0)) ∧ (Kd.R (Kd.int .u64) 24 w' w.heap.size (fun k_ => some k_ ≠ (s_.2.1 : Value).ownBlock) s_.1 t503) ∧ (Kd.R (Kd.int .u64) 24 w' w.heap.size (fun k_ => some k_ ≠ (s_.1 : Value).ownBlock) s_.2.1 t506) ∧ (w'.heap[gb501]? = some (.cells #[.slice A0_0 l0_0.length c0_0] 56 (0, 0))) ∧ (w'.heap[gb502]? = some (.cells #[.slice none 0 0] 56 (0, 0))) ∧ (w'.heap[s_.2.2.1]? = some (.cells #[.slice none 0 0] 56 (0, 0))) ∧ (w'.heap[s_.2.2.2]? = some (.cells #[.slice none 0 0] 56 (0, 0))) ∧ (w.heap.size ≤ s_.2.2.1) ∧ (w.heap.size ≤ s_.2.2.1) ∧ (gb501 ≠ s_.2.2.1) ∧ (s_.2.2.1 ≠ gb501) ∧ (gb502 ≠ s_.2.2.1) ∧ (s_.2.2.1 ≠ gb502) ∧ (s_.2.2.2 ≠ s_.2.2.1) ∧ (s_.2.2.1 ≠ s_.2.2.2) ∧ (w.heap.size ≤ s_.2.2.2) ∧ (w.heap.size ≤ s_.2.2.2) ∧ (gb501 ≠ s_.2.2.2) ∧ (s_.2.2.2 ≠ gb501) ∧ (gb502 ≠ s_.2.2.2) ∧ (s_.2.2.2 ≠ gb502) ∧ (Below w.heap.size w w')) ?_ ?_
    rotate_left
    ·intro hJ1_3_8_9
     refine join_ (σ := Value × Value × Value × Value) 4 #[true, true, true, true, true, true, true, true, false, false, false, false] (fun s_ => [(10, .agg #[s_.1]), (12, .agg #[s_.2.1]), (13, .tuple #[.agg #[s_.2.2.1], .agg #[s_.2.2.2]]), (8, .tuple #[.agg #[s_.2.2.1], .agg #[s_.2.2.2]]), (14, .agg #[s_.2.2.1]), (15, .agg #[s_.2.2.2])]) (fun s_ w' => (w'.cell? ⟨gb501, 0, none⟩ = some (.slice A0_0 l0_0.length c0_0)) ∧ (Kd.R (Kd.int .u64) 24 w' w.heap.size (fun k_ => some k_ ≠ (s_.2.1 : Value).ownBlock ∧ some k_ ≠ (s_.2.2.1 : Value).ownBlock) s_.1 t503) ∧ (Kd.R (Kd.int .u64) 24 w' w.heap.size (fun k_ => some k_ ≠ (s_.1 : Value).ownBlock ∧ some k_ ≠ (s_.2.2.1 : Value).ownBlock) s_.2.1 t506) ∧ (Kd.R (Kd.int .u64) 24 w' w.heap.size (fun k_ => some k_ ≠ (s_.1 : Value).ownBlock ∧ some k_ ≠ (s_.2.1 : Value).ownBlock) s_.2.2.1 t509) ∧ (Kd.V (Kd.int .u64) 24 w' w.heap.size (fun k_ => some k_ ≠ (s_.1 : Value).ownBlock ∧ some k_ ≠ (s_.2.1 : Value).ownBlock ∧ some k_ ≠ (s_.2.2.1 : Value).ownBlock ∧ k_ ≠ gb501 ∧ k_ ≠ gb502) s_.2.2.2 t512) ∧ (w'.heap[gb501]? = some (.cells #[.slice A0_0 l0_0.length c0_0] 56 (0, 0))) ∧ (w'.heap[gb502]? = some (.cells #[.slice none 0 0] 56 (0, 0))) ∧ (Below w.heap.size w w')) ?_ ?_
     rotate_left
     ·intro hJ1_3_4
      refine join_ (σ := Value × Value × Nat) 7 #[true, true, true, true, false, false, false, false, true, false, false, false] (fun s_ => [(10, .agg #[s_.1]), (12, .agg #[s_.2.1]), (6, .pointer (some ⟨s_.2.2, 0, none⟩))]) (fun s_ w' => (w'.cell? ⟨gb501, 0, none⟩ = some (.slice A0_0 l0_0.length c0_0)) ∧ (Kd.R (Kd.int .u64) 24 w' w.heap.size (fun k_ => some k_ ≠ (s_.2.1 : Value).ownBlock) s_.1 t503) ∧ (Kd.R (Kd.int .u64) 24 w' w.heap.size (fun k_ => some k_ ≠ (s_.1 : Value).ownBlock) s_.2.1 t506) ∧ (w'.heap[gb501]? = some (.cells #[.slice A0_0 l0_0.length c0_0] 56 (0, 0))) ∧ (w'.heap[gb502]? = some (.cells #[.slice none 0 0] 56 (0, 0))) ∧ (w'.heap[s_.2.2]? = some (.cells #[.slice none 0 0] 56 (0, 0))) ∧ (w.heap.size ≤ s_.2.2) ∧ (w.heap.size ≤ s_.2.2) ∧ (gb501 ≠ s_.2.2) ∧ (s_.2.2 ≠ gb501) ∧ (gb502 ≠ s_.2.2) ∧ (s_.2.2 ≠ gb502) ∧ (Below w.heap.size w w')) ?_ ?_
      rotate_left
      ·intro hJ1_3_8
       refine join_ (σ := Value × Value × Nat) 7 #[true, true, true, true, false, false, false, false, false, true, false, false] (fun s_ => [(10, .agg #[s_.1]), (12, .agg #[s_.2.1]), (7, .pointer (some ⟨s_.2.2, 0, none⟩))]) (fun s_ w' => (w'.cell? ⟨gb501, 0, none⟩ = some (.slice A0_0 l0_0.length c0_0)) ∧ (Kd.R (Kd.int .u64) 24 w' w.heap.size (fun k_ => some k_ ≠ (s_.2.1 : Value).ownBlock) s_.1 t503) ∧ (Kd.R (Kd.int .u64) 24 w' w.heap.size (fun k_ => some k_ ≠ (s_.1 : Value).ownBlock) s_.2.1 t506) ∧ (w'.heap[gb501]? = some (.cells #[.slice A0_0 l0_0.length c0_0] 56 (0, 0))) ∧ (w'.heap[gb502]? = some (.cells #[.slice none 0 0] 56 (0, 0))) ∧ (w'.heap[s_.2.2]? = some (.cells #[.slice none 0 0] 56 (0, 0))) ∧ (w.heap.size ≤ s_.2.2) ∧ (w.heap.size ≤ s_.2.2) ∧ (gb501 ≠ s_.2.2) ∧ (s_.2.2 ≠ gb501) ∧ (gb502 ≠ s_.2.2) ∧ (s_.2.2 ≠ gb502) ∧ (Below w.heap.size w w')) ?_ ?_
       rotate_left
       ·intro hJ1_3_9
        refine join_ (σ := Value × Nat × Nat) 7 #[true, true, true, false, false, false, false, false, true, true, false, false] (fun s_ => [(10, .agg #[s_.1]), (6, .pointer (some ⟨s_.2.1, 0, none⟩)), (7, .pointer (some ⟨s_.2.2, 0, none⟩))]) (fun s_ w' => (w'.cell? ⟨gb501, 0, none⟩ = some (.slice A0_0 l0_0.length c0_0)) ∧ (Kd.R (Kd.int .u64) 24 w' w.heap.size (fun _ => True) s_.1 t503) ∧ (w'.heap[gb501]? = some (.cells #[.slice A0_0 l0_0.length c0_0] 56 (0, 0))) ∧ (w'.heap[gb502]? = some (.cells #[.slice none 0 0] 56 (0, 0))) ∧ (w'.heap[s_.2.1]? = some (.cells #[.slice none 0 0] 56 (0, 0))) ∧ (w'.heap[s_.2.2]? = some (.cells #[.slice none 0 0] 56 (0, 0))) ∧ (w.heap.size ≤ s_.2.1) ∧ (w.heap.size ≤ s_.2.1) ∧ (gb501 ≠ s_.2.1) ∧ (s_.2.1 ≠ gb501) ∧ (gb502 ≠ s_.2.1) ∧ (s_.2.1 ≠ gb502) ∧ (s_.2.2 ≠ s_.2.1) ∧ (s_.2.1 ≠ s_.2.2) ∧ (w.heap.size ≤ s_.2.2) ∧ (w.heap.size ≤ s_.2.2) ∧ (gb501 ≠ s_.2.2) ∧ (s_.2.2 ≠ gb501) ∧ (gb502 ≠ s_.2.2) ∧ (s_.2.2 ≠ gb502) ∧ (Below w.heap.size w w')) ?_ ?_
        rotate_left
        ·intro hJ1_8_9
         refine join_ (σ := Value × Value) 8 #[true, true, true, true, false, false, false, false, false, false, false, false] (fun s_ => [(10, .agg #[s_.1]), (12, .agg #[s_.2])]) (fun s_ w' => (w'.cell? ⟨gb501, 0, none⟩ = some (.slice A0_0 l0_0.length c0_0)) ∧ (Kd.R (Kd.int .u64) 24 w' w.heap.size (fun k_ => some k_ ≠ (s_.2 : Value).ownBlock) s_.1 t503) ∧ (Kd.R (Kd.int .u64) 24 w' w.heap.size (fun k_ => some k_ ≠ (s_.1 : Value).ownBlock) s_.2 t506) ∧ (w'.heap[gb501]? = some (.cells #[.slice A0_0 l0_0.length c0_0] 56 (0, 0))) ∧ (w'.heap[gb502]? = some (.cells #[.slice none 0 0] 56 (0, 0))) ∧ (Below w.heap.size w w')) ?_ ?_
         rotate_left
         ·intro hJ1_3
          refine join_ (σ := Value × Nat) 8 #[true, true, true, false, false, false, false, false, true, false, false, false] (fun s_ => [(10, .agg #[s_.1]), (6, .pointer (some ⟨s_.2, 0, none⟩))]) (fun s_ w' => (w'.cell? ⟨gb501, 0, none⟩ = some (.slice A0_0 l0_0.length c0_0)) ∧ (Kd.R (Kd.int .u64) 24 w' w.heap.size (fun _ => True) s_.1 t503) ∧ (w'.heap[gb501]? = some (.cells #[.slice A0_0 l0_0.length c0_0] 56 (0, 0))) ∧ (w'.heap[gb502]? = some (.cells #[.slice none 0 0] 56 (0, 0))) ∧ (w'.heap[s_.2]? = some (.cells #[.slice none 0 0] 56 (0, 0))) ∧ (w.heap.size ≤ s_.2) ∧ (w.heap.size ≤ s_.2) ∧ (gb501 ≠ s_.2) ∧ (s_.2 ≠ gb501) ∧ (gb502 ≠ s_.2) ∧ (s_.2 ≠ gb502) ∧ (Below w.heap.size w w')) ?_ ?_
          rotate_left
          ·intro hJ1_8
           refine join_ (σ := Value × Nat) 8 #[true, true, true, false, false, false, false, false, false, true, false, false] (fun s_ => [(10, .agg #[s_.1]), (7, .pointer (some ⟨s_.2, 0, none⟩))]) (fun s_ w' => (w'.cell? ⟨gb501, 0, none⟩ = some (.slice A0_0 l0_0.length c0_0)) ∧ (Kd.R (Kd.int .u64) 24 w' w.heap.size (fun _ => True) s_.1 t503) ∧ (w'.heap[gb501]? = some (.cells #[.slice A0_0 l0_0.length c0_0] 56 (0, 0))) ∧ (w'.heap[gb502]? = some (.cells #[.slice none 0 0] 56 (0, 0))) ∧ (w'.heap[s_.2]? = some (.cells #[.slice none 0 0] 56 (0, 0))) ∧ (w.heap.size ≤ s_.2) ∧ (w.heap.size ≤ s_.2) ∧ (gb501 ≠ s_.2) ∧ (s_.2 ≠ gb501) ∧ (gb502 ≠ s_.2) ∧ (s_.2 ≠ gb502) ∧ (Below w.heap.size w w')) ?_ ?_
           rotate_left
           ·intro hJ1_9
            refine join_ (σ := Nat × Nat) 8 #[true, false, true, false, false, false, false, false, true, true, false, false] (fun s_ => [(6, .pointer (some ⟨s_.1, 0, none⟩)), (7, .pointer (some ⟨s_.2, 0, none⟩))]) (fun s_ w' => (w'.cell? ⟨gb501, 0, none⟩ = some (.slice A0_0 l0_0.length c0_0)) ∧ (w'.heap[gb501]? = some (.cells #[.slice A0_0 l0_0.length c0_0] 56 (0, 0))) ∧ (w'.heap[gb502]? = some (.cells #[.slice none 0 0] 56 (0, 0))) ∧ (w'.heap[s_.1]? = some (.cells #[.slice none 0 0] 56 (0, 0))) ∧ (w'.heap[s_.2]? = some (.cells #[.slice none 0 0] 56 (0, 0))) ∧ (w.heap.size ≤ s_.1) ∧ (w.heap.size ≤ s_.1) ∧ (gb501 ≠ s_.1) ∧ (s_.1 ≠ gb501) ∧ (gb502 ≠ s_.1) ∧ (s_.1 ≠ gb502) ∧ (s_.2 ≠ s_.1) ∧ (s_.1 ≠ s_.2) ∧ (w.heap.size ≤ s_.2) ∧ (w.heap.size ≤ s_.2) ∧ (gb501 ≠ s_.2) ∧ (s_.2 ≠ gb501) ∧ (gb502 ≠ s_.2) ∧ (s_.2 ≠ gb502) ∧ (Below w.heap.size w w')) ?_ ?_
            rotate_left
            ·intro hJ8_9
             refine join_ (σ := Value) 9 #[true, true, true, false, false, false, false, false, false, false, false, false] (fun s_ => [(10, .agg #[s_])]) (fun s_ w' => (w'.cell? ⟨gb501, 0, none⟩ = some (.slice A0_0 l0_0.length c0_0)) ∧ (Kd.R (Kd.int .u64) 24 w' w.heap.size (fun _ => True) s_ t503) ∧ (w'.heap[gb501]? = some (.cells #[.slice A0_0 l0_0.length c0_0] 56 (0, 0))) ∧ (w'.heap[gb502]? = some (.cells #[.slice none 0 0] 56 (0, 0))) ∧ (Below w.heap.size w w')) ?_ ?_
             rotate_left
             ·intro hJ1
              refine join_ (σ := Nat) 9 #[true, false, true, false, false, false, false, false, true, false, false, false] (fun s_ => [(6, .pointer (some ⟨s_, 0, none⟩))]) (fun s_ w' => (w'.cell? ⟨gb501, 0, none⟩ = some (.slice A0_0 l0_0.length c0_0)) ∧ (w'.heap[gb501]? = some (.cells #[.slice A0_0 l0_0.length c0_0] 56 (0, 0))) ∧ (w'.heap[gb502]? = some (.cells #[.slice none 0 0] 56 (0, 0))) ∧ (w'.heap[s_]? = some (.cells #[.slice none 0 0] 56 (0, 0))) ∧ (w.heap.size ≤ s_) ∧ (w.heap.size ≤ s_) ∧ (gb501 ≠ s_) ∧ (s_ ≠ gb501) ∧ (gb502 ≠ s_) ∧ (s_ ≠ gb502) ∧ (Below w.heap.size w w')) ?_ ?_
              rotate_left
              ·intro hJ8
               refine join_ (σ := Nat) 9 #[true, false, true, false, false, false, false, false, false, true, false, false] (fun s_ => [(7, .pointer (some ⟨s_, 0, none⟩))]) (fun s_ w' => (w'.cell? ⟨gb501, 0, none⟩ = some (.slice A0_0 l0_0.length c0_0)) ∧ (w'.heap[gb501]? = some (.cells #[.slice A0_0 l0_0.length c0_0] 56 (0, 0))) ∧ (w'.heap[gb502]? = some (.cells #[.slice none 0 0] 56 (0, 0))) ∧ (w'.heap[s_]? = some (.cells #[.slice none 0 0] 56 (0, 0))) ∧ (w.heap.size ≤ s_) ∧ (w.heap.size ≤ s_) ∧ (gb501 ≠ s_) ∧ (s_ ≠ gb501) ∧ (gb502 ≠ s_) ∧ (s_ ≠ gb502) ∧ (Below w.heap.size w w')) ?_ ?_
               rotate_left
               ·intro hJ9
                refine three_ (i := 1) (j := 8) (k := 9) (Ni := some 10) (Nj := some 6) (Nk := some 7) #[true, true, true, false, false, false, false, false, false, false, false, false] #[true, false, true, false, false, false, false, false, true, false, false, false] #[true, false, true, false, false, false, false, false, false, true, false, false] rfl rfl rfl rfl rfl rfl (three_of HT_.out (by kernel_rfl)) (by decide) (by decide) (by decide) (fun K hK => ?_) (fun K hK => ?_) (fun K hK => ?_)
                ·skip
                 refine goes_ Try.func46 (by kernel_rfl) rfl #[.int .u64 1] (by rfl) rfl rfl mp_ ?_
                 with_reducible refine (trunnionref01_Of.calls k 1 t503 _ A3.out).mono ?_
                 rintro e w9 ⟨v504, rfl, ho0, hb⟩
                 refine ⟨_, rfl, ?_⟩
                 have n0_ := A_ (Kd.R_lower ho0 (below_size (hb2_ HB.out GE501.out GE502.out)))
                 have n1_ := A_ (blk_below (g := gb501) (o := .cells #[.slice A0_0 l0_0.length c0_0] 56 (0, 0)) (bk_ BK501.out) hb)
                 have n2_ := A_ (blk_below (g := gb502) (o := .cells #[.slice none 0 0] 56 (0, 0)) (bk_ BK502.out) hb)
                 have n3_ := A_ (below_step (hb2_ HB.out GE501.out GE502.out) hb)
                 clear BK501;clear BK502;clear HB;have HO505 := n0_;have BK501 := n1_;have BK502 := n2_;have HB := n3_;clear n0_ n1_ n2_ n3_;(try clear hb);(try clear hb2);(try clear hk);(try clear hi);(try clear ho0)
                 refine hK.out _ _ ((blk_cell BK501.out 0).trans rfl) (fun hHeld => ?_)
                 clear hK K
                 refine norm_ (a' := ?_) ?_ ?_
                 rotate_left
                 ·show Act.put _ (some 10) _ = _
                  simp only [Act.put, sI, s0, sS, i64_w, i32_w]
                  rfl
                 exact norm_ pa_ (hJ1 (_) _ ⟨hHeld, (kr_ HO505.out), (bk_ BK501.out), (bk_ BK502.out), (hb2_ HB.out GE501.out GE502.out)⟩)
                ·skip
                 refine box_step ?hg (N := 6) ?hd (cs := #[.slice none 0 0]) (t := 56) ?hr ?_; (case hd => rfl); (case hg => rfl); (case hr => first | (go_simp; done) | (go_simp; rfl))
                 intro gb515 hg w9 hbox hb
                 have n0_ := A_ (blk_below (g := gb501) (o := .cells #[.slice A0_0 l0_0.length c0_0] 56 (0, 0)) (bk_ BK501.out) hb)
                 have n1_ := A_ (blk_below (g := gb502) (o := .cells #[.slice none 0 0] 56 (0, 0)) (bk_ BK502.out) hb)
                 have n2_ := A_ (below_step (hb2_ HB.out GE501.out GE502.out) hb)
                 have n3_ := A_ (hbox)
                 have n4_ := A_ ((by rw [hg]; exact (below_size (hb2_ HB.out GE501.out GE502.out)) : w.heap.size ≤ gb515))
                 have n5_ := A_ ((by rw [hg]; exact (below_size (hb2_ HB.out GE501.out GE502.out)) : w.heap.size ≤ gb515))
                 have n6_ := A_ ((by rw [hg]; exact Nat.ne_of_lt (blk_lt (g := gb501) (o := .cells #[.slice A0_0 l0_0.length c0_0] 56 (0, 0)) (bk_ BK501.out)) : gb501 ≠ gb515))
                 have n7_ := A_ ((by rw [hg]; exact Nat.ne_of_gt (blk_lt (g := gb501) (o := .cells #[.slice A0_0 l0_0.length c0_0] 56 (0, 0)) (bk_ BK501.out)) : gb515 ≠ gb501))
                 have n8_ := A_ ((by rw [hg]; exact Nat.ne_of_lt (blk_lt (g := gb502) (o := .cells #[.slice none 0 0] 56 (0, 0)) (bk_ BK502.out)) : gb502 ≠ gb515))
                 have n9_ := A_ ((by rw [hg]; exact Nat.ne_of_gt (blk_lt (g := gb502) (o := .cells #[.slice none 0 0] 56 (0, 0)) (bk_ BK502.out)) : gb515 ≠ gb502))
                 clear BK501;clear BK502;clear HB;have BK501 := n0_;have BK502 := n1_;have HB := n2_;have BK515 := n3_;have GW515 := n4_;have GE515 := n5_;have NB501_515 := n6_;have NB515_501 := n7_;have NB502_515 := n8_;have NB515_502 := n9_;clear n0_ n1_ n2_ n3_ n4_ n5_ n6_ n7_ n8_ n9_;clear hb hbox hg
                 refine hK.out _ _ ((blk_cell BK501.out 0).trans rfl) (fun hHeld => ?_)
                 clear hK K
                 refine norm_ (a' := ?_) ?_ ?_
                 rotate_left
                 ·show Act.put _ (some 6) _ = _
                  simp only [Act.put, sI, s0, sS, i64_w, i32_w]
                  rfl
                 exact norm_ pa_ (hJ8 (gb515) _ ⟨hHeld, (bk_ BK501.out), (bk_ BK502.out), (bk_ BK515.out), GW515.out, GE515.out, NB501_515.out, NB515_501.out, NB502_515.out, NB515_502.out, (hb3_ HB.out GE501.out GE502.out GE515.out)⟩)
                ·skip
                 refine box_step ?hg (N := 7) ?hd (cs := #[.slice none 0 0]) (t := 56) ?hr ?_; (case hd => rfl); (case hg => rfl); (case hr => first | (go_simp; done) | (go_simp; rfl))
                 intro gb516 hg w9 hbox hb
                 have n0_ := A_ (blk_below (g := gb501) (o := .cells #[.slice A0_0 l0_0.length c0_0] 56 (0, 0)) (bk_ BK501.out) hb)
                 have n1_ := A_ (blk_below (g := gb502) (o := .cells #[.slice none 0 0] 56 (0, 0)) (bk_ BK502.out) hb)
                 have n2_ := A_ (below_step (hb2_ HB.out GE501.out GE502.out) hb)
                 have n3_ := A_ (hbox)
                 have n4_ := A_ ((by rw [hg]; exact (below_size (hb2_ HB.out GE501.out GE502.out)) : w.heap.size ≤ gb516))
                 have n5_ := A_ ((by rw [hg]; exact (below_size (hb2_ HB.out GE501.out GE502.out)) : w.heap.size ≤ gb516))
                 have n6_ := A_ ((by rw [hg]; exact Nat.ne_of_lt (blk_lt (g := gb501) (o := .cells #[.slice A0_0 l0_0.length c0_0] 56 (0, 0)) (bk_ BK501.out)) : gb501 ≠ gb516))
                 have n7_ := A_ ((by rw [hg]; exact Nat.ne_of_gt (blk_lt (g := gb501) (o := .cells #[.slice A0_0 l0_0.length c0_0] 56 (0, 0)) (bk_ BK501.out)) : gb516 ≠ gb501))
                 have n8_ := A_ ((by rw [hg]; exact Nat.ne_of_lt (blk_lt (g := gb502) (o := .cells #[.slice none 0 0] 56 (0, 0)) (bk_ BK502.out)) : gb502 ≠ gb516))
                 have n9_ := A_ ((by rw [hg]; exact Nat.ne_of_gt (blk_lt (g := gb502) (o := .cells #[.slice none 0 0] 56 (0, 0)) (bk_ BK502.out)) : gb516 ≠ gb502))
                 clear BK501;clear BK502;clear HB;have BK501 := n0_;have BK502 := n1_;have HB := n2_;have BK516 := n3_;have GW516 := n4_;have GE516 := n5_;have NB501_516 := n6_;have NB516_501 := n7_;have NB502_516 := n8_;have NB516_502 := n9_;clear n0_ n1_ n2_ n3_ n4_ n5_ n6_ n7_ n8_ n9_;clear hb hbox hg
                 refine hK.out _ _ ((blk_cell BK501.out 0).trans rfl) (fun hHeld => ?_)
                 clear hK K
                 refine norm_ (a' := ?_) ?_ ?_
                 rotate_left
                 ·show Act.put _ (some 7) _ = _
                  simp only [Act.put, sI, s0, sS, i64_w, i32_w]
                  rfl
                 exact norm_ pa_ (hJ9 (gb516) _ ⟨hHeld, (bk_ BK501.out), (bk_ BK502.out), (bk_ BK516.out), GW516.out, GE516.out, NB501_516.out, NB516_501.out, NB502_516.out, NB516_502.out, (hb3_ HB.out GE501.out GE502.out GE516.out)⟩)
               ·skip
                rintro gb516 w10 ⟨hS_, h0_, h1_, h2_, h3_, h4_, h5_, h6_, h7_, h8_, h9_⟩
                have n0_ : Aside0 (w10.heap[gb501]? = some (.cells #[.slice A0_0 l0_0.length c0_0] 56 (0, 0))) := ⟨h0_⟩
                have n1_ : Aside0 (w10.heap[gb502]? = some (.cells #[.slice none 0 0] 56 (0, 0))) := ⟨h1_⟩
                have n2_ : Aside0 (w10.heap[gb516]? = some (.cells #[.slice none 0 0] 56 (0, 0))) := ⟨h2_⟩
                have n3_ : Aside0 (w.heap.size ≤ gb516) := ⟨h3_⟩
                have n4_ : Aside0 (w.heap.size ≤ gb516) := ⟨h4_⟩
                have n5_ : Aside0 (gb501 ≠ gb516) := ⟨h5_⟩
                have n6_ : Aside0 (gb516 ≠ gb501) := ⟨h6_⟩
                have n7_ : Aside0 (gb502 ≠ gb516) := ⟨h7_⟩
                have n8_ : Aside0 (gb516 ≠ gb502) := ⟨h8_⟩
                have n9_ : Aside0 (Below w.heap.size w w10) := ⟨h9_⟩
                clear BK501;clear BK502;clear HB;clear h0_ h1_ h2_ h3_ h4_ h5_ h6_ h7_ h8_ h9_;have BK501 := n0_;have BK502 := n1_;have BK516 := n2_;have GW516 := n3_;have GE516 := n4_;have NB501_516 := n5_;have NB516_501 := n6_;have NB502_516 := n7_;have NB516_502 := n8_;have HB := n9_;clear n0_ n1_ n2_ n3_ n4_ n5_ n6_ n7_ n8_ n9_
                have hHeld : w10.cell? ⟨gb501, 0, none⟩ = some (.slice A0_0 l0_0.length c0_0) := hS_
                refine norm_ (a' := ?_) ?_ ?_
                rotate_left
                ·simp only [putAll, Act.put, sI, s0, sS]
                 rfl
                refine two_ (i := 1) (j := 8) (Ni := some 10) (Nj := some 6) #[true, true, true, false, false, false, false, false, false, true, false, false] #[true, false, true, false, false, false, false, false, true, true, false, false] rfl rfl rfl rfl (two_of HT_.out (by kernel_rfl)) (by decide) (by decide) (fun K hK => ?_) (fun K hK => ?_)
                ·skip
                 refine goes_ Try.func46 (by kernel_rfl) rfl #[.int .u64 1] (by rfl) rfl rfl mp_ ?_
                 with_reducible refine (trunnionref01_Of.calls k 1 t503 _ A3.out).mono ?_
                 rintro e w11 ⟨v504, rfl, ho0, hb⟩
                 refine ⟨_, rfl, ?_⟩
                 have n0_ := A_ (Kd.R_lower ho0 (below_size (hb3_ HB.out GE501.out GE502.out GE516.out)))
                 have n1_ := A_ (blk_below (g := gb501) (o := .cells #[.slice A0_0 l0_0.length c0_0] 56 (0, 0)) (bk_ BK501.out) hb)
                 have n2_ := A_ (blk_below (g := gb502) (o := .cells #[.slice none 0 0] 56 (0, 0)) (bk_ BK502.out) hb)
                 have n3_ := A_ (blk_below (g := gb516) (o := .cells #[.slice none 0 0] 56 (0, 0)) (bk_ BK516.out) hb)
                 have n4_ := A_ (below_step (hb3_ HB.out GE501.out GE502.out GE516.out) hb)
                 clear BK501;clear BK502;clear BK516;clear HB;have HO505 := n0_;have BK501 := n1_;have BK502 := n2_;have BK516 := n3_;have HB := n4_;clear n0_ n1_ n2_ n3_ n4_;(try clear hb);(try clear hb2);(try clear hk);(try clear hi);(try clear ho0)
                 refine hK.out _ _ ((blk_cell BK501.out 0).trans rfl) (fun hHeld => ?_)
                 clear hK K
                 refine norm_ (a' := ?_) ?_ ?_
                 rotate_left
                 ·show Act.put _ (some 10) _ = _
                  simp only [Act.put, sI, s0, sS, i64_w, i32_w]
                  rfl
                 exact norm_ pa_ (hJ1_9 (_, gb516) _ ⟨hHeld, (kr_ HO505.out), (bk_ BK501.out), (bk_ BK502.out), (bk_ BK516.out), GW516.out, GE516.out, NB501_516.out, NB516_501.out, NB502_516.out, NB516_502.out, (hb3_ HB.out GE501.out GE502.out GE516.out)⟩)
                ·skip
                 refine box_step ?hg (N := 6) ?hd (cs := #[.slice none 0 0]) (t := 56) ?hr ?_; (case hd => rfl); (case hg => rfl); (case hr => first | (go_simp; done) | (go_simp; rfl))
                 intro gb515 hg w11 hbox hb
                 have n0_ := A_ (blk_below (g := gb501) (o := .cells #[.slice A0_0 l0_0.length c0_0] 56 (0, 0)) (bk_ BK501.out) hb)
                 have n1_ := A_ (blk_below (g := gb502) (o := .cells #[.slice none 0 0] 56 (0, 0)) (bk_ BK502.out) hb)
                 have n2_ := A_ (blk_below (g := gb516) (o := .cells #[.slice none 0 0] 56 (0, 0)) (bk_ BK516.out) hb)
                 have n3_ := A_ (below_step (hb3_ HB.out GE501.out GE502.out GE516.out) hb)
                 have n4_ := A_ (hbox)
                 have n5_ := A_ ((by rw [hg]; exact (below_size (hb3_ HB.out GE501.out GE502.out GE516.out)) : w.heap.size ≤ gb515))
                 have n6_ := A_ ((by rw [hg]; exact (below_size (hb3_ HB.out GE501.out GE502.out GE516.out)) : w.heap.size ≤ gb515))
                 have n7_ := A_ ((by rw [hg]; exact Nat.ne_of_lt (blk_lt (g := gb501) (o := .cells #[.slice A0_0 l0_0.length c0_0] 56 (0, 0)) (bk_ BK501.out)) : gb501 ≠ gb515))
                 have n8_ := A_ ((by rw [hg]; exact Nat.ne_of_gt (blk_lt (g := gb501) (o := .cells #[.slice A0_0 l0_0.length c0_0] 56 (0, 0)) (bk_ BK501.out)) : gb515 ≠ gb501))
                 have n9_ := A_ ((by rw [hg]; exact Nat.ne_of_lt (blk_lt (g := gb502) (o := .cells #[.slice none 0 0] 56 (0, 0)) (bk_ BK502.out)) : gb502 ≠ gb515))
                 have n10_ := A_ ((by rw [hg]; exact Nat.ne_of_gt (blk_lt (g := gb502) (o := .cells #[.slice none 0 0] 56 (0, 0)) (bk_ BK502.out)) : gb515 ≠ gb502))
                 have n11_ := A_ ((by rw [hg]; exact Nat.ne_of_lt (blk_lt (g := gb516) (o := .cells #[.slice none 0 0] 56 (0, 0)) (bk_ BK516.out)) : gb516 ≠ gb515))
                 have n12_ := A_ ((by rw [hg]; exact Nat.ne_of_gt (blk_lt (g := gb516) (o := .cells #[.slice none 0 0] 56 (0, 0)) (bk_ BK516.out)) : gb515 ≠ gb516))
                 clear BK501;clear BK502;clear BK516;clear HB;have BK501 := n0_;have BK502 := n1_;have BK516 := n2_;have HB := n3_;have BK515 := n4_;have GW515 := n5_;have GE515 := n6_;have NB501_515 := n7_;have NB515_501 := n8_;have NB502_515 := n9_;have NB515_502 := n10_;have NB516_515 := n11_;have NB515_516 := n12_;clear n0_ n1_ n2_ n3_ n4_ n5_ n6_ n7_ n8_ n9_ n10_ n11_ n12_;clear hb hbox hg
                 refine hK.out _ _ ((blk_cell BK501.out 0).trans rfl) (fun hHeld => ?_)
                 clear hK K
                 refine norm_ (a' := ?_) ?_ ?_
                 rotate_left
                 ·show Act.put _ (some 6) _ = _
                  simp only [Act.put, sI, s0, sS, i64_w, i32_w]
                  rfl
                 exact norm_ pa_ (hJ8_9 (gb515, gb516) _ ⟨hHeld, (bk_ BK501.out), (bk_ BK502.out), (bk_ BK515.out), (bk_ BK516.out), GW515.out, GE515.out, NB501_515.out, NB515_501.out, NB502_515.out, NB515_502.out, NB516_515.out, NB515_516.out, GW516.out, GE516.out, NB501_516.out, NB516_501.out, NB502_516.out, NB516_502.out, (hb4_ HB.out GE501.out GE502.out GE516.out GE515.out)⟩)
              ·skip
               rintro gb515 w10 ⟨hS_, h0_, h1_, h2_, h3_, h4_, h5_, h6_, h7_, h8_, h9_⟩
               have n0_ : Aside0 (w10.heap[gb501]? = some (.cells #[.slice A0_0 l0_0.length c0_0] 56 (0, 0))) := ⟨h0_⟩
               have n1_ : Aside0 (w10.heap[gb502]? = some (.cells #[.slice none 0 0] 56 (0, 0))) := ⟨h1_⟩
               have n2_ : Aside0 (w10.heap[gb515]? = some (.cells #[.slice none 0 0] 56 (0, 0))) := ⟨h2_⟩
               have n3_ : Aside0 (w.heap.size ≤ gb515) := ⟨h3_⟩
               have n4_ : Aside0 (w.heap.size ≤ gb515) := ⟨h4_⟩
               have n5_ : Aside0 (gb501 ≠ gb515) := ⟨h5_⟩
               have n6_ : Aside0 (gb515 ≠ gb501) := ⟨h6_⟩
               have n7_ : Aside0 (gb502 ≠ gb515) := ⟨h7_⟩
               have n8_ : Aside0 (gb515 ≠ gb502) := ⟨h8_⟩
               have n9_ : Aside0 (Below w.heap.size w w10) := ⟨h9_⟩
               clear BK501;clear BK502;clear HB;clear h0_ h1_ h2_ h3_ h4_ h5_ h6_ h7_ h8_ h9_;have BK501 := n0_;have BK502 := n1_;have BK515 := n2_;have GW515 := n3_;have GE515 := n4_;have NB501_515 := n5_;have NB515_501 := n6_;have NB502_515 := n7_;have NB515_502 := n8_;have HB := n9_;clear n0_ n1_ n2_ n3_ n4_ n5_ n6_ n7_ n8_ n9_
               have hHeld : w10.cell? ⟨gb501, 0, none⟩ = some (.slice A0_0 l0_0.length c0_0) := hS_
               refine norm_ (a' := ?_) ?_ ?_
               rotate_left
               ·simp only [putAll, Act.put, sI, s0, sS]
                rfl
               refine two_ (i := 1) (j := 9) (Ni := some 10) (Nj := some 7) #[true, true, true, false, false, false, false, false, true, false, false, false] #[true, false, true, false, false, false, false, false, true, true, false, false] rfl rfl rfl rfl (two_of HT_.out (by kernel_rfl)) (by decide) (by decide) (fun K hK => ?_) (fun K hK => ?_)
               ·skip
                refine goes_ Try.func46 (by kernel_rfl) rfl #[.int .u64 1] (by rfl) rfl rfl mp_ ?_
                with_reducible refine (trunnionref01_Of.calls k 1 t503 _ A3.out).mono ?_
                rintro e w11 ⟨v504, rfl, ho0, hb⟩
                refine ⟨_, rfl, ?_⟩
                have n0_ := A_ (Kd.R_lower ho0 (below_size (hb3_ HB.out GE501.out GE502.out GE515.out)))
                have n1_ := A_ (blk_below (g := gb501) (o := .cells #[.slice A0_0 l0_0.length c0_0] 56 (0, 0)) (bk_ BK501.out) hb)
                have n2_ := A_ (blk_below (g := gb502) (o := .cells #[.slice none 0 0] 56 (0, 0)) (bk_ BK502.out) hb)
                have n3_ := A_ (blk_below (g := gb515) (o := .cells #[.slice none 0 0] 56 (0, 0)) (bk_ BK515.out) hb)
                have n4_ := A_ (below_step (hb3_ HB.out GE501.out GE502.out GE515.out) hb)
                clear BK501;clear BK502;clear BK515;clear HB;have HO505 := n0_;have BK501 := n1_;have BK502 := n2_;have BK515 := n3_;have HB := n4_;clear n0_ n1_ n2_ n3_ n4_;(try clear hb);(try clear hb2);(try clear hk);(try clear hi);(try clear ho0)
                refine hK.out _ _ ((blk_cell BK501.out 0).trans rfl) (fun hHeld => ?_)
                clear hK K
                refine norm_ (a' := ?_) ?_ ?_
                rotate_left
                ·show Act.put _ (some 10) _ = _
                 simp only [Act.put, sI, s0, sS, i64_w, i32_w]
                 rfl
                exact norm_ pa_ (hJ1_8 (_, gb515) _ ⟨hHeld, (kr_ HO505.out), (bk_ BK501.out), (bk_ BK502.out), (bk_ BK515.out), GW515.out, GE515.out, NB501_515.out, NB515_501.out, NB502_515.out, NB515_502.out, (hb3_ HB.out GE501.out GE502.out GE515.out)⟩)
               ·skip
                refine box_step ?hg (N := 7) ?hd (cs := #[.slice none 0 0]) (t := 56) ?hr ?_; (case hd => rfl); (case hg => rfl); (case hr => first | (go_simp; done) | (go_simp; rfl))
                intro gb516 hg w11 hbox hb
                have n0_ := A_ (blk_below (g := gb501) (o := .cells #[.slice A0_0 l0_0.length c0_0] 56 (0, 0)) (bk_ BK501.out) hb)
                have n1_ := A_ (blk_below (g := gb502) (o := .cells #[.slice none 0 0] 56 (0, 0)) (bk_ BK502.out) hb)
                have n2_ := A_ (blk_below (g := gb515) (o := .cells #[.slice none 0 0] 56 (0, 0)) (bk_ BK515.out) hb)
                have n3_ := A_ (below_step (hb3_ HB.out GE501.out GE502.out GE515.out) hb)
                have n4_ := A_ (hbox)
                have n5_ := A_ ((by rw [hg]; exact (below_size (hb3_ HB.out GE501.out GE502.out GE515.out)) : w.heap.size ≤ gb516))
                have n6_ := A_ ((by rw [hg]; exact (below_size (hb3_ HB.out GE501.out GE502.out GE515.out)) : w.heap.size ≤ gb516))
                have n7_ := A_ ((by rw [hg]; exact Nat.ne_of_lt (blk_lt (g := gb501) (o := .cells #[.slice A0_0 l0_0.length c0_0] 56 (0, 0)) (bk_ BK501.out)) : gb501 ≠ gb516))
                have n8_ := A_ ((by rw [hg]; exact Nat.ne_of_gt (blk_lt (g := gb501) (o := .cells #[.slice A0_0 l0_0.length c0_0] 56 (0, 0)) (bk_ BK501.out)) : gb516 ≠ gb501))
                have n9_ := A_ ((by rw [hg]; exact Nat.ne_of_lt (blk_lt (g := gb502) (o := .cells #[.slice none 0 0] 56 (0, 0)) (bk_ BK502.out)) : gb502 ≠ gb516))
                have n10_ := A_ ((by rw [hg]; exact Nat.ne_of_gt (blk_lt (g := gb502) (o := .cells #[.slice none 0 0] 56 (0, 0)) (bk_ BK502.out)) : gb516 ≠ gb502))
                have n11_ := A_ ((by rw [hg]; exact Nat.ne_of_lt (blk_lt (g := gb515) (o := .cells #[.slice none 0 0] 56 (0, 0)) (bk_ BK515.out)) : gb515 ≠ gb516))
                have n12_ := A_ ((by rw [hg]; exact Nat.ne_of_gt (blk_lt (g := gb515) (o := .cells #[.slice none 0 0] 56 (0, 0)) (bk_ BK515.out)) : gb516 ≠ gb515))
                clear BK501;clear BK502;clear BK515;clear HB;have BK501 := n0_;have BK502 := n1_;have BK515 := n2_;have HB := n3_;have BK516 := n4_;have GW516 := n5_;have GE516 := n6_;have NB501_516 := n7_;have NB516_501 := n8_;have NB502_516 := n9_;have NB516_502 := n10_;have NB515_516 := n11_;have NB516_515 := n12_;clear n0_ n1_ n2_ n3_ n4_ n5_ n6_ n7_ n8_ n9_ n10_ n11_ n12_;clear hb hbox hg
                refine hK.out _ _ ((blk_cell BK501.out 0).trans rfl) (fun hHeld => ?_)
                clear hK K
                refine norm_ (a' := ?_) ?_ ?_
                rotate_left
                ·show Act.put _ (some 7) _ = _
                 simp only [Act.put, sI, s0, sS, i64_w, i32_w]
                 rfl
                exact norm_ pa_ (hJ8_9 (gb515, gb516) _ ⟨hHeld, (bk_ BK501.out), (bk_ BK502.out), (bk_ BK515.out), (bk_ BK516.out), GW515.out, GE515.out, NB501_515.out, NB515_501.out, NB502_515.out, NB515_502.out, NB516_515.out, NB515_516.out, GW516.out, GE516.out, NB501_516.out, NB516_501.out, NB502_516.out, NB516_502.out, (hb4_ HB.out GE501.out GE502.out GE515.out GE516.out)⟩)
             ·skip
              rintro v504 w10 ⟨hS_, h0_, h1_, h2_, h3_⟩
              have n0_ : Aside0 (Kd.R (Kd.int .u64) 24 w10 w.heap.size (fun _ => True) v504 t503) := ⟨h0_⟩
              have n1_ : Aside0 (w10.heap[gb501]? = some (.cells #[.slice A0_0 l0_0.length c0_0] 56 (0, 0))) := ⟨h1_⟩
              have n2_ : Aside0 (w10.heap[gb502]? = some (.cells #[.slice none 0 0] 56 (0, 0))) := ⟨h2_⟩
              have n3_ : Aside0 (Below w.heap.size w w10) := ⟨h3_⟩
              clear BK501;clear BK502;clear HB;clear h0_ h1_ h2_ h3_;have HO505 := n0_;have BK501 := n1_;have BK502 := n2_;have HB := n3_;clear n0_ n1_ n2_ n3_
              have hHeld : w10.cell? ⟨gb501, 0, none⟩ = some (.slice A0_0 l0_0.length c0_0) := hS_
              obtain ⟨Ao11, co11, eo11⟩ := Kd.R_slice HO505.out
              (first | subst eo11 | (injection eo11 with f1_ f2_ f3_; have f4_ := f1_.symm; have f5_ := f3_.symm; clear f1_ f2_ f3_; subst f4_; subst f5_))
              refine norm_ (a' := ?_) ?_ ?_
              rotate_left
              ·simp only [putAll, Act.put, sI, s0, sS]
               rfl
              refine three_ (i := 3) (j := 8) (k := 9) (Ni := some 12) (Nj := some 6) (Nk := some 7) #[true, true, true, true, false, false, false, false, false, false, false, false] #[true, true, true, false, false, false, false, false, true, false, false, false] #[true, true, true, false, false, false, false, false, false, true, false, false] rfl rfl rfl rfl rfl rfl (three_of HT_.out (by kernel_rfl)) (by decide) (by decide) (by decide) (fun K hK => ?_) (fun K hK => ?_) (fun K hK => ?_)
              ·skip
               refine goes_ Try.func103 (by kernel_rfl) rfl #[.agg #[.slice Ao11 t503.length co11], .int .i64 a1] (by rfl) rfl rfl mp_ ?_
               with_reducible refine (trunnionref01_Shl.calls k _ _ t503 a1 t506 _ ?side1 ?side2 A4.out).mono ?_
               (case side1 => repeat (first | exact (Kd.R_reads' HO505.out).2.2 | (with_reducible refine Kd.C_alloc ?_ _) | (with_reducible refine Kd.C_drewN ?_ _) | (with_reducible refine Kd.C_drew ?_)))
               (case side2 => exact (Kd.R_reads' HO505.out).2.1)
               rintro e w12 ⟨v507, rfl, ho0, hb⟩
               refine ⟨_, rfl, ?_⟩
               have n0_ := A_ (Kd.R_elder' (kr_ HO505.out) (Kd.R_base ho0) hb)
               have n1_ := A_ (Kd.R_lower (Kd.R_new' ho0 (Kd.R_lt (kr_ HO505.out))) (below_size (hb2_ HB.out GE501.out GE502.out)))
               have n2_ := A_ (blk_below (g := gb501) (o := .cells #[.slice A0_0 l0_0.length c0_0] 56 (0, 0)) (bk_ BK501.out) hb)
               have n3_ := A_ (blk_below (g := gb502) (o := .cells #[.slice none 0 0] 56 (0, 0)) (bk_ BK502.out) hb)
               have n4_ := A_ (below_step (hb2_ HB.out GE501.out GE502.out) hb)
               clear HO505;clear BK501;clear BK502;clear HB;have HO505 := n0_;have HO508 := n1_;have BK501 := n2_;have BK502 := n3_;have HB := n4_;clear n0_ n1_ n2_ n3_ n4_;(try clear hb);(try clear hb2);(try clear hk);(try clear hi);(try clear ho0)
               refine hK.out _ _ ((blk_cell BK501.out 0).trans rfl) (fun hHeld => ?_)
               clear hK K
               refine norm_ (a' := ?_) ?_ ?_
               rotate_left
               ·show Act.put _ (some 12) _ = _
                simp only [Act.put, sI, s0, sS, i64_w, i32_w]
                rfl
               exact norm_ pa_ (hJ1_3 (.slice Ao11 t503.length co11, _) _ ⟨hHeld, (by (with_reducible repeat (first | apply Kd.R_alloc | apply Kd.R_drewN | apply Kd.R_drew)); exact Kd.R_mono HO505.out (fun _ hk => hk.2)), (by (with_reducible repeat (first | apply Kd.R_alloc | apply Kd.R_drewN | apply Kd.R_drew)); exact Kd.R_mono HO508.out (fun _ hk => hk.2)), (bk_ BK501.out), (bk_ BK502.out), (hb2_ HB.out GE501.out GE502.out)⟩)
              ·skip
               refine box_step ?hg (N := 6) ?hd (cs := #[.slice none 0 0]) (t := 56) ?hr ?_; (case hd => rfl); (case hg => rfl); (case hr => first | (go_simp; done) | (go_simp; rfl))
               intro gb515 hg w11 hbox hb
               have n0_ := A_ (Kd.R_below (kr_ HO505.out) hb)
               have n1_ := A_ (blk_below (g := gb501) (o := .cells #[.slice A0_0 l0_0.length c0_0] 56 (0, 0)) (bk_ BK501.out) hb)
               have n2_ := A_ (blk_below (g := gb502) (o := .cells #[.slice none 0 0] 56 (0, 0)) (bk_ BK502.out) hb)
               have n3_ := A_ (below_step (hb2_ HB.out GE501.out GE502.out) hb)
               have n4_ := A_ (hbox)
               have n5_ := A_ ((by rw [hg]; exact (below_size (hb2_ HB.out GE501.out GE502.out)) : w.heap.size ≤ gb515))
               have n6_ := A_ ((by rw [hg]; exact (below_size (hb2_ HB.out GE501.out GE502.out)) : w.heap.size ≤ gb515))
               have n7_ := A_ ((by rw [hg]; exact Nat.ne_of_lt (blk_lt (g := gb501) (o := .cells #[.slice A0_0 l0_0.length c0_0] 56 (0, 0)) (bk_ BK501.out)) : gb501 ≠ gb515))
               have n8_ := A_ ((by rw [hg]; exact Nat.ne_of_gt (blk_lt (g := gb501) (o := .cells #[.slice A0_0 l0_0.length c0_0] 56 (0, 0)) (bk_ BK501.out)) : gb515 ≠ gb501))
               have n9_ := A_ ((by rw [hg]; exact Nat.ne_of_lt (blk_lt (g := gb502) (o := .cells #[.slice none 0 0] 56 (0, 0)) (bk_ BK502.out)) : gb502 ≠ gb515))
               have n10_ := A_ ((by rw [hg]; exact Nat.ne_of_gt (blk_lt (g := gb502) (o := .cells #[.slice none 0 0] 56 (0, 0)) (bk_ BK502.out)) : gb515 ≠ gb502))
               clear HO505;clear BK501;clear BK502;clear HB;have HO505 := n0_;have BK501 := n1_;have BK502 := n2_;have HB := n3_;have BK515 := n4_;have GW515 := n5_;have GE515 := n6_;have NB501_515 := n7_;have NB515_501 := n8_;have NB502_515 := n9_;have NB515_502 := n10_;clear n0_ n1_ n2_ n3_ n4_ n5_ n6_ n7_ n8_ n9_ n10_;clear hb hbox hg
               refine hK.out _ _ ((blk_cell BK501.out 0).trans rfl) (fun hHeld => ?_)
               clear hK K
               refine norm_ (a' := ?_) ?_ ?_
               rotate_left
               ·show Act.put _ (some 6) _ = _
                simp only [Act.put, sI, s0, sS, i64_w, i32_w]
                rfl
               exact norm_ pa_ (hJ1_8 (_, gb515) _ ⟨hHeld, (kr_ HO505.out), (bk_ BK501.out), (bk_ BK502.out), (bk_ BK515.out), GW515.out, GE515.out, NB501_515.out, NB515_501.out, NB502_515.out, NB515_502.out, (hb3_ HB.out GE501.out GE502.out GE515.out)⟩)
              ·skip
               refine box_step ?hg (N := 7) ?hd (cs := #[.slice none 0 0]) (t := 56) ?hr ?_; (case hd => rfl); (case hg => rfl); (case hr => first | (go_simp; done) | (go_simp; rfl))
               intro gb516 hg w11 hbox hb
               have n0_ := A_ (Kd.R_below (kr_ HO505.out) hb)
               have n1_ := A_ (blk_below (g := gb501) (o := .cells #[.slice A0_0 l0_0.length c0_0] 56 (0, 0)) (bk_ BK501.out) hb)
               have n2_ := A_ (blk_below (g := gb502) (o := .cells #[.slice none 0 0] 56 (0, 0)) (bk_ BK502.out) hb)
               have n3_ := A_ (below_step (hb2_ HB.out GE501.out GE502.out) hb)
               have n4_ := A_ (hbox)
               have n5_ := A_ ((by rw [hg]; exact (below_size (hb2_ HB.out GE501.out GE502.out)) : w.heap.size ≤ gb516))
               have n6_ := A_ ((by rw [hg]; exact (below_size (hb2_ HB.out GE501.out GE502.out)) : w.heap.size ≤ gb516))
               have n7_ := A_ ((by rw [hg]; exact Nat.ne_of_lt (blk_lt (g := gb501) (o := .cells #[.slice A0_0 l0_0.length c0_0] 56 (0, 0)) (bk_ BK501.out)) : gb501 ≠ gb516))
               have n8_ := A_ ((by rw [hg]; exact Nat.ne_of_gt (blk_lt (g := gb501) (o := .cells #[.slice A0_0 l0_0.length c0_0] 56 (0, 0)) (bk_ BK501.out)) : gb516 ≠ gb501))
               have n9_ := A_ ((by rw [hg]; exact Nat.ne_of_lt (blk_lt (g := gb502) (o := .cells #[.slice none 0 0] 56 (0, 0)) (bk_ BK502.out)) : gb502 ≠ gb516))
               have n10_ := A_ ((by rw [hg]; exact Nat.ne_of_gt (blk_lt (g := gb502) (o := .cells #[.slice none 0 0] 56 (0, 0)) (bk_ BK502.out)) : gb516 ≠ gb502))
               clear HO505;clear BK501;clear BK502;clear HB;have HO505 := n0_;have BK501 := n1_;have BK502 := n2_;have HB := n3_;have BK516 := n4_;have GW516 := n5_;have GE516 := n6_;have NB501_516 := n7_;have NB516_501 := n8_;have NB502_516 := n9_;have NB516_502 := n10_;clear n0_ n1_ n2_ n3_ n4_ n5_ n6_ n7_ n8_ n9_ n10_;clear hb hbox hg
               refine hK.out _ _ ((blk_cell BK501.out 0).trans rfl) (fun hHeld => ?_)
               clear hK K
               refine norm_ (a' := ?_) ?_ ?_
               rotate_left
               ·show Act.put _ (some 7) _ = _
                simp only [Act.put, sI, s0, sS, i64_w, i32_w]
                rfl
               exact norm_ pa_ (hJ1_9 (_, gb516) _ ⟨hHeld, (kr_ HO505.out), (bk_ BK501.out), (bk_ BK502.out), (bk_ BK516.out), GW516.out, GE516.out, NB501_516.out, NB516_501.out, NB502_516.out, NB516_502.out, (hb3_ HB.out GE501.out GE502.out GE516.out)⟩)
            ·skip
             rintro ⟨gb515, gb516⟩ w11 ⟨hS_, h0_, h1_, h2_, h3_, h4_, h5_, h6_, h7_, h8_, h9_, h10_, h11_, h12_, h13_, h14_, h15_, h16_, h17_, h18_⟩
             have n0_ : Aside0 (w11.heap[gb501]? = some (.cells #[.slice A0_0 l0_0.length c0_0] 56 (0, 0))) := ⟨h0_⟩
             have n1_ : Aside0 (w11.heap[gb502]? = some (.cells #[.slice none 0 0] 56 (0, 0))) := ⟨h1_⟩
             have n2_ : Aside0 (w11.heap[gb515]? = some (.cells #[.slice none 0 0] 56 (0, 0))) := ⟨h2_⟩
             have n3_ : Aside0 (w11.heap[gb516]? = some (.cells #[.slice none 0 0] 56 (0, 0))) := ⟨h3_⟩
             have n4_ : Aside0 (w.heap.size ≤ gb515) := ⟨h4_⟩
             have n5_ : Aside0 (w.heap.size ≤ gb515) := ⟨h5_⟩
             have n6_ : Aside0 (gb501 ≠ gb515) := ⟨h6_⟩
             have n7_ : Aside0 (gb515 ≠ gb501) := ⟨h7_⟩
             have n8_ : Aside0 (gb502 ≠ gb515) := ⟨h8_⟩
             have n9_ : Aside0 (gb515 ≠ gb502) := ⟨h9_⟩
             have n10_ : Aside0 (gb516 ≠ gb515) := ⟨h10_⟩
             have n11_ : Aside0 (gb515 ≠ gb516) := ⟨h11_⟩
             have n12_ : Aside0 (w.heap.size ≤ gb516) := ⟨h12_⟩
             have n13_ : Aside0 (w.heap.size ≤ gb516) := ⟨h13_⟩
             have n14_ : Aside0 (gb501 ≠ gb516) := ⟨h14_⟩
             have n15_ : Aside0 (gb516 ≠ gb501) := ⟨h15_⟩
             have n16_ : Aside0 (gb502 ≠ gb516) := ⟨h16_⟩
             have n17_ : Aside0 (gb516 ≠ gb502) := ⟨h17_⟩
             have n18_ : Aside0 (Below w.heap.size w w11) := ⟨h18_⟩
             clear BK501;clear BK502;clear HB;clear h0_ h1_ h2_ h3_ h4_ h5_ h6_ h7_ h8_ h9_ h10_ h11_ h12_ h13_ h14_ h15_ h16_ h17_ h18_;have BK501 := n0_;have BK502 := n1_;have BK515 := n2_;have BK516 := n3_;have GW515 := n4_;have GE515 := n5_;have NB501_515 := n6_;have NB515_501 := n7_;have NB502_515 := n8_;have NB515_502 := n9_;have NB516_515 := n10_;have NB515_516 := n11_;have GW516 := n12_;have GE516 := n13_;have NB501_516 := n14_;have NB516_501 := n15_;have NB502_516 := n16_;have NB516_502 := n17_;have HB := n18_;clear n0_ n1_ n2_ n3_ n4_ n5_ n6_ n7_ n8_ n9_ n10_ n11_ n12_ n13_ n14_ n15_ n16_ n17_ n18_
             have hHeld : w11.cell? ⟨gb501, 0, none⟩ = some (.slice A0_0 l0_0.length c0_0) := hS_
             refine norm_ (a' := ?_) ?_ ?_
             rotate_left
             ·simp only [putAll, Act.put, sI, s0, sS]
              rfl
             refine one_ (i := 1) (N := some 10) #[true, true, true, false, false, false, false, false, true, true, false, false] rfl rfl (one_of HT_.out (by kernel_rfl)) (by decide) (fun K hK => ?_)
             refine goes_ Try.func46 (by kernel_rfl) rfl #[.int .u64 1] (by rfl) rfl rfl mp_ ?_
             with_reducible refine (trunnionref01_Of.calls k 1 t503 _ A3.out).mono ?_
             rintro e w12 ⟨v504, rfl, ho0, hb⟩
             refine ⟨_, rfl, ?_⟩
             have n0_ := A_ (Kd.R_lower ho0 (below_size (hb4_ HB.out GE501.out GE502.out GE515.out GE516.out)))
             have n1_ := A_ (blk_below (g := gb501) (o := .cells #[.slice A0_0 l0_0.length c0_0] 56 (0, 0)) (bk_ BK501.out) hb)
             have n2_ := A_ (blk_below (g := gb502) (o := .cells #[.slice none 0 0] 56 (0, 0)) (bk_ BK502.out) hb)
             have n3_ := A_ (blk_below (g := gb515) (o := .cells #[.slice none 0 0] 56 (0, 0)) (bk_ BK515.out) hb)
             have n4_ := A_ (blk_below (g := gb516) (o := .cells #[.slice none 0 0] 56 (0, 0)) (bk_ BK516.out) hb)
             have n5_ := A_ (below_step (hb4_ HB.out GE501.out GE502.out GE515.out GE516.out) hb)
             clear BK501;clear BK502;clear BK515;clear BK516;clear HB;have HO505 := n0_;have BK501 := n1_;have BK502 := n2_;have BK515 := n3_;have BK516 := n4_;have HB := n5_;clear n0_ n1_ n2_ n3_ n4_ n5_;(try clear hb);(try clear hb2);(try clear hk);(try clear hi);(try clear ho0)
             refine hK.out _ _ ((blk_cell BK501.out 0).trans rfl) (fun hHeld => ?_)
             clear hK K
             refine norm_ (a' := ?_) ?_ ?_
             rotate_left
             ·show Act.put _ (some 10) _ = _
              simp only [Act.put, sI, s0, sS, i64_w, i32_w]
              rfl
             exact norm_ pa_ (hJ1_8_9 (_, gb515, gb516) _ ⟨hHeld, (kr_ HO505.out), (bk_ BK501.out), (bk_ BK502.out), (bk_ BK515.out), (bk_ BK516.out), GW515.out, GE515.out, NB501_515.out, NB515_501.out, NB502_515.out, NB515_502.out, NB516_515.out, NB515_516.out, GW516.out, GE516.out, NB501_516.out, NB516_501.out, NB502_516.out, NB516_502.out, (hb4_ HB.out GE501.out GE502.out GE515.out GE516.out)⟩)
           ·skip
            rintro ⟨v504, gb516⟩ w11 ⟨hS_, h0_, h1_, h2_, h3_, h4_, h5_, h6_, h7_, h8_, h9_, h10_⟩
            have n0_ : Aside0 (Kd.R (Kd.int .u64) 24 w11 w.heap.size (fun _ => True) v504 t503) := ⟨h0_⟩
            have n1_ : Aside0 (w11.heap[gb501]? = some (.cells #[.slice A0_0 l0_0.length c0_0] 56 (0, 0))) := ⟨h1_⟩
            have n2_ : Aside0 (w11.heap[gb502]? = some (.cells #[.slice none 0 0] 56 (0, 0))) := ⟨h2_⟩
            have n3_ : Aside0 (w11.heap[gb516]? = some (.cells #[.slice none 0 0] 56 (0, 0))) := ⟨h3_⟩
            have n4_ : Aside0 (w.heap.size ≤ gb516) := ⟨h4_⟩
            have n5_ : Aside0 (w.heap.size ≤ gb516) := ⟨h5_⟩
            have n6_ : Aside0 (gb501 ≠ gb516) := ⟨h6_⟩
            have n7_ : Aside0 (gb516 ≠ gb501) := ⟨h7_⟩
            have n8_ : Aside0 (gb502 ≠ gb516) := ⟨h8_⟩
            have n9_ : Aside0 (gb516 ≠ gb502) := ⟨h9_⟩
            have n10_ : Aside0 (Below w.heap.size w w11) := ⟨h10_⟩
            clear BK501;clear BK502;clear HB;clear h0_ h1_ h2_ h3_ h4_ h5_ h6_ h7_ h8_ h9_ h10_;have HO505 := n0_;have BK501 := n1_;have BK502 := n2_;have BK516 := n3_;have GW516 := n4_;have GE516 := n5_;have NB501_516 := n6_;have NB516_501 := n7_;have NB502_516 := n8_;have NB516_502 := n9_;have HB := n10_;clear n0_ n1_ n2_ n3_ n4_ n5_ n6_ n7_ n8_ n9_ n10_
            have hHeld : w11.cell? ⟨gb501, 0, none⟩ = some (.slice A0_0 l0_0.length c0_0) := hS_
            obtain ⟨Ao12, co12, eo12⟩ := Kd.R_slice HO505.out
            (first | subst eo12 | (injection eo12 with f1_ f2_ f3_; have f4_ := f1_.symm; have f5_ := f3_.symm; clear f1_ f2_ f3_; subst f4_; subst f5_))
            refine norm_ (a' := ?_) ?_ ?_
            rotate_left
            ·simp only [putAll, Act.put, sI, s0, sS]
             rfl
            refine two_ (i := 3) (j := 8) (Ni := some 12) (Nj := some 6) #[true, true, true, true, false, false, false, false, false, true, false, false] #[true, true, true, false, false, false, false, false, true, true, false, false] rfl rfl rfl rfl (two_of HT_.out (by kernel_rfl)) (by decide) (by decide) (fun K hK => ?_) (fun K hK => ?_)
            ·skip
             refine goes_ Try.func103 (by kernel_rfl) rfl #[.agg #[.slice Ao12 t503.length co12], .int .i64 a1] (by rfl) rfl rfl mp_ ?_
             with_reducible refine (trunnionref01_Shl.calls k _ _ t503 a1 t506 _ ?side1 ?side2 A4.out).mono ?_
             (case side1 => repeat (first | exact (Kd.R_reads' HO505.out).2.2 | (with_reducible refine Kd.C_alloc ?_ _) | (with_reducible refine Kd.C_drewN ?_ _) | (with_reducible refine Kd.C_drew ?_)))
             (case side2 => exact (Kd.R_reads' HO505.out).2.1)
             rintro e w13 ⟨v507, rfl, ho0, hb⟩
             refine ⟨_, rfl, ?_⟩
             have n0_ := A_ (Kd.R_elder' (kr_ HO505.out) (Kd.R_base ho0) hb)
             have n1_ := A_ (Kd.R_lower (Kd.R_new' ho0 (Kd.R_lt (kr_ HO505.out))) (below_size (hb3_ HB.out GE501.out GE502.out GE516.out)))
             have n2_ := A_ (blk_below (g := gb501) (o := .cells #[.slice A0_0 l0_0.length c0_0] 56 (0, 0)) (bk_ BK501.out) hb)
             have n3_ := A_ (blk_below (g := gb502) (o := .cells #[.slice none 0 0] 56 (0, 0)) (bk_ BK502.out) hb)
             have n4_ := A_ (blk_below (g := gb516) (o := .cells #[.slice none 0 0] 56 (0, 0)) (bk_ BK516.out) hb)
             have n5_ := A_ (below_step (hb3_ HB.out GE501.out GE502.out GE516.out) hb)
             clear HO505;clear BK501;clear BK502;clear BK516;clear HB;have HO505 := n0_;have HO508 := n1_;have BK501 := n2_;have BK502 := n3_;have BK516 := n4_;have HB := n5_;clear n0_ n1_ n2_ n3_ n4_ n5_;(try clear hb);(try clear hb2);(try clear hk);(try clear hi);(try clear ho0)
             refine hK.out _ _ ((blk_cell BK501.out 0).trans rfl) (fun hHeld => ?_)
             clear hK K
             refine norm_ (a' := ?_) ?_ ?_
             rotate_left
             ·show Act.put _ (some 12) _ = _
              simp only [Act.put, sI, s0, sS, i64_w, i32_w]
              rfl
             exact norm_ pa_ (hJ1_3_9 (.slice Ao12 t503.length co12, _, gb516) _ ⟨hHeld, (by (with_reducible repeat (first | apply Kd.R_alloc | apply Kd.R_drewN | apply Kd.R_drew)); exact Kd.R_mono HO505.out (fun _ hk => hk.2)), (by (with_reducible repeat (first | apply Kd.R_alloc | apply Kd.R_drewN | apply Kd.R_drew)); exact Kd.R_mono HO508.out (fun _ hk => hk.2)), (bk_ BK501.out), (bk_ BK502.out), (bk_ BK516.out), GW516.out, GE516.out, NB501_516.out, NB516_501.out, NB502_516.out, NB516_502.out, (hb3_ HB.out GE501.out GE502.out GE516.out)⟩)
            ·skip
             refine box_step ?hg (N := 6) ?hd (cs := #[.slice none 0 0]) (t := 56) ?hr ?_; (case hd => rfl); (case hg => rfl); (case hr => first | (go_simp; done) | (go_simp; rfl))
             intro gb515 hg w12 hbox hb
             have n0_ := A_ (Kd.R_below (kr_ HO505.out) hb)
             have n1_ := A_ (blk_below (g := gb501) (o := .cells #[.slice A0_0 l0_0.length c0_0] 56 (0, 0)) (bk_ BK501.out) hb)
             have n2_ := A_ (blk_below (g := gb502) (o := .cells #[.slice none 0 0] 56 (0, 0)) (bk_ BK502.out) hb)
             have n3_ := A_ (blk_below (g := gb516) (o := .cells #[.slice none 0 0] 56 (0, 0)) (bk_ BK516.out) hb)
             have n4_ := A_ (below_step (hb3_ HB.out GE501.out GE502.out GE516.out) hb)
             have n5_ := A_ (hbox)
             have n6_ := A_ ((by rw [hg]; exact (below_size (hb3_ HB.out GE501.out GE502.out GE516.out)) : w.heap.size ≤ gb515))
             have n7_ := A_ ((by rw [hg]; exact (below_size (hb3_ HB.out GE501.out GE502.out GE516.out)) : w.heap.size ≤ gb515))
             have n8_ := A_ ((by rw [hg]; exact Nat.ne_of_lt (blk_lt (g := gb501) (o := .cells #[.slice A0_0 l0_0.length c0_0] 56 (0, 0)) (bk_ BK501.out)) : gb501 ≠ gb515))
             have n9_ := A_ ((by rw [hg]; exact Nat.ne_of_gt (blk_lt (g := gb501) (o := .cells #[.slice A0_0 l0_0.length c0_0] 56 (0, 0)) (bk_ BK501.out)) : gb515 ≠ gb501))
             have n10_ := A_ ((by rw [hg]; exact Nat.ne_of_lt (blk_lt (g := gb502) (o := .cells #[.slice none 0 0] 56 (0, 0)) (bk_ BK502.out)) : gb502 ≠ gb515))
             have n11_ := A_ ((by rw [hg]; exact Nat.ne_of_gt (blk_lt (g := gb502) (o := .cells #[.slice none 0 0] 56 (0, 0)) (bk_ BK502.out)) : gb515 ≠ gb502))
             have n12_ := A_ ((by rw [hg]; exact Nat.ne_of_lt (blk_lt (g := gb516) (o := .cells #[.slice none 0 0] 56 (0, 0)) (bk_ BK516.out)) : gb516 ≠ gb515))
             have n13_ := A_ ((by rw [hg]; exact Nat.ne_of_gt (blk_lt (g := gb516) (o := .cells #[.slice none 0 0] 56 (0, 0)) (bk_ BK516.out)) : gb515 ≠ gb516))
             clear HO505;clear BK501;clear BK502;clear BK516;clear HB;have HO505 := n0_;have BK501 := n1_;have BK502 := n2_;have BK516 := n3_;have HB := n4_;have BK515 := n5_;have GW515 := n6_;have GE515 := n7_;have NB501_515 := n8_;have NB515_501 := n9_;have NB502_515 := n10_;have NB515_502 := n11_;have NB516_515 := n12_;have NB515_516 := n13_;clear n0_ n1_ n2_ n3_ n4_ n5_ n6_ n7_ n8_ n9_ n10_ n11_ n12_ n13_;clear hb hbox hg
             refine hK.out _ _ ((blk_cell BK501.out 0).trans rfl) (fun hHeld => ?_)
             clear hK K
             refine norm_ (a' := ?_) ?_ ?_
             rotate_left
             ·show Act.put _ (some 6) _ = _
              simp only [Act.put, sI, s0, sS, i64_w, i32_w]
              rfl
             exact norm_ pa_ (hJ1_8_9 (_, gb515, gb516) _ ⟨hHeld, (kr_ HO505.out), (bk_ BK501.out), (bk_ BK502.out), (bk_ BK515.out), (bk_ BK516.out), GW515.out, GE515.out, NB501_515.out, NB515_501.out, NB502_515.out, NB515_502.out, NB516_515.out, NB515_516.out, GW516.out, GE516.out, NB501_516.out, NB516_501.out, NB502_516.out, NB516_502.out, (hb4_ HB.out GE501.out GE502.out GE516.out GE515.out)⟩)
          ·skip
           rintro ⟨v504, gb515⟩ w11 ⟨hS_, h0_, h1_, h2_, h3_, h4_, h5_, h6_, h7_, h8_, h9_, h10_⟩
           have n0_ : Aside0 (Kd.R (Kd.int .u64) 24 w11 w.heap.size (fun _ => True) v504 t503) := ⟨h0_⟩
           have n1_ : Aside0 (w11.heap[gb501]? = some (.cells #[.slice A0_0 l0_0.length c0_0] 56 (0, 0))) := ⟨h1_⟩
           have n2_ : Aside0 (w11.heap[gb502]? = some (.cells #[.slice none 0 0] 56 (0, 0))) := ⟨h2_⟩
           have n3_ : Aside0 (w11.heap[gb515]? = some (.cells #[.slice none 0 0] 56 (0, 0))) := ⟨h3_⟩
           have n4_ : Aside0 (w.heap.size ≤ gb515) := ⟨h4_⟩
           have n5_ : Aside0 (w.heap.size ≤ gb515) := ⟨h5_⟩
           have n6_ : Aside0 (gb501 ≠ gb515) := ⟨h6_⟩
           have n7_ : Aside0 (gb515 ≠ gb501) := ⟨h7_⟩
           have n8_ : Aside0 (gb502 ≠ gb515) := ⟨h8_⟩
           have n9_ : Aside0 (gb515 ≠ gb502) := ⟨h9_⟩
           have n10_ : Aside0 (Below w.heap.size w w11) := ⟨h10_⟩
           clear BK501;clear BK502;clear HB;clear h0_ h1_ h2_ h3_ h4_ h5_ h6_ h7_ h8_ h9_ h10_;have HO505 := n0_;have BK501 := n1_;have BK502 := n2_;have BK515 := n3_;have GW515 := n4_;have GE515 := n5_;have NB501_515 := n6_;have NB515_501 := n7_;have NB502_515 := n8_;have NB515_502 := n9_;have HB := n10_;clear n0_ n1_ n2_ n3_ n4_ n5_ n6_ n7_ n8_ n9_ n10_
           have hHeld : w11.cell? ⟨gb501, 0, none⟩ = some (.slice A0_0 l0_0.length c0_0) := hS_
           obtain ⟨Ao12, co12, eo12⟩ := Kd.R_slice HO505.out
           (first | subst eo12 | (injection eo12 with f1_ f2_ f3_; have f4_ := f1_.symm; have f5_ := f3_.symm; clear f1_ f2_ f3_; subst f4_; subst f5_))
           refine norm_ (a' := ?_) ?_ ?_
           rotate_left
           ·simp only [putAll, Act.put, sI, s0, sS]
            rfl
           refine two_ (i := 3) (j := 9) (Ni := some 12) (Nj := some 7) #[true, true, true, true, false, false, false, false, true, false, false, false] #[true, true, true, false, false, false, false, false, true, true, false, false] rfl rfl rfl rfl (two_of HT_.out (by kernel_rfl)) (by decide) (by decide) (fun K hK => ?_) (fun K hK => ?_)
           ·skip
            refine goes_ Try.func103 (by kernel_rfl) rfl #[.agg #[.slice Ao12 t503.length co12], .int .i64 a1] (by rfl) rfl rfl mp_ ?_
            with_reducible refine (trunnionref01_Shl.calls k _ _ t503 a1 t506 _ ?side1 ?side2 A4.out).mono ?_
            (case side1 => repeat (first | exact (Kd.R_reads' HO505.out).2.2 | (with_reducible refine Kd.C_alloc ?_ _) | (with_reducible refine Kd.C_drewN ?_ _) | (with_reducible refine Kd.C_drew ?_)))
            (case side2 => exact (Kd.R_reads' HO505.out).2.1)
            rintro e w13 ⟨v507, rfl, ho0, hb⟩
            refine ⟨_, rfl, ?_⟩
            have n0_ := A_ (Kd.R_elder' (kr_ HO505.out) (Kd.R_base ho0) hb)
            have n1_ := A_ (Kd.R_lower (Kd.R_new' ho0 (Kd.R_lt (kr_ HO505.out))) (below_size (hb3_ HB.out GE501.out GE502.out GE515.out)))
            have n2_ := A_ (blk_below (g := gb501) (o := .cells #[.slice A0_0 l0_0.length c0_0] 56 (0, 0)) (bk_ BK501.out) hb)
            have n3_ := A_ (blk_below (g := gb502) (o := .cells #[.slice none 0 0] 56 (0, 0)) (bk_ BK502.out) hb)
            have n4_ := A_ (blk_below (g := gb515) (o := .cells #[.slice none 0 0] 56 (0, 0)) (bk_ BK515.out) hb)
            have n5_ := A_ (below_step (hb3_ HB.out GE501.out GE502.out GE515.out) hb)
            clear HO505;clear BK501;clear BK502;clear BK515;clear HB;have HO505 := n0_;have HO508 := n1_;have BK501 := n2_;have BK502 := n3_;have BK515 := n4_;have HB := n5_;clear n0_ n1_ n2_ n3_ n4_ n5_;(try clear hb);(try clear hb2);(try clear hk);(try clear hi);(try clear ho0)
            refine hK.out _ _ ((blk_cell BK501.out 0).trans rfl) (fun hHeld => ?_)
            clear hK K
            refine norm_ (a' := ?_) ?_ ?_
            rotate_left
            ·show Act.put _ (some 12) _ = _
             simp only [Act.put, sI, s0, sS, i64_w, i32_w]
             rfl
            exact norm_ pa_ (hJ1_3_8 (.slice Ao12 t503.length co12, _, gb515) _ ⟨hHeld, (by (with_reducible repeat (first | apply Kd.R_alloc | apply Kd.R_drewN | apply Kd.R_drew)); exact Kd.R_mono HO505.out (fun _ hk => hk.2)), (by (with_reducible repeat (first | apply Kd.R_alloc | apply Kd.R_drewN | apply Kd.R_drew)); exact Kd.R_mono HO508.out (fun _ hk => hk.2)), (bk_ BK501.out), (bk_ BK502.out), (bk_ BK515.out), GW515.out, GE515.out, NB501_515.out, NB515_501.out, NB502_515.out, NB515_502.out, (hb3_ HB.out GE501.out GE502.out GE515.out)⟩)
           ·skip
            refine box_step ?hg (N := 7) ?hd (cs := #[.slice none 0 0]) (t := 56) ?hr ?_; (case hd => rfl); (case hg => rfl); (case hr => first | (go_simp; done) | (go_simp; rfl))
            intro gb516 hg w12 hbox hb
            have n0_ := A_ (Kd.R_below (kr_ HO505.out) hb)
            have n1_ := A_ (blk_below (g := gb501) (o := .cells #[.slice A0_0 l0_0.length c0_0] 56 (0, 0)) (bk_ BK501.out) hb)
            have n2_ := A_ (blk_below (g := gb502) (o := .cells #[.slice none 0 0] 56 (0, 0)) (bk_ BK502.out) hb)
            have n3_ := A_ (blk_below (g := gb515) (o := .cells #[.slice none 0 0] 56 (0, 0)) (bk_ BK515.out) hb)
            have n4_ := A_ (below_step (hb3_ HB.out GE501.out GE502.out GE515.out) hb)
            have n5_ := A_ (hbox)
            have n6_ := A_ ((by rw [hg]; exact (below_size (hb3_ HB.out GE501.out GE502.out GE515.out)) : w.heap.size ≤ gb516))
            have n7_ := A_ ((by rw [hg]; exact (below_size (hb3_ HB.out GE501.out GE502.out GE515.out)) : w.heap.size ≤ gb516))
            have n8_ := A_ ((by rw [hg]; exact Nat.ne_of_lt (blk_lt (g := gb501) (o := .cells #[.slice A0_0 l0_0.length c0_0] 56 (0, 0)) (bk_ BK501.out)) : gb501 ≠ gb516))
            have n9_ := A_ ((by rw [hg]; exact Nat.ne_of_gt (blk_lt (g := gb501) (o := .cells #[.slice A0_0 l0_0.length c0_0] 56 (0, 0)) (bk_ BK501.out)) : gb516 ≠ gb501))
            have n10_ := A_ ((by rw [hg]; exact Nat.ne_of_lt (blk_lt (g := gb502) (o := .cells #[.slice none 0 0] 56 (0, 0)) (bk_ BK502.out)) : gb502 ≠ gb516))
            have n11_ := A_ ((by rw [hg]; exact Nat.ne_of_gt (blk_lt (g := gb502) (o := .cells #[.slice none 0 0] 56 (0, 0)) (bk_ BK502.out)) : gb516 ≠ gb502))
            have n12_ := A_ ((by rw [hg]; exact Nat.ne_of_lt (blk_lt (g := gb515) (o := .cells #[.slice none 0 0] 56 (0, 0)) (bk_ BK515.out)) : gb515 ≠ gb516))
            have n13_ := A_ ((by rw [hg]; exact Nat.ne_of_gt (blk_lt (g := gb515) (o := .cells #[.slice none 0 0] 56 (0, 0)) (bk_ BK515.out)) : gb516 ≠ gb515))
            clear HO505;clear BK501;clear BK502;clear BK515;clear HB;have HO505 := n0_;have BK501 := n1_;have BK502 := n2_;have BK515 := n3_;have HB := n4_;have BK516 := n5_;have GW516 := n6_;have GE516 := n7_;have NB501_516 := n8_;have NB516_501 := n9_;have NB502_516 := n10_;have NB516_502 := n11_;have NB515_516 := n12_;have NB516_515 := n13_;clear n0_ n1_ n2_ n3_ n4_ n5_ n6_ n7_ n8_ n9_ n10_ n11_ n12_ n13_;clear hb hbox hg
            refine hK.out _ _ ((blk_cell BK501.out 0).trans rfl) (fun hHeld => ?_)
            clear hK K
            refine norm_ (a' := ?_) ?_ ?_
            rotate_left
            ·show Act.put _ (some 7) _ = _
             simp only [Act.put, sI, s0, sS, i64_w, i32_w]
             rfl
            exact norm_ pa_ (hJ1_8_9 (_, gb515, gb516) _ ⟨hHeld, (kr_ HO505.out), (bk_ BK501.out), (bk_ BK502.out), (bk_ BK515.out), (bk_ BK516.out), GW515.out, GE515.out, NB501_515.out, NB515_501.out, NB502_515.out, NB515_502.out, NB516_515.out, NB515_516.out, GW516.out, GE516.out, NB501_516.out, NB516_501.out, NB502_516.out, NB516_502.out, (hb4_ HB.out GE501.out GE502.out GE515.out GE516.out)⟩)
         ·skip
          rintro ⟨v504, v507⟩ w12 ⟨hS_, h0_, h1_, h2_, h3_, h4_⟩
          have n0_ : Aside0 (Kd.R (Kd.int .u64) 24 w12 w.heap.size (fun k_ => some k_ ≠ (v507 : Value).ownBlock) v504 t503) := ⟨h0_⟩
          have n1_ : Aside0 (Kd.R (Kd.int .u64) 24 w12 w.heap.size (fun k_ => some k_ ≠ (v504 : Value).ownBlock) v507 t506) := ⟨h1_⟩
          have n2_ : Aside0 (w12.heap[gb501]? = some (.cells #[.slice A0_0 l0_0.length c0_0] 56 (0, 0))) := ⟨h2_⟩
          have n3_ : Aside0 (w12.heap[gb502]? = some (.cells #[.slice none 0 0] 56 (0, 0))) := ⟨h3_⟩
          have n4_ : Aside0 (Below w.heap.size w w12) := ⟨h4_⟩
          clear BK501;clear BK502;clear HB;clear h0_ h1_ h2_ h3_ h4_;have HO505 := n0_;have HO508 := n1_;have BK501 := n2_;have BK502 := n3_;have HB := n4_;clear n0_ n1_ n2_ n3_ n4_
          have hHeld : w12.cell? ⟨gb501, 0, none⟩ = some (.slice A0_0 l0_0.length c0_0) := hS_
          obtain ⟨Ao13, co13, eo13⟩ := Kd.R_slice HO508.out
          (first | subst eo13 | (injection eo13 with f1_ f2_ f3_; have f4_ := f1_.symm; have f5_ := f3_.symm; clear f1_ f2_ f3_; subst f4_; subst f5_))
          refine norm_ (a' := ?_) ?_ ?_
          rotate_left
          ·simp only [putAll, Act.put, sI, s0, sS]
           rfl
          refine three_ (i := 4) (j := 8) (k := 9) (Ni := some 13) (Nj := some 6) (Nk := some 7) #[true, true, true, true, true, false, false, false, false, false, false, false] #[true, true, true, true, false, false, false, false, true, false, false, false] #[true, true, true, true, false, false, false, false, false, true, false, false] rfl rfl rfl rfl rfl rfl (three_of HT_.out (by kernel_rfl)) (by decide) (by decide) (by decide) (fun K hK => ?_) (fun K hK => ?_) (fun K hK => ?_)
          ·skip
           refine goes_ Try.func138 (by kernel_rfl) rfl #[.agg #[.slice A0_0 l0_0.length c0_0], .agg #[.slice Ao13 t506.length co13]] (by rfl) rfl rfl mp_ ?_
           with_reducible refine (trunnionref01_Div.calls k (fun k_ => k_ < w.heap.size) _ _ l0_0 _ _ t506 t509 t512 _ ?side1 ?side2 ?side3 A5.out).mono ?_
           (case side1 => exact Kd.V_mk HC0_0.out (Kd.F_below (Kd.C_F (Kd.heap_int .u64) HR0_0.out) (hb2_ HB.out GE501.out GE502.out)))
           (case side2 => repeat (first | exact (Kd.R_reads' HO508.out).2.2 | (with_reducible refine Kd.C_alloc ?_ _) | (with_reducible refine Kd.C_drewN ?_ _) | (with_reducible refine Kd.C_drew ?_)))
           (case side3 => exact (Kd.R_reads' HO508.out).2.1)
           rintro e w14 ⟨v510, v513, rfl, ho0, ho1, hb⟩
           refine ⟨_, rfl, ?_⟩
           have n0_ := A_ (Kd.R_elder' (kr_ HO505.out) (Kd.R_base ho0) hb)
           have n1_ := A_ (Kd.R_elder' (kr_ HO508.out) (Kd.R_base ho0) hb)
           have n2_ := A_ (Kd.R_lower (Kd.R_new' (Kd.R_new' (Kd.R_mono (ok' := fun k_ => True) ho0 (fun _ hk_ => trivial)) (Kd.R_lt (kr_ HO505.out))) (Kd.R_lt (kr_ HO508.out))) (below_size (hb2_ HB.out GE501.out GE502.out)))
           have n3_ := A_ (Kd.V_lower (Kd.V_mono (ok' := fun k_ => some k_ ≠ (v510 : Value).ownBlock ∧ some k_ ≠ (v504 : Value).ownBlock ∧ some k_ ≠ (.slice Ao13 t506.length co13 : Value).ownBlock ∧ k_ ≠ gb501 ∧ k_ ≠ gb502) ho1 (fun k_ hk_ => ⟨hk_.2, Or.elim hk_.1 (fun hs_ => fun e_ => Nat.not_le.2 hs_ (Kd.R_base HO505.out k_ e_.symm)) (fun hn_ => (Kd.fresh' (Kd.R_lt (kr_ HO505.out)) k_ hn_)), Or.elim hk_.1 (fun hs_ => fun e_ => Nat.not_le.2 hs_ (Kd.R_base HO508.out k_ e_.symm)) (fun hn_ => (Kd.fresh' (Kd.R_lt (kr_ HO508.out)) k_ hn_)), Or.elim hk_.1 (fun hs_ => fun e_ => Nat.not_le.2 hs_ (by rw [e_]; exact GW501.out)) (fun hn_ => (Kd.freshB (g := gb501) (o := .cells #[.slice A0_0 l0_0.length c0_0] 56 (0, 0)) (bk_ BK501.out) k_ hn_)), Or.elim hk_.1 (fun hs_ => fun e_ => Nat.not_le.2 hs_ (by rw [e_]; exact GW502.out)) (fun hn_ => (Kd.freshB (g := gb502) (o := .cells #[.slice none 0 0] 56 (0, 0)) (bk_ BK502.out) k_ hn_))⟩)) (below_size (hb2_ HB.out GE501.out GE502.out)))
           have n4_ := A_ (blk_below (g := gb501) (o := .cells #[.slice A0_0 l0_0.length c0_0] 56 (0, 0)) (bk_ BK501.out) hb)
           have n5_ := A_ (blk_below (g := gb502) (o := .cells #[.slice none 0 0] 56 (0, 0)) (bk_ BK502.out) hb)
           have n6_ := A_ (below_step (hb2_ HB.out GE501.out GE502.out) hb)
           clear HO505;clear HO508;clear BK501;clear BK502;clear HB;have HO505 := n0_;have HO508 := n1_;have HO511 := n2_;have HO514 := n3_;have BK501 := n4_;have BK502 := n5_;have HB := n6_;clear n0_ n1_ n2_ n3_ n4_ n5_ n6_;(try clear hb);(try clear hb2);(try clear hk);(try clear hi);(try clear ho0);(try clear ho1)
           refine hK.out _ _ ((blk_cell BK501.out 0).trans rfl) (fun hHeld => ?_)
           clear hK K
           refine norm_ (a' := ?_) ?_ ?_
           rotate_left
           ·show Act.put _ (some 13) _ = _
            simp only [Act.put, sI, s0, sS, i64_w, i32_w]
            rfl
           refine pure_ (i := 5) (N := some 8) (v := ?_) (a' := ?_) #[true, true, true, true, true, true, false, false, false, false, false, false] rfl rfl (any_of HT_.out (by kernel_rfl)) (fun _ _ _ h => h) (Or.inl ⟨by rfl, ?_⟩) ?_ ?_
           rotate_left
           ·intro w'
            go_simp
            with_reducible rfl
           rotate_left
           ·simp only [Act.put, sI, s0, sS, i64_w, i32_w]
            rfl
           refine pure_ (i := 6) (N := some 14) (v := ?_) (a' := ?_) #[true, true, true, true, true, true, true, false, false, false, false, false] rfl rfl (any_of HT_.out (by kernel_rfl)) (fun _ _ _ h => h) (Or.inl ⟨by rfl, ?_⟩) ?_ ?_
           rotate_left
           ·intro w'
            go_simp
            with_reducible rfl
           rotate_left
           ·simp only [Act.put, sI, s0, sS, i64_w, i32_w]
            rfl
           refine pure_ (i := 7) (N := some 15) (v := ?_) (a' := ?_) #[true, true, true, true, true, true, true, true, false, false, false, false] rfl rfl (any_of HT_.out (by kernel_rfl)) (fun _ _ _ h => h) (Or.inl ⟨by rfl, ?_⟩) ?_ ?_
           rotate_left
           ·intro w'
            go_simp
            with_reducible rfl
           rotate_left
           ·simp only [Act.put, sI, s0, sS, i64_w, i32_w]
            rfl
           exact norm_ pa_ (hJ1_3_4 (_, .slice Ao13 t506.length co13, _, _) _ ⟨hHeld, (kr_ HO505.out), (kr_ HO508.out), (by (with_reducible repeat (first | apply Kd.R_alloc | apply Kd.R_drewN | apply Kd.R_drew)); exact Kd.R_mono HO511.out (fun _ hk => ⟨hk.1.2, hk.2⟩)), (by (with_reducible repeat (first | apply Kd.V_alloc | apply Kd.V_drewN | apply Kd.V_drew)); exact Kd.V_mono HO514.out (fun _ hk => ⟨hk.2.1, ⟨hk.2.2.1, ⟨hk.1, ⟨hk.2.2.2.1, hk.2.2.2.2⟩⟩⟩⟩)), (bk_ BK501.out), (bk_ BK502.out), (hb2_ HB.out GE501.out GE502.out)⟩)
          ·skip
           refine box_step ?hg (N := 6) ?hd (cs := #[.slice none 0 0]) (t := 56) ?hr ?_; (case hd => rfl); (case hg => rfl); (case hr => first | (go_simp; done) | (go_simp; rfl))
           intro gb515 hg w13 hbox hb
           have n0_ := A_ (Kd.R_below (kr_ HO505.out) hb)
           have n1_ := A_ (Kd.R_below (kr_ HO508.out) hb)
           have n2_ := A_ (blk_below (g := gb501) (o := .cells #[.slice A0_0 l0_0.length c0_0] 56 (0, 0)) (bk_ BK501.out) hb)
           have n3_ := A_ (blk_below (g := gb502) (o := .cells #[.slice none 0 0] 56 (0, 0)) (bk_ BK502.out) hb)
           have n4_ := A_ (below_step (hb2_ HB.out GE501.out GE502.out) hb)
           have n5_ := A_ (hbox)
           have n6_ := A_ ((by rw [hg]; exact (below_size (hb2_ HB.out GE501.out GE502.out)) : w.heap.size ≤ gb515))
           have n7_ := A_ ((by rw [hg]; exact (below_size (hb2_ HB.out GE501.out GE502.out)) : w.heap.size ≤ gb515))
           have n8_ := A_ ((by rw [hg]; exact Nat.ne_of_lt (blk_lt (g := gb501) (o := .cells #[.slice A0_0 l0_0.length c0_0] 56 (0, 0)) (bk_ BK501.out)) : gb501 ≠ gb515))
           have n9_ := A_ ((by rw [hg]; exact Nat.ne_of_gt (blk_lt (g := gb501) (o := .cells #[.slice A0_0 l0_0.length c0_0] 56 (0, 0)) (bk_ BK501.out)) : gb515 ≠ gb501))
           have n10_ := A_ ((by rw [hg]; exact Nat.ne_of_lt (blk_lt (g := gb502) (o := .cells #[.slice none 0 0] 56 (0, 0)) (bk_ BK502.out)) : gb502 ≠ gb515))
           have n11_ := A_ ((by rw [hg]; exact Nat.ne_of_gt (blk_lt (g := gb502) (o := .cells #[.slice none 0 0] 56 (0, 0)) (bk_ BK502.out)) : gb515 ≠ gb502))
           clear HO505;clear HO508;clear BK501;clear BK502;clear HB;have HO505 := n0_;have HO508 := n1_;have BK501 := n2_;have BK502 := n3_;have HB := n4_;have BK515 := n5_;have GW515 := n6_;have GE515 := n7_;have NB501_515 := n8_;have NB515_501 := n9_;have NB502_515 := n10_;have NB515_502 := n11_;clear n0_ n1_ n2_ n3_ n4_ n5_ n6_ n7_ n8_ n9_ n10_ n11_;clear hb hbox hg
           refine hK.out _ _ ((blk_cell BK501.out 0).trans rfl) (fun hHeld => ?_)
           clear hK K
           refine norm_ (a' := ?_) ?_ ?_
           rotate_left
           ·show Act.put _ (some 6) _ = _
            simp only [Act.put, sI, s0, sS, i64_w, i32_w]
            rfl
           exact norm_ pa_ (hJ1_3_8 (_, _, gb515) _ ⟨hHeld, (kr_ HO505.out), (kr_ HO508.out), (bk_ BK501.out), (bk_ BK502.out), (bk_ BK515.out), GW515.out, GE515.out, NB501_515.out, NB515_501.out, NB502_515.out, NB515_502.out, (hb3_ HB.out GE501.out GE502.out GE515.out)⟩)
          ·skip
           refine box_step ?hg (N := 7) ?hd (cs := #[.slice none 0 0]) (t := 56) ?hr ?_; (case hd => rfl); (case hg => rfl); (case hr => first | (go_simp; done) | (go_simp; rfl))
           intro gb516 hg w13 hbox hb
           have n0_ := A_ (Kd.R_below (kr_ HO505.out) hb)
           have n1_ := A_ (Kd.R_below (kr_ HO508.out) hb)
           have n2_ := A_ (blk_below (g := gb501) (o := .cells #[.slice A0_0 l0_0.length c0_0] 56 (0, 0)) (bk_ BK501.out) hb)
           have n3_ := A_ (blk_below (g := gb502) (o := .cells #[.slice none 0 0] 56 (0, 0)) (bk_ BK502.out) hb)
           have n4_ := A_ (below_step (hb2_ HB.out GE501.out GE502.out) hb)
           have n5_ := A_ (hbox)
           have n6_ := A_ ((by rw [hg]; exact (below_size (hb2_ HB.out GE501.out GE502.out)) : w.heap.size ≤ gb516))
           have n7_ := A_ ((by rw [hg]; exact (below_size (hb2_ HB.out GE501.out GE502.out)) : w.heap.size ≤ gb516))
           have n8_ := A_ ((by rw [hg]; exact Nat.ne_of_lt (blk_lt (g := gb501) (o := .cells #[.slice A0_0 l0_0.length c0_0] 56 (0, 0)) (bk_ BK501.out)) : gb501 ≠ gb516))
           have n9_ := A_ ((by rw [hg]; exact Nat.ne_of_gt (blk_lt (g := gb501) (o := .cells #[.slice A0_0 l0_0.length c0_0] 56 (0, 0)) (bk_ BK501.out)) : gb516 ≠ gb501))
           have n10_ := A_ ((by rw [hg]; exact Nat.ne_of_lt (blk_lt (g := gb502) (o := .cells #[.slice none 0 0] 56 (0, 0)) (bk_ BK502.out)) : gb502 ≠ gb516))
           have n11_ := A_ ((by rw [hg]; exact Nat.ne_of_gt (blk_lt (g := gb502) (o := .cells #[.slice none 0 0] 56 (0, 0)) (bk_ BK502.out)) : gb516 ≠ gb502))
           clear HO505;clear HO508;clear BK501;clear BK502;clear HB;have HO505 := n0_;have HO508 := n1_;have BK501 := n2_;have BK502 := n3_;have HB := n4_;have BK516 := n5_;have GW516 := n6_;have GE516 := n7_;have NB501_516 := n8_;have NB516_501 := n9_;have NB502_516 := n10_;have NB516_502 := n11_;clear n0_ n1_ n2_ n3_ n4_ n5_ n6_ n7_ n8_ n9_ n10_ n11_;clear hb hbox hg
           refine hK.out _ _ ((blk_cell BK501.out 0).trans rfl) (fun hHeld => ?_)
           clear hK K
           refine norm_ (a' := ?_) ?_ ?_
           rotate_left
           ·show Act.put _ (some 7) _ = _
            simp only [Act.put, sI, s0, sS, i64_w, i32_w]
            rfl
           exact norm_ pa_ (hJ1_3_9 (_, _, gb516) _ ⟨hHeld, (kr_ HO505.out), (kr_ HO508.out), (bk_ BK501.out), (bk_ BK502.out), (bk_ BK516.out), GW516.out, GE516.out, NB501_516.out, NB516_501.out, NB502_516.out, NB516_502.out, (hb3_ HB.out GE501.out GE502.out GE516.out)⟩)
        ·skip
         rintro ⟨v504, gb515, gb516⟩ w12 ⟨hS_, h0_, h1_, h2_, h3_, h4_, h5_, h6_, h7_, h8_, h9_, h10_, h11_, h12_, h13_, h14_, h15_, h16_, h17_, h18_, h19_⟩
         have n0_ : Aside0 (Kd.R (Kd.int .u64) 24 w12 w.heap.size (fun _ => True) v504 t503) := ⟨h0_⟩
         have n1_ : Aside0 (w12.heap[gb501]? = some (.cells #[.slice A0_0 l0_0.length c0_0] 56 (0, 0))) := ⟨h1_⟩
         have n2_ : Aside0 (w12.heap[gb502]? = some (.cells #[.slice none 0 0] 56 (0, 0))) := ⟨h2_⟩
         have n3_ : Aside0 (w12.heap[gb515]? = some (.cells #[.slice none 0 0] 56 (0, 0))) := ⟨h3_⟩
         have n4_ : Aside0 (w12.heap[gb516]? = some (.cells #[.slice none 0 0] 56 (0, 0))) := ⟨h4_⟩
         have n5_ : Aside0 (w.heap.size ≤ gb515) := ⟨h5_⟩
         have n6_ : Aside0 (w.heap.size ≤ gb515) := ⟨h6_⟩
         have n7_ : Aside0 (gb501 ≠ gb515) := ⟨h7_⟩
         have n8_ : Aside0 (gb515 ≠ gb501) := ⟨h8_⟩
         have n9_ : Aside0 (gb502 ≠ gb515) := ⟨h9_⟩
         have n10_ : Aside0 (gb515 ≠ gb502) := ⟨h10_⟩
         have n11_ : Aside0 (gb516 ≠ gb515) := ⟨h11_⟩
         have n12_ : Aside0 (gb515 ≠ gb516) := ⟨h12_⟩
         have n13_ : Aside0 (w.heap.size ≤ gb516) := ⟨h13_⟩
         have n14_ : Aside0 (w.heap.size ≤ gb516) := ⟨h14_⟩
         have n15_ : Aside0 (gb501 ≠ gb516) := ⟨h15_⟩
         have n16_ : Aside0 (gb516 ≠ gb501) := ⟨h16_⟩
         have n17_ : Aside0 (gb502 ≠ gb516) := ⟨h17_⟩
         have n18_ : Aside0 (gb516 ≠ gb502) := ⟨h18_⟩
         have n19_ : Aside0 (Below w.heap.size w w12) := ⟨h19_⟩
         clear BK501;clear BK502;clear HB;clear h0_ h1_ h2_ h3_ h4_ h5_ h6_ h7_ h8_ h9_ h10_ h11_ h12_ h13_ h14_ h15_ h16_ h17_ h18_ h19_;have HO505 := n0_;have BK501 := n1_;have BK502 := n2_;have BK515 := n3_;have BK516 := n4_;have GW515 := n5_;have GE515 := n6_;have NB501_515 := n7_;have NB515_501 := n8_;have NB502_515 := n9_;have NB515_502 := n10_;have NB516_515 := n11_;have NB515_516 := n12_;have GW516 := n13_;have GE516 := n14_;have NB501_516 := n15_;have NB516_501 := n16_;have NB502_516 := n17_;have NB516_502 := n18_;have HB := n19_;clear n0_ n1_ n2_ n3_ n4_ n5_ n6_ n7_ n8_ n9_ n10_ n11_ n12_ n13_ n14_ n15_ n16_ n17_ n18_ n19_
         have hHeld : w12.cell? ⟨gb501, 0, none⟩ = some (.slice A0_0 l0_0.length c0_0) := hS_
         obtain ⟨Ao13, co13, eo13⟩ := Kd.R_slice HO505.out
         (first | subst eo13 | (injection eo13 with f1_ f2_ f3_; have f4_ := f1_.symm; have f5_ := f3_.symm; clear f1_ f2_ f3_; subst f4_; subst f5_))
         refine norm_ (a' := ?_) ?_ ?_
         rotate_left
         ·simp only [putAll, Act.put, sI, s0, sS]
          rfl
         refine one_ (i := 3) (N := some 12) #[true, true, true, true, false, false, false, false, true, true, false, false] rfl rfl (one_of HT_.out (by kernel_rfl)) (by decide) (fun K hK => ?_)
         refine goes_ Try.func103 (by kernel_rfl) rfl #[.agg #[.slice Ao13 t503.length co13], .int .i64 a1] (by rfl) rfl rfl mp_ ?_
         with_reducible refine (trunnionref01_Shl.calls k _ _ t503 a1 t506 _ ?side1 ?side2 A4.out).mono ?_
         (case side1 => repeat (first | exact (Kd.R_reads' HO505.out).2.2 | (with_reducible refine Kd.C_alloc ?_ _) | (with_reducible refine Kd.C_drewN ?_ _) | (with_reducible refine Kd.C_drew ?_)))
         (case side2 => exact (Kd.R_reads' HO505.out).2.1)
         rintro e w14 ⟨v507, rfl, ho0, hb⟩
         refine ⟨_, rfl, ?_⟩
         have n0_ := A_ (Kd.R_elder' (kr_ HO505.out) (Kd.R_base ho0) hb)
         have n1_ := A_ (Kd.R_lower (Kd.R_new' ho0 (Kd.R_lt (kr_ HO505.out))) (below_size (hb4_ HB.out GE501.out GE502.out GE515.out GE516.out)))
         have n2_ := A_ (blk_below (g := gb501) (o := .cells #[.slice A0_0 l0_0.length c0_0] 56 (0, 0)) (bk_ BK501.out) hb)
         have n3_ := A_ (blk_below (g := gb502) (o := .cells #[.slice none 0 0] 56 (0, 0)) (bk_ BK502.out) hb)
         have n4_ := A_ (blk_below (g := gb515) (o := .cells #[.slice none 0 0] 56 (0, 0)) (bk_ BK515.out) hb)
         have n5_ := A_ (blk_below (g := gb516) (o := .cells #[.slice none 0 0] 56 (0, 0)) (bk_ BK516.out) hb)
         have n6_ := A_ (below_step (hb4_ HB.out GE501.out GE502.out GE515.out GE516.out) hb)
         clear HO505;clear BK501;clear BK502;clear BK515;clear BK516;clear HB;have HO505 := n0_;have HO508 := n1_;have BK501 := n2_;have BK502 := n3_;have BK515 := n4_;have BK516 := n5_;have HB := n6_;clear n0_ n1_ n2_ n3_ n4_ n5_ n6_;(try clear hb);(try clear hb2);(try clear hk);(try clear hi);(try clear ho0)
         refine hK.out _ _ ((blk_cell BK501.out 0).trans rfl) (fun hHeld => ?_)
         clear hK K
         refine norm_ (a' := ?_) ?_ ?_
         rotate_left
         ·show Act.put _ (some 12) _ = _
          simp only [Act.put, sI, s0, sS, i64_w, i32_w]
          rfl
         exact norm_ pa_ (hJ1_3_8_9 (.slice Ao13 t503.length co13, _, gb515, gb516) _ ⟨hHeld, (by (with_reducible repeat (first | apply Kd.R_alloc | apply Kd.R_drewN | apply Kd.R_drew)); exact Kd.R_mono HO505.out (fun _ hk => hk.2)), (by (with_reducible repeat (first | apply Kd.R_alloc | apply Kd.R_drewN | apply Kd.R_drew)); exact Kd.R_mono HO508.out (fun _ hk => hk.2)), (bk_ BK501.out), (bk_ BK502.out), (bk_ BK515.out), (bk_ BK516.out), GW515.out, GE515.out, NB501_515.out, NB515_501.out, NB502_515.out, NB515_502.out, NB516_515.out, NB515_516.out, GW516.out, GE516.out, NB501_516.out, NB516_501.out, NB502_516.out, NB516_502.out, (hb4_ HB.out GE501.out GE502.out GE515.out GE516.out)⟩)
       ·skip
        rintro ⟨v504, v507, gb516⟩ w13 ⟨hS_, h0_, h1_, h2_, h3_, h4_, h5_, h6_, h7_, h8_, h9_, h10_, h11_⟩
        have n0_ : Aside0 (Kd.R (Kd.int .u64) 24 w13 w.heap.size (fun k_ => some k_ ≠ (v507 : Value).ownBlock) v504 t503) := ⟨h0_⟩
        have n1_ : Aside0 (Kd.R (Kd.int .u64) 24 w13 w.heap.size (fun k_ => some k_ ≠ (v504 : Value).ownBlock) v507 t506) := ⟨h1_⟩
        have n2_ : Aside0 (w13.heap[gb501]? = some (.cells #[.slice A0_0 l0_0.length c0_0] 56 (0, 0))) := ⟨h2_⟩
        have n3_ : Aside0 (w13.heap[gb502]? = some (.cells #[.slice none 0 0] 56 (0, 0))) := ⟨h3_⟩
        have n4_ : Aside0 (w13.heap[gb516]? = some (.cells #[.slice none 0 0] 56 (0, 0))) := ⟨h4_⟩
        have n5_ : Aside0 (w.heap.size ≤ gb516) := ⟨h5_⟩
        have n6_ : Aside0 (w.heap.size ≤ gb516) := ⟨h6_⟩
        have n7_ : Aside0 (gb501 ≠ gb516) := ⟨h7_⟩
        have n8_ : Aside0 (gb516 ≠ gb501) := ⟨h8_⟩
        have n9_ : Aside0 (gb502 ≠ gb516) := ⟨h9_⟩
        have n10_ : Aside0 (gb516 ≠ gb502) := ⟨h10_⟩
        have n11_ : Aside0 (Below w.heap.size w w13) := ⟨h11_⟩
        clear BK501;clear BK502;clear HB;clear h0_ h1_ h2_ h3_ h4_ h5_ h6_ h7_ h8_ h9_ h10_ h11_;have HO505 := n0_;have HO508 := n1_;have BK501 := n2_;have BK502 := n3_;have BK516 := n4_;have GW516 := n5_;have GE516 := n6_;have NB501_516 := n7_;have NB516_501 := n8_;have NB502_516 := n9_;have NB516_502 := n10_;have HB := n11_;clear n0_ n1_ n2_ n3_ n4_ n5_ n6_ n7_ n8_ n9_ n10_ n11_
        have hHeld : w13.cell? ⟨gb501, 0, none⟩ = some (.slice A0_0 l0_0.length c0_0) := hS_
        obtain ⟨Ao14, co14, eo14⟩ := Kd.R_slice HO508.out
        (first | subst eo14 | (injection eo14 with f1_ f2_ f3_; have f4_ := f1_.symm; have f5_ := f3_.symm; clear f1_ f2_ f3_; subst f4_; subst f5_))
        refine norm_ (a' := ?_) ?_ ?_
        rotate_left
        ·simp only [putAll, Act.put, sI, s0, sS]
         rfl
        refine two_ (i := 4) (j := 8) (Ni := some 13) (Nj := some 6) #[true, true, true, true, true, false, false, false, false, true, false, false] #[true, true, true, true, false, false, false, false, true, true, false, false] rfl rfl rfl rfl (two_of HT_.out (by kernel_rfl)) (by decide) (by decide) (fun K hK => ?_) (fun K hK => ?_)
        ·skip
         refine goes_ Try.func138 (by kernel_rfl) rfl #[.agg #[.slice A0_0 l0_0.length c0_0], .agg #[.slice Ao14 t506.length co14]] (by rfl) rfl rfl mp_ ?_
         with_reducible refine (trunnionref01_Div.calls k (fun k_ => k_ < w.heap.size) _ _ l0_0 _ _ t506 t509 t512 _ ?side1 ?side2 ?side3 A5.out).mono ?_
         (case side1 => exact Kd.V_mk HC0_0.out (Kd.F_below (Kd.C_F (Kd.heap_int .u64) HR0_0.out) (hb3_ HB.out GE501.out GE502.out GE516.out)))
         (case side2 => repeat (first | exact (Kd.R_reads' HO508.out).2.2 | (with_reducible refine Kd.C_alloc ?_ _) | (with_reducible refine Kd.C_drewN ?_ _) | (with_reducible refine Kd.C_drew ?_)))
         (case side3 => exact (Kd.R_reads' HO508.out).2.1)
         rintro e w15 ⟨v510, v513, rfl, ho0, ho1, hb⟩
         refine ⟨_, rfl, ?_⟩
         have n0_ := A_ (Kd.R_elder' (kr_ HO505.out) (Kd.R_base ho0) hb)
         have n1_ := A_ (Kd.R_elder' (kr_ HO508.out) (Kd.R_base ho0) hb)
         have n2_ := A_ (Kd.R_lower (Kd.R_new' (Kd.R_new' (Kd.R_mono (ok' := fun k_ => True) ho0 (fun _ hk_ => trivial)) (Kd.R_lt (kr_ HO505.out))) (Kd.R_lt (kr_ HO508.out))) (below_size (hb3_ HB.out GE501.out GE502.out GE516.out)))
         have n3_ := A_ (Kd.V_lower (Kd.V_mono (ok' := fun k_ => some k_ ≠ (v510 : Value).ownBlock ∧ some k_ ≠ (v504 : Value).ownBlock ∧ some k_ ≠ (.slice Ao14 t506.length co14 : Value).ownBlock ∧ k_ ≠ gb501 ∧ k_ ≠ gb502 ∧ k_ ≠ gb516) ho1 (fun k_ hk_ => ⟨hk_.2, Or.elim hk_.1 (fun hs_ => fun e_ => Nat.not_le.2 hs_ (Kd.R_base HO505.out k_ e_.symm)) (fun hn_ => (Kd.fresh' (Kd.R_lt (kr_ HO505.out)) k_ hn_)), Or.elim hk_.1 (fun hs_ => fun e_ => Nat.not_le.2 hs_ (Kd.R_base HO508.out k_ e_.symm)) (fun hn_ => (Kd.fresh' (Kd.R_lt (kr_ HO508.out)) k_ hn_)), Or.elim hk_.1 (fun hs_ => fun e_ => Nat.not_le.2 hs_ (by rw [e_]; exact GW501.out)) (fun hn_ => (Kd.freshB (g := gb501) (o := .cells #[.slice A0_0 l0_0.length c0_0] 56 (0, 0)) (bk_ BK501.out) k_ hn_)), Or.elim hk_.1 (fun hs_ => fun e_ => Nat.not_le.2 hs_ (by rw [e_]; exact GW502.out)) (fun hn_ => (Kd.freshB (g := gb502) (o := .cells #[.slice none 0 0] 56 (0, 0)) (bk_ BK502.out) k_ hn_)), Or.elim hk_.1 (fun hs_ => fun e_ => Nat.not_le.2 hs_ (by rw [e_]; exact GW516.out)) (fun hn_ => (Kd.freshB (g := gb516) (o := .cells #[.slice none 0 0] 56 (0, 0)) (bk_ BK516.out) k_ hn_))⟩)) (below_size (hb3_ HB.out GE501.out GE502.out GE516.out)))
         have n4_ := A_ (blk_below (g := gb501) (o := .cells #[.slice A0_0 l0_0.length c0_0] 56 (0, 0)) (bk_ BK501.out) hb)
         have n5_ := A_ (blk_below (g := gb502) (o := .cells #[.slice none 0 0] 56 (0, 0)) (bk_ BK502.out) hb)
         have n6_ := A_ (blk_below (g := gb516) (o := .cells #[.slice none 0 0] 56 (0, 0)) (bk_ BK516.out) hb)
         have n7_ := A_ (below_step (hb3_ HB.out GE501.out GE502.out GE516.out) hb)
         clear HO505;clear HO508;clear BK501;clear BK502;clear BK516;clear HB;have HO505 := n0_;have HO508 := n1_;have HO511 := n2_;have HO514 := n3_;have BK501 := n4_;have BK502 := n5_;have BK516 := n6_;have HB := n7_;clear n0_ n1_ n2_ n3_ n4_ n5_ n6_ n7_;(try clear hb);(try clear hb2);(try clear hk);(try clear hi);(try clear ho0);(try clear ho1)
         refine hK.out _ _ ((blk_cell BK501.out 0).trans rfl) (fun hHeld => ?_)
         clear hK K
         refine norm_ (a' := ?_) ?_ ?_
         rotate_left
         ·show Act.put _ (some 13) _ = _
          simp only [Act.put, sI, s0, sS, i64_w, i32_w]
          rfl
         refine pure_ (i := 5) (N := some 8) (v := ?_) (a' := ?_) #[true, true, true, true, true, true, false, false, false, true, false, false] rfl rfl (any_of HT_.out (by kernel_rfl)) (fun _ _ _ h => h) (Or.inl ⟨by rfl, ?_⟩) ?_ ?_
         rotate_left
         ·intro w'
          go_simp
          with_reducible rfl
         rotate_left
         ·simp only [Act.put, sI, s0, sS, i64_w, i32_w]
          rfl
         refine pure_ (i := 6) (N := some 14) (v := ?_) (a' := ?_) #[true, true, true, true, true, true, true, false, false, true, false, false] rfl rfl (any_of HT_.out (by kernel_rfl)) (fun _ _ _ h => h) (Or.inl ⟨by rfl, ?_⟩) ?_ ?_
         rotate_left
         ·intro w'
          go_simp
          with_reducible rfl
         rotate_left
         ·simp only [Act.put, sI, s0, sS, i64_w, i32_w]
          rfl
         refine pure_ (i := 7) (N := some 15) (v := ?_) (a' := ?_) #[true, true, true, true, true, true, true, true, false, true, false, false] rfl rfl (any_of HT_.out (by kernel_rfl)) (fun _ _ _ h => h) (Or.inl ⟨by rfl, ?_⟩) ?_ ?_
         rotate_left
         ·intro w'
          go_simp
          with_reducible rfl
         rotate_left
         ·simp only [Act.put, sI, s0, sS, i64_w, i32_w]
          rfl
         exact norm_ pa_ (hJ1_3_4_9 (_, .slice Ao14 t506.length co14, _, _, gb516) _ ⟨hHeld, (kr_ HO505.out), (kr_ HO508.out), (by (with_reducible repeat (first | apply Kd.R_alloc | apply Kd.R_drewN | apply Kd.R_drew)); exact Kd.R_mono HO511.out (fun _ hk => ⟨hk.1.2, hk.2⟩)), (by (with_reducible repeat (first | apply Kd.V_alloc | apply Kd.V_drewN | apply Kd.V_drew)); exact Kd.V_mono HO514.out (fun _ hk => ⟨hk.2.1, ⟨hk.2.2.1, ⟨hk.1, ⟨hk.2.2.2.1, ⟨hk.2.2.2.2.1, hk.2.2.2.2.2⟩⟩⟩⟩⟩)), (bk_ BK501.out), (bk_ BK502.out), (bk_ BK516.out), GW516.out, GE516.out, NB501_516.out, NB516_501.out, NB502_516.out, NB516_502.out, (hb3_ HB.out GE501.out GE502.out GE516.out)⟩)
        ·skip
         refine box_step ?hg (N := 6) ?hd (cs := #[.slice none 0 0]) (t := 56) ?hr ?_; (case hd => rfl); (case hg => rfl); (case hr => first | (go_simp; done) | (go_simp; rfl))
         intro gb515 hg w14 hbox hb
         have n0_ := A_ (Kd.R_below (kr_ HO505.out) hb)
         have n1_ := A_ (Kd.R_below (kr_ HO508.out) hb)
         have n2_ := A_ (blk_below (g := gb501) (o := .cells #[.slice A0_0 l0_0.length c0_0] 56 (0, 0)) (bk_ BK501.out) hb)
         have n3_ := A_ (blk_below (g := gb502) (o := .cells #[.slice none 0 0] 56 (0, 0)) (bk_ BK502.out) hb)
         have n4_ := A_ (blk_below (g := gb516) (o := .cells #[.slice none 0 0] 56 (0, 0)) (bk_ BK516.out) hb)
         have n5_ := A_ (below_step (hb3_ HB.out GE501.out GE502.out GE516.out) hb)
         have n6_ := A_ (hbox)
         have n7_ := A_ ((by rw [hg]; exact (below_size (hb3_ HB.out GE501.out GE502.out GE516.out)) : w.heap.size ≤ gb515))
         have n8_ := A_ ((by rw [hg]; exact (below_size (hb3_ HB.out GE501.out GE502.out GE516.out)) : w.heap.size ≤ gb515))
         have n9_ := A_ ((by rw [hg]; exact Nat.ne_of_lt (blk_lt (g := gb501) (o := .cells #[.slice A0_0 l0_0.length c0_0] 56 (0, 0)) (bk_ BK501.out)) : gb501 ≠ gb515))
         have n10_ := A_ ((by rw [hg]; exact Nat.ne_of_gt (blk_lt (g := gb501) (o := .cells #[.slice A0_0 l0_0.length c0_0] 56 (0, 0)) (bk_ BK501.out)) : gb515 ≠ gb501))
         have n11_ := A_ ((by rw [hg]; exact Nat.ne_of_lt (blk_lt (g := gb502) (o := .cells #[.slice none 0 0] 56 (0, 0)) (bk_ BK502.out)) : gb502 ≠ gb515))
         have n12_ := A_ ((by rw [hg]; exact Nat.ne_of_gt (blk_lt (g := gb502) (o := .cells #[.slice none 0 0] 56 (0, 0)) (bk_ BK502.out)) : gb515 ≠ gb502))
         have n13_ := A_ ((by rw [hg]; exact Nat.ne_of_lt (blk_lt (g := gb516) (o := .cells #[.slice none 0 0] 56 (0, 0)) (bk_ BK516.out)) : gb516 ≠ gb515))
         have n14_ := A_ ((by rw [hg]; exact Nat.ne_of_gt (blk_lt (g := gb516) (o := .cells #[.slice none 0 0] 56 (0, 0)) (bk_ BK516.out)) : gb515 ≠ gb516))
         clear HO505;clear HO508;clear BK501;clear BK502;clear BK516;clear HB;have HO505 := n0_;have HO508 := n1_;have BK501 := n2_;have BK502 := n3_;have BK516 := n4_;have HB := n5_;have BK515 := n6_;have GW515 := n7_;have GE515 := n8_;have NB501_515 := n9_;have NB515_501 := n10_;have NB502_515 := n11_;have NB515_502 := n12_;have NB516_515 := n13_;have NB515_516 := n14_;clear n0_ n1_ n2_ n3_ n4_ n5_ n6_ n7_ n8_ n9_ n10_ n11_ n12_ n13_ n14_;clear hb hbox hg
         refine hK.out _ _ ((blk_cell BK501.out 0).trans rfl) (fun hHeld => ?_)
         clear hK K
         refine norm_ (a' := ?_) ?_ ?_
         rotate_left
         ·show Act.put _ (some 6) _ = _
          simp only [Act.put, sI, s0, sS, i64_w, i32_w]
          rfl
         exact norm_ pa_ (hJ1_3_8_9 (_, _, gb515, gb516) _ ⟨hHeld, (kr_ HO505.out), (kr_ HO508.out), (bk_ BK501.out), (bk_ BK502.out), (bk_ BK515.out), (bk_ BK516.out), GW515.out, GE515.out, NB501_515.out, NB515_501.out, NB502_515.out, NB515_502.out, NB516_515.out, NB515_516.out, GW516.out, GE516.out, NB501_516.out, NB516_501.out, NB502_516.out, NB516_502.out, (hb4_ HB.out GE501.out GE502.out GE516.out GE515.out)⟩)
      ·skip
       rintro ⟨v504, v507, gb515⟩ w13 ⟨hS_, h0_, h1_, h2_, h3_, h4_, h5_, h6_, h7_, h8_, h9_, h10_, h11_⟩
       have n0_ : Aside0 (Kd.R (Kd.int .u64) 24 w13 w.heap.size (fun k_ => some k_ ≠ (v507 : Value).ownBlock) v504 t503) := ⟨h0_⟩
       have n1_ : Aside0 (Kd.R (Kd.int .u64) 24 w13 w.heap.size (fun k_ => some k_ ≠ (v504 : Value).ownBlock) v507 t506) := ⟨h1_⟩
       have n2_ : Aside0 (w13.heap[gb501]? = some (.cells #[.slice A0_0 l0_0.length c0_0] 56 (0, 0))) := ⟨h2_⟩
       have n3_ : Aside0 (w13.heap[gb502]? = some (.cells #[.slice none 0 0] 56 (0, 0))) := ⟨h3_⟩
       have n4_ : Aside0 (w13.heap[gb515]? = some (.cells #[.slice none 0 0] 56 (0, 0))) := ⟨h4_⟩
       have n5_ : Aside0 (w.heap.size ≤ gb515) := ⟨h5_⟩
       have n6_ : Aside0 (w.heap.size ≤ gb515) := ⟨h6_⟩
       have n7_ : Aside0 (gb501 ≠ gb515) := ⟨h7_⟩
       have n8_ : Aside0 (gb515 ≠ gb501) := ⟨h8_⟩
       have n9_ : Aside0 (gb502 ≠ gb515) := ⟨h9_⟩
       have n10_ : Aside0 (gb515 ≠ gb502) := ⟨h10_⟩
       have n11_ : Aside0 (Below w.heap.size w w13) := ⟨h11_⟩
       clear BK501;clear BK502;clear HB;clear h0_ h1_ h2_ h3_ h4_ h5_ h6_ h7_ h8_ h9_ h10_ h11_;have HO505 := n0_;have HO508 := n1_;have BK501 := n2_;have BK502 := n3_;have BK515 := n4_;have GW515 := n5_;have GE515 := n6_;have NB501_515 := n7_;have NB515_501 := n8_;have NB502_515 := n9_;have NB515_502 := n10_;have HB := n11_;clear n0_ n1_ n2_ n3_ n4_ n5_ n6_ n7_ n8_ n9_ n10_ n11_
       have hHeld : w13.cell? ⟨gb501, 0, none⟩ = some (.slice A0_0 l0_0.length c0_0) := hS_
       obtain ⟨Ao14, co14, eo14⟩ := Kd.R_slice HO508.out
       (first | subst eo14 | (injection eo14 with f1_ f2_ f3_; have f4_ := f1_.symm; have f5_ := f3_.symm; clear f1_ f2_ f3_; subst f4_; subst f5_))
       refine norm_ (a' := ?_) ?_ ?_
       rotate_left
       ·simp only [putAll, Act.put, sI, s0, sS]
        rfl
       refine two_ (i := 4) (j := 9) (Ni := some 13) (Nj := some 7) #[true, true, true, true, true, false, false, false, true, false, false, false] #[true, true, true, true, false, false, false, false, true, true, false, false] rfl rfl rfl rfl (two_of HT_.out (by kernel_rfl)) (by decide) (by decide) (fun K hK => ?_) (fun K hK => ?_)
       ·skip
        refine goes_ Try.func138 (by kernel_rfl) rfl #[.agg #[.slice A0_0 l0_0.length c0_0], .agg #[.slice Ao14 t506.length co14]] (by rfl) rfl rfl mp_ ?_
        with_reducible refine (trunnionref01_Div.calls k (fun k_ => k_ < w.heap.size) _ _ l0_0 _ _ t506 t509 t512 _ ?side1 ?side2 ?side3 A5.out).mono ?_
        (case side1 => exact Kd.V_mk HC0_0.out (Kd.F_below (Kd.C_F (Kd.heap_int .u64) HR0_0.out) (hb3_ HB.out GE501.out GE502.out GE515.out)))
        (case side2 => repeat (first | exact (Kd.R_reads' HO508.out).2.2 | (with_reducible refine Kd.C_alloc ?_ _) | (with_reducible refine Kd.C_drewN ?_ _) | (with_reducible refine Kd.C_drew ?_)))
        (case side3 => exact (Kd.R_reads' HO508.out).2.1)
        rintro e w15 ⟨v510, v513, rfl, ho0, ho1, hb⟩
        refine ⟨_, rfl, ?_⟩
        have n0_ := A_ (Kd.R_elder' (kr_ HO505.out) (Kd.R_base ho0) hb)
        have n1_ := A_ (Kd.R_elder' (kr_ HO508.out) (Kd.R_base ho0) hb)
        have n2_ := A_ (Kd.R_lower (Kd.R_new' (Kd.R_new' (Kd.R_mono (ok' := fun k_ => True) ho0 (fun _ hk_ => trivial)) (Kd.R_lt (kr_ HO505.out))) (Kd.R_lt (kr_ HO508.out))) (below_size (hb3_ HB.out GE501.out GE502.out GE515.out)))
        have n3_ := A_ (Kd.V_lower (Kd.V_mono (ok' := fun k_ => some k_ ≠ (v510 : Value).ownBlock ∧ some k_ ≠ (v504 : Value).ownBlock ∧ some k_ ≠ (.slice Ao14 t506.length co14 : Value).ownBlock ∧ k_ ≠ gb501 ∧ k_ ≠ gb502 ∧ k_ ≠ gb515) ho1 (fun k_ hk_ => ⟨hk_.2, Or.elim hk_.1 (fun hs_ => fun e_ => Nat.not_le.2 hs_ (Kd.R_base HO505.out k_ e_.symm)) (fun hn_ => (Kd.fresh' (Kd.R_lt (kr_ HO505.out)) k_ hn_)), Or.elim hk_.1 (fun hs_ => fun e_ => Nat.not_le.2 hs_ (Kd.R_base HO508.out k_ e_.symm)) (fun hn_ => (Kd.fresh' (Kd.R_lt (kr_ HO508.out)) k_ hn_)), Or.elim hk_.1 (fun hs_ => fun e_ => Nat.not_le.2 hs_ (by rw [e_]; exact GW501.out)) (fun hn_ => (Kd.freshB (g := gb501) (o := .cells #[.slice A0_0 l0_0.length c0_0] 56 (0, 0)) (bk_ BK501.out) k_ hn_)), Or.elim hk_.1 (fun hs_ => fun e_ => Nat.not_le.2 hs_ (by rw [e_]; exact GW502.out)) (fun hn_ => (Kd.freshB (g := gb502) (o := .cells #[.slice none 0 0] 56 (0, 0)) (bk_ BK502.out) k_ hn_)), Or.elim hk_.1 (fun hs_ => fun e_ => Nat.not_le.2 hs_ (by rw [e_]; exact GW515.out)) (fun hn_ => (Kd.freshB (g := gb515) (o := .cells #[.slice none 0 0] 56 (0, 0)) (bk_ BK515.out) k_ hn_))⟩)) (below_size (hb3_ HB.out GE501.out GE502.out GE515.out)))
        have n4_ := A_ (blk_below (g := gb501) (o := .cells #[.slice A0_0 l0_0.length c0_0] 56 (0, 0)) (bk_ BK501.out) hb)
        have n5_ := A_ (blk_below (g := gb502) (o := .cells #[.slice none 0 0] 56 (0, 0)) (bk_ BK502.out) hb)
        have n6_ := A_ (blk_below (g := gb515) (o := .cells #[.slice none 0 0] 56 (0, 0)) (bk_ BK515.out) hb)
        have n7_ := A_ (below_step (hb3_ HB.out GE501.out GE502.out GE515.out) hb)
        clear HO505;clear HO508;clear BK501;clear BK502;clear BK515;clear HB;have HO505 := n0_;have HO508 := n1_;have HO511 := n2_;have HO514 := n3_;have BK501 := n4_;have BK502 := n5_;have BK515 := n6_;have HB := n7_;clear n0_ n1_ n2_ n3_ n4_ n5_ n6_ n7_;(try clear hb);(try clear hb2);(try clear hk);(try clear hi);(try clear ho0);(try clear ho1)
        refine hK.out _ _ ((blk_cell BK501.out 0).trans rfl) (fun hHeld => ?_)
        clear hK K
        refine norm_ (a' := ?_) ?_ ?_
        rotate_left
        ·show Act.put _ (some 13) _ = _
         simp only [Act.put, sI, s0, sS, i64_w, i32_w]
         rfl
        refine pure_ (i := 5) (N := some 8) (v := ?_) (a' := ?_) #[true, true, true, true, true, true, false, false, true, false, false, false] rfl rfl (any_of HT_.out (by kernel_rfl)) (fun _ _ _ h => h) (Or.inl ⟨by rfl, ?_⟩) ?_ ?_
        rotate_left
        ·intro w'
         go_simp
         with_reducible rfl
        rotate_left
        ·simp only [Act.put, sI, s0, sS, i64_w, i32_w]
         rfl
        refine pure_ (i := 6) (N := some 14) (v := ?_) (a' := ?_) #[true, true, true, true, true, true, true, false, true, false, false, false] rfl rfl (any_of HT_.out (by kernel_rfl)) (fun _ _ _ h => h) (Or.inl ⟨by rfl, ?_⟩) ?_ ?_
        rotate_left
        ·intro w'
         go_simp
         with_reducible rfl
        rotate_left
        ·simp only [Act.put, sI, s0, sS, i64_w, i32_w]
         rfl
        refine pure_ (i := 7) (N := some 15) (v := ?_) (a' := ?_) #[true, true, true, true, true, true, true, true, true, false, false, false] rfl rfl (any_of HT_.out (by kernel_rfl)) (fun _ _ _ h => h) (Or.inl ⟨by rfl, ?_⟩) ?_ ?_
        rotate_left
        ·intro w'
         go_simp
         with_reducible rfl
        rotate_left
        ·simp only [Act.put, sI, s0, sS, i64_w, i32_w]
         rfl
        exact norm_ pa_ (hJ1_3_4_8 (_, .slice Ao14 t506.length co14, _, _, gb515) _ ⟨hHeld, (kr_ HO505.out), (kr_ HO508.out), (by (with_reducible repeat (first | apply Kd.R_alloc | apply Kd.R_drewN | apply Kd.R_drew)); exact Kd.R_mono HO511.out (fun _ hk => ⟨hk.1.2, hk.2⟩)), (by (with_reducible repeat (first | apply Kd.V_alloc | apply Kd.V_drewN | apply Kd.V_drew)); exact Kd.V_mono HO514.out (fun _ hk => ⟨hk.2.1, ⟨hk.2.2.1, ⟨hk.1, ⟨hk.2.2.2.1, ⟨hk.2.2.2.2.1, hk.2.2.2.2.2⟩⟩⟩⟩⟩)), (bk_ BK501.out), (bk_ BK502.out), (bk_ BK515.out), GW515.out, GE515.out, NB501_515.out, NB515_501.out, NB502_515.out, NB515_502.out, (hb3_ HB.out GE501.out GE502.out GE515.out)⟩)
       ·skip
        refine box_step ?hg (N := 7) ?hd (cs := #[.slice none 0 0]) (t := 56) ?hr ?_; (case hd => rfl); (case hg => rfl); (case hr => first | (go_simp; done) | (go_simp; rfl))
        intro gb516 hg w14 hbox hb
        have n0_ := A_ (Kd.R_below (kr_ HO505.out) hb)
        have n1_ := A_ (Kd.R_below (kr_ HO508.out) hb)
        have n2_ := A_ (blk_below (g := gb501) (o := .cells #[.slice A0_0 l0_0.length c0_0] 56 (0, 0)) (bk_ BK501.out) hb)
        have n3_ := A_ (blk_below (g := gb502) (o := .cells #[.slice none 0 0] 56 (0, 0)) (bk_ BK502.out) hb)
        have n4_ := A_ (blk_below (g := gb515) (o := .cells #[.slice none 0 0] 56 (0, 0)) (bk_ BK515.out) hb)
        have n5_ := A_ (below_step (hb3_ HB.out GE501.out GE502.out GE515.out) hb)
        have n6_ := A_ (hbox)
        have n7_ := A_ ((by rw [hg]; exact (below_size (hb3_ HB.out GE501.out GE502.out GE515.out)) : w.heap.size ≤ gb516))
        have n8_ := A_ ((by rw [hg]; exact (below_size (hb3_ HB.out GE501.out GE502.out GE515.out)) : w.heap.size ≤ gb516))
        have n9_ := A_ ((by rw [hg]; exact Nat.ne_of_lt (blk_lt (g := gb501) (o := .cells #[.slice A0_0 l0_0.length c0_0] 56 (0, 0)) (bk_ BK501.out)) : gb501 ≠ gb516))
        have n10_ := A_ ((by rw [hg]; exact Nat.ne_of_gt (blk_lt (g := gb501) (o := .cells #[.slice A0_0 l0_0.length c0_0] 56 (0, 0)) (bk_ BK501.out)) : gb516 ≠ gb501))
        have n11_ := A_ ((by rw [hg]; exact Nat.ne_of_lt (blk_lt (g := gb502) (o := .cells #[.slice none 0 0] 56 (0, 0)) (bk_ BK502.out)) : gb502 ≠ gb516))
        have n12_ := A_ ((by rw [hg]; exact Nat.ne_of_gt (blk_lt (g := gb502) (o := .cells #[.slice none 0 0] 56 (0, 0)) (bk_ BK502.out)) : gb516 ≠ gb502))
        have n13_ := A_ ((by rw [hg]; exact Nat.ne_of_lt (blk_lt (g := gb515) (o := .cells #[.slice none 0 0] 56 (0, 0)) (bk_ BK515.out)) : gb515 ≠ gb516))
        have n14_ := A_ ((by rw [hg]; exact Nat.ne_of_gt (blk_lt (g := gb515) (o := .cells #[.slice none 0 0] 56 (0, 0)) (bk_ BK515.out)) : gb516 ≠ gb515))
        clear HO505;clear HO508;clear BK501;clear BK502;clear BK515;clear HB;have HO505 := n0_;have HO508 := n1_;have BK501 := n2_;have BK502 := n3_;have BK515 := n4_;have HB := n5_;have BK516 := n6_;have GW516 := n7_;have GE516 := n8_;have NB501_516 := n9_;have NB516_501 := n10_;have NB502_516 := n11_;have NB516_502 := n12_;have NB515_516 := n13_;have NB516_515 := n14_;clear n0_ n1_ n2_ n3_ n4_ n5_ n6_ n7_ n8_ n9_ n10_ n11_ n12_ n13_ n14_;clear hb hbox hg
        refine hK.out _ _ ((blk_cell BK501.out 0).trans rfl) (fun hHeld => ?_)
        clear hK K
        refine norm_ (a' := ?_) ?_ ?_
        rotate_left
        ·show Act.put _ (some 7) _ = _
         simp only [Act.put, sI, s0, sS, i64_w, i32_w]
         rfl
        exact norm_ pa_ (hJ1_3_8_9 (_, _, gb515, gb516) _ ⟨hHeld, (kr_ HO505.out), (kr_ HO508.out), (bk_ BK501.out), (bk_ BK502.out), (bk_ BK515.out), (bk_ BK516.out), GW515.out, GE515.out, NB501_515.out, NB515_501.out, NB502_515.out, NB515_502.out, NB516_515.out, NB515_516.out, GW516.out, GE516.out, NB501_516.out, NB516_501.out, NB502_516.out, NB516_502.out, (hb4_ HB.out GE501.out GE502.out GE515.out GE516.out)⟩)
     ·skip
      rintro ⟨v504, v507, v510, v513⟩ w14 ⟨hS_, h0_, h1_, h2_, h3_, h4_, h5_, h6_⟩
      have n0_ : Aside0 (Kd.R (Kd.int .u64) 24 w14 w.heap.size (fun k_ => some k_ ≠ (v507 : Value).ownBlock ∧ some k_ ≠ (v510 : Value).ownBlock) v504 t503) := ⟨h0_⟩
      have n1_ : Aside0 (Kd.R (Kd.int .u64) 24 w14 w.heap.size (fun k_ => some k_ ≠ (v504 : Value).ownBlock ∧ some k_ ≠ (v510 : Value).ownBlock) v507 t506) := ⟨h1_⟩
      have n2_ : Aside0 (Kd.R (Kd.int .u64) 24 w14 w.heap.size (fun k_ => some k_ ≠ (v504 : Value).ownBlock ∧ some k_ ≠ (v507 : Value).ownBlock) v510 t509) := ⟨h2_⟩
      have n3_ : Aside0 (Kd.V (Kd.int .u64) 24 w14 w.heap.size (fun k_ => some k_ ≠ (v504 : Value).ownBlock ∧ some k_ ≠ (v507 : Value).ownBlock ∧ some k_ ≠ (v510 : Value).ownBlock ∧ k_ ≠ gb501 ∧ k_ ≠ gb502) v513 t512) := ⟨h3_⟩
      have n4_ : Aside0 (w14.heap[gb501]? = some (.cells #[.slice A0_0 l0_0.length c0_0] 56 (0, 0))) := ⟨h4_⟩
      have n5_ : Aside0 (w14.heap[gb502]? = some (.cells #[.slice none 0 0] 56 (0, 0))) := ⟨h5_⟩
      have n6_ : Aside0 (Below w.heap.size w w14) := ⟨h6_⟩
      clear BK501;clear BK502;clear HB;clear h0_ h1_ h2_ h3_ h4_ h5_ h6_;have HO505 := n0_;have HO508 := n1_;have HO511 := n2_;have HO514 := n3_;have BK501 := n4_;have BK502 := n5_;have HB := n6_;clear n0_ n1_ n2_ n3_ n4_ n5_ n6_
      have hHeld : w14.cell? ⟨gb501, 0, none⟩ = some (.slice A0_0 l0_0.length c0_0) := hS_
      refine norm_ (a' := ?_) ?_ ?_
      rotate_left
      ·simp only [putAll, Act.put, sI, s0, sS]
       rfl
      refine two_ (i := 8) (j := 9) (Ni := some 6) (Nj := some 7) #[true, true, true, true, true, true, true, true, true, false, false, false] #[true, true, true, true, true, true, true, true, false, true, false, false] rfl rfl rfl rfl (two_of HT_.out (by kernel_rfl)) (by decide) (by decide) (fun K hK => ?_) (fun K hK => ?_)
      ·skip
       refine box_step ?hg (N := 6) ?hd (cs := #[.slice none 0 0]) (t := 56) ?hr ?_; (case hd => rfl); (case hg => rfl); (case hr => first | (go_simp; done) | (go_simp; rfl))
       intro gb515 hg w15 hbox hb
       have n0_ := A_ (Kd.R_below (kr_ HO505.out) hb)
       have n1_ := A_ (Kd.R_below (kr_ HO508.out) hb)
       have n2_ := A_ (Kd.R_below (kr_ HO511.out) hb)
       have n3_ := A_ (Kd.V_below (Kd.V_elderB (kv_ HO514.out) gb515 (Nat.le_of_eq hg.symm)) hb)
       have n4_ := A_ (blk_below (g := gb501) (o := .cells #[.slice A0_0 l0_0.length c0_0] 56 (0, 0)) (bk_ BK501.out) hb)
       have n5_ := A_ (blk_below (g := gb502) (o := .cells #[.slice none 0 0] 56 (0, 0)) (bk_ BK502.out) hb)
       have n6_ := A_ (below_step (hb2_ HB.out GE501.out GE502.out) hb)
       have n7_ := A_ (hbox)
       have n8_ := A_ ((by rw [hg]; exact (below_size (hb2_ HB.out GE501.out GE502.out)) : w.heap.size ≤ gb515))
       have n9_ := A_ ((by rw [hg]; exact (below_size (hb2_ HB.out GE501.out GE502.out)) : w.heap.size ≤ gb515))
       have n10_ := A_ ((by rw [hg]; exact Nat.ne_of_lt (blk_lt (g := gb501) (o := .cells #[.slice A0_0 l0_0.length c0_0] 56 (0, 0)) (bk_ BK501.out)) : gb501 ≠ gb515))
       have n11_ := A_ ((by rw [hg]; exact Nat.ne_of_gt (blk_lt (g := gb501) (o := .cells #[.slice A0_0 l0_0.length c0_0] 56 (0, 0)) (bk_ BK501.out)) : gb515 ≠ gb501))
       have n12_ := A_ ((by rw [hg]; exact Nat.ne_of_lt (blk_lt (g := gb502) (o := .cells #[.slice none 0 0] 56 (0, 0)) (bk_ BK502.out)) : gb502 ≠ gb515))
       have n13_ := A_ ((by rw [hg]; exact Nat.ne_of_gt (blk_lt (g := gb502) (o := .cells #[.slice none 0 0] 56 (0, 0)) (bk_ BK502.out)) : gb515 ≠ gb502))
       clear HO505;clear HO508;clear HO511;clear HO514;clear BK501;clear BK502;clear HB;have HO505 := n0_;have HO508 := n1_;have HO511 := n2_;have HO514 := n3_;have BK501 := n4_;have BK502 := n5_;have HB := n6_;have BK515 := n7_;have GW515 := n8_;have GE515 := n9_;have NB501_515 := n10_;have NB515_501 := n11_;have NB502_515 := n12_;have NB515_502 := n13_;clear n0_ n1_ n2_ n3_ n4_ n5_ n6_ n7_ n8_ n9_ n10_ n11_ n12_ n13_;clear hb hbox hg
       refine hK.out _ _ ((blk_cell BK501.out 0).trans rfl) (fun hHeld => ?_)
       clear hK K
       refine norm_ (a' := ?_) ?_ ?_
       rotate_left
       ·show Act.put _ (some 6) _ = _
        simp only [Act.put, sI, s0, sS, i64_w, i32_w]
        rfl
       exact norm_ pa_ (hJ1_3_4_8 (_, _, _, _, gb515) _ ⟨hHeld, (kr_ HO505.out), (kr_ HO508.out), (kr_ HO511.out), (by (with_reducible repeat (first | apply Kd.V_alloc | apply Kd.V_drewN | apply Kd.V_drew)); exact Kd.V_mono HO514.out (fun _ hk => ⟨hk.1.1, ⟨hk.1.2.1, ⟨hk.1.2.2.1, ⟨hk.1.2.2.2.1, ⟨hk.1.2.2.2.2, hk.2⟩⟩⟩⟩⟩)), (bk_ BK501.out), (bk_ BK502.out), (bk_ BK515.out), GW515.out, GE515.out, NB501_515.out, NB515_501.out, NB502_515.out, NB515_502.out, (hb3_ HB.out GE501.out GE502.out GE515.out)⟩)
      ·skip
       refine box_step ?hg (N := 7) ?hd (cs := #[.slice none 0 0]) (t := 56) ?hr ?_; (case hd => rfl); (case hg => rfl); (case hr => first | (go_simp; done) | (go_simp; rfl))
       intro gb516 hg w15 hbox hb
       have n0_ := A_ (Kd.R_below (kr_ HO505.out) hb)
       have n1_ := A_ (Kd.R_below (kr_ HO508.out) hb)
       have n2_ := A_ (Kd.R_below (kr_ HO511.out) hb)
       have n3_ := A_ (Kd.V_below (Kd.V_elderB (kv_ HO514.out) gb516 (Nat.le_of_eq hg.symm)) hb)
       have n4_ := A_ (blk_below (g := gb501) (o := .cells #[.slice A0_0 l0_0.length c0_0] 56 (0, 0)) (bk_ BK501.out) hb)
       have n5_ := A_ (blk_below (g := gb502) (o := .cells #[.slice none 0 0] 56 (0, 0)) (bk_ BK502.out) hb)
       have n6_ := A_ (below_step (hb2_ HB.out GE501.out GE502.out) hb)
       have n7_ := A_ (hbox)
       have n8_ := A_ ((by rw [hg]; exact (below_size (hb2_ HB.out GE501.out GE502.out)) : w.heap.size ≤ gb516))
       have n9_ := A_ ((by rw [hg]; exact (below_size (hb2_ HB.out GE501.out GE502.out)) : w.heap.size ≤ gb516))
       have n10_ := A_ ((by rw [hg]; exact Nat.ne_of_lt (blk_lt (g := gb501) (o := .cells #[.slice A0_0 l0_0.length c0_0] 56 (0, 0)) (bk_ BK501.out)) : gb501 ≠ gb516))
       have n11_ := A_ ((by rw [hg]; exact Nat.ne_of_gt (blk_lt (g := gb501) (o := .cells #[.slice A0_0 l0_0.length c0_0] 56 (0, 0)) (bk_ BK501.out)) : gb516 ≠ gb501))
       have n12_ := A_ ((by rw [hg]; exact Nat.ne_of_lt (blk_lt (g := gb502) (o := .cells #[.slice none 0 0] 56 (0, 0)) (bk_ BK502.out)) : gb502 ≠ gb516))
       have n13_ := A_ ((by rw [hg]; exact Nat.ne_of_gt (blk_lt (g := gb502) (o := .cells #[.slice none 0 0] 56 (0, 0)) (bk_ BK502.out)) : gb516 ≠ gb502))
       clear HO505;clear HO508;clear HO511;clear HO514;clear BK501;clear BK502;clear HB;have HO505 := n0_;have HO508 := n1_;have HO511 := n2_;have HO514 := n3_;have BK501 := n4_;have BK502 := n5_;have HB := n6_;have BK516 := n7_;have GW516 := n8_;have GE516 := n9_;have NB501_516 := n10_;have NB516_501 := n11_;have NB502_516 := n12_;have NB516_502 := n13_;clear n0_ n1_ n2_ n3_ n4_ n5_ n6_ n7_ n8_ n9_ n10_ n11_ n12_ n13_;clear hb hbox hg
       refine hK.out _ _ ((blk_cell BK501.out 0).trans rfl) (fun hHeld => ?_)
       clear hK K
       refine norm_ (a' := ?_) ?_ ?_
       rotate_left
       ·show Act.put _ (some 7) _ = _
        simp only [Act.put, sI, s0, sS, i64_w, i32_w]
        rfl
       exact norm_ pa_ (hJ1_3_4_9 (_, _, _, _, gb516) _ ⟨hHeld, (kr_ HO505.out), (kr_ HO508.out), (kr_ HO511.out), (by (with_reducible repeat (first | apply Kd.V_alloc | apply Kd.V_drewN | apply Kd.V_drew)); exact Kd.V_mono HO514.out (fun _ hk => ⟨hk.1.1, ⟨hk.1.2.1, ⟨hk.1.2.2.1, ⟨hk.1.2.2.2.1, ⟨hk.1.2.2.2.2, hk.2⟩⟩⟩⟩⟩)), (bk_ BK501.out), (bk_ BK502.out), (bk_ BK516.out), GW516.out, GE516.out, NB501_516.out, NB516_501.out, NB502_516.out, NB516_502.out, (hb3_ HB.out GE501.out GE502.out GE516.out)⟩)
    ·skip
     rintro ⟨v504, v507, gb515, gb516⟩ w14 ⟨hS_, h0_, h1_, h2_, h3_, h4_, h5_, h6_, h7_, h8_, h9_, h10_, h11_, h12_, h13_, h14_, h15_, h16_, h17_, h18_, h19_, h20_⟩
     have n0_ : Aside0 (Kd.R (Kd.int .u64) 24 w14 w.heap.size (fun k_ => some k_ ≠ (v507 : Value).ownBlock) v504 t503) := ⟨h0_⟩
     have n1_ : Aside0 (Kd.R (Kd.int .u64) 24 w14 w.heap.size (fun k_ => some k_ ≠ (v504 : Value).ownBlock) v507 t506) := ⟨h1_⟩
     have n2_ : Aside0 (w14.heap[gb501]? = some (.cells #[.slice A0_0 l0_0.length c0_0] 56 (0, 0))) := ⟨h2_⟩
     have n3_ : Aside0 (w14.heap[gb502]? = some (.cells #[.slice none 0 0] 56 (0, 0))) := ⟨h3_⟩
     have n4_ : Aside0 (w14.heap[gb515]? = some (.cells #[.slice none 0 0] 56 (0, 0))) := ⟨h4_⟩
     have n5_ : Aside0 (w14.heap[gb516]? = some (.cells #[.slice none 0 0] 56 (0, 0))) := ⟨h5_⟩
     have n6_ : Aside0 (w.heap.size ≤ gb515) := ⟨h6_⟩
     have n7_ : Aside0 (w.heap.size ≤ gb515) := ⟨h7_⟩
     have n8_ : Aside0 (gb501 ≠ gb515) := ⟨h8_⟩
     have n9_ : Aside0 (gb515 ≠ gb501) := ⟨h9_⟩
     have n10_ : Aside0 (gb502 ≠ gb515) := ⟨h10_⟩
     have n11_ : Aside0 (gb515 ≠ gb502) := ⟨h11_⟩
     have n12_ : Aside0 (gb516 ≠ gb515) := ⟨h12_⟩
     have n13_ : Aside0 (gb515 ≠ gb516) := ⟨h13_⟩
     have n14_ : Aside0 (w.heap.size ≤ gb516) := ⟨h14_⟩
     have n15_ : Aside0 (w.heap.size ≤ gb516) := ⟨h15_⟩
     have n16_ : Aside0 (gb501 ≠ gb516) := ⟨h16_⟩
     have n17_ : Aside0 (gb516 ≠ gb501) := ⟨h17_⟩
     have n18_ : Aside0 (gb502 ≠ gb516) := ⟨h18_⟩
     have n19_ : Aside0 (gb516 ≠ gb502) := ⟨h19_⟩
     have n20_ : Aside0 (Below w.heap.size w w14) := ⟨h20_⟩
     clear BK501;clear BK502;clear HB;clear h0_ h1_ h2_ h3_ h4_ h5_ h6_ h7_ h8_ h9_ h10_ h11_ h12_ h13_ h14_ h15_ h16_ h17_ h18_ h19_ h20_;have HO505 := n0_;have HO508 := n1_;have BK501 := n2_;have BK502 := n3_;have BK515 := n4_;have BK516 := n5_;have GW515 := n6_;have GE515 := n7_;have NB501_515 := n8_;have NB515_501 := n9_;have NB502_515 := n10_;have NB515_502 := n11_;have NB516_515 := n12_;have NB515_516 := n13_;have GW516 := n14_;have GE516 := n15_;have NB501_516 := n16_;have NB516_501 := n17_;have NB502_516 := n18_;have NB516_502 := n19_;have HB := n20_;clear n0_ n1_ n2_ n3_ n4_ n5_ n6_ n7_ n8_ n9_ n10_ n11_ n12_ n13_ n14_ n15_ n16_ n17_ n18_ n19_ n20_
     have hHeld : w14.cell? ⟨gb501, 0, none⟩ = some (.slice A0_0 l0_0.length c0_0) := hS_
     obtain ⟨Ao15, co15, eo15⟩ := Kd.R_slice HO508.out
     (first | subst eo15 | (injection eo15 with f1_ f2_ f3_; have f4_ := f1_.symm; have f5_ := f3_.symm; clear f1_ f2_ f3_; subst f4_; subst f5_))
     refine norm_ (a' := ?_) ?_ ?_
     rotate_left
     ·simp only [putAll, Act.put, sI, s0, sS]
      rfl
     refine one_ (i := 4) (N := some 13) #[true, true, true, true, true, false, false, false, true, true, false, false] rfl rfl (one_of HT_.out (by kernel_rfl)) (by decide) (fun K hK => ?_)
     refine goes_ Try.func138 (by kernel_rfl) rfl #[.agg #[.slice A0_0 l0_0.length c0_0], .agg #[.slice Ao15 t506.length co15]] (by rfl) rfl rfl mp_ ?_
     with_reducible refine (trunnionref01_Div.calls k (fun k_ => k_ < w.heap.size) _ _ l0_0 _ _ t506 t509 t512 _ ?side1 ?side2 ?side3 A5.out).mono ?_
     (case side1 => exact Kd.V_mk HC0_0.out (Kd.F_below (Kd.C_F (Kd.heap_int .u64) HR0_0.out) (hb4_ HB.out GE501.out GE502.out GE515.out GE516.out)))
     (case side2 => repeat (first | exact (Kd.R_reads' HO508.out).2.2 | (with_reducible refine Kd.C_alloc ?_ _) | (with_reducible refine Kd.C_drewN ?_ _) | (with_reducible refine Kd.C_drew ?_)))
     (case side3 => exact (Kd.R_reads' HO508.out).2.1)
     rintro e w16 ⟨v510, v513, rfl, ho0, ho1, hb⟩
     refine ⟨_, rfl, ?_⟩
     have n0_ := A_ (Kd.R_elder' (kr_ HO505.out) (Kd.R_base ho0) hb)
     have n1_ := A_ (Kd.R_elder' (kr_ HO508.out) (Kd.R_base ho0) hb)
     have n2_ := A_ (Kd.R_lower (Kd.R_new' (Kd.R_new' (Kd.R_mono (ok' := fun k_ => True) ho0 (fun _ hk_ => trivial)) (Kd.R_lt (kr_ HO505.out))) (Kd.R_lt (kr_ HO508.out))) (below_size (hb4_ HB.out GE501.out GE502.out GE515.out GE516.out)))
     have n3_ := A_ (Kd.V_lower (Kd.V_mono (ok' := fun k_ => some k_ ≠ (v510 : Value).ownBlock ∧ some k_ ≠ (v504 : Value).ownBlock ∧ some k_ ≠ (.slice Ao15 t506.length co15 : Value).ownBlock ∧ k_ ≠ gb501 ∧ k_ ≠ gb502 ∧ k_ ≠ gb515 ∧ k_ ≠ gb516) ho1 (fun k_ hk_ => ⟨hk_.2, Or.elim hk_.1 (fun hs_ => fun e_ => Nat.not_le.2 hs_ (Kd.R_base HO505.out k_ e_.symm)) (fun hn_ => (Kd.fresh' (Kd.R_lt (kr_ HO505.out)) k_ hn_)), Or.elim hk_.1 (fun hs_ => fun e_ => Nat.not_le.2 hs_ (Kd.R_base HO508.out k_ e_.symm)) (fun hn_ => (Kd.fresh' (Kd.R_lt (kr_ HO508.out)) k_ hn_)), Or.elim hk_.1 (fun hs_ => fun e_ => Nat.not_le.2 hs_ (by rw [e_]; exact GW501.out)) (fun hn_ => (Kd.freshB (g := gb501) (o := .cells #[.slice A0_0 l0_0.length c0_0] 56 (0, 0)) (bk_ BK501.out) k_ hn_)), Or.elim hk_.1 (fun hs_ => fun e_ => Nat.not_le.2 hs_ (by rw [e_]; exact GW502.out)) (fun hn_ => (Kd.freshB (g := gb502) (o := .cells #[.slice none 0 0] 56 (0, 0)) (bk_ BK502.out) k_ hn_)), Or.elim hk_.1 (fun hs_ => fun e_ => Nat.not_le.2 hs_ (by rw [e_]; exact GW515.out)) (fun hn_ => (Kd.freshB (g := gb515) (o := .cells #[.slice none 0 0] 56 (0, 0)) (bk_ BK515.out) k_ hn_)), Or.elim hk_.1 (fun hs_ => fun e_ => Nat.not_le.2 hs_ (by rw [e_]; exact GW516.out)) (fun hn_ => (Kd.freshB (g := gb516) (o := .cells #[.slice none 0 0] 56 (0, 0)) (bk_ BK516.out) k_ hn_))⟩)) (below_size (hb4_ HB.out GE501.out GE502.out GE515.out GE516.out)))
     have n4_ := A_ (blk_below (g := gb501) (o := .cells #[.slice A0_0 l0_0.length c0_0] 56 (0, 0)) (bk_ BK501.out) hb)
     have n5_ := A_ (blk_below (g := gb502) (o := .cells #[.slice none 0 0] 56 (0, 0)) (bk_ BK502.out) hb)
     have n6_ := A_ (blk_below (g := gb515) (o := .cells #[.slice none 0 0] 56 (0, 0)) (bk_ BK515.out) hb)
     have n7_ := A_ (blk_below (g := gb516) (o := .cells #[.slice none 0 0] 56 (0, 0)) (bk_ BK516.out) hb)
     have n8_ := A_ (below_step (hb4_ HB.out GE501.out GE502.out GE515.out GE516.out) hb)
     clear HO505;clear HO508;clear BK501;clear BK502;clear BK515;clear BK516;clear HB;have HO505 := n0_;have HO508 := n1_;have HO511 := n2_;have HO514 := n3_;have BK501 := n4_;have BK502 := n5_;have BK515 := n6_;have BK516 := n7_;have HB := n8_;clear n0_ n1_ n2_ n3_ n4_ n5_ n6_ n7_ n8_;(try clear hb);(try clear hb2);(try clear hk);(try clear hi);(try clear ho0);(try clear ho1)
     refine hK.out _ _ ((blk_cell BK501.out 0).trans rfl) (fun hHeld => ?_)
     clear hK K
     refine norm_ (a' := ?_) ?_ ?_
     rotate_left
     ·show Act.put _ (some 13) _ = _
      simp only [Act.put, sI, s0, sS, i64_w, i32_w]
      rfl
     refine pure_ (i := 5) (N := some 8) (v := ?_) (a' := ?_) #[true, true, true, true, true, true, false, false, true, true, false, false] rfl rfl (any_of HT_.out (by kernel_rfl)) (fun _ _ _ h => h) (Or.inl ⟨by rfl, ?_⟩) ?_ ?_
     rotate_left
     ·intro w'
      go_simp
      with_reducible rfl
     rotate_left
     ·simp only [Act.put, sI, s0, sS, i64_w, i32_w]
      rfl
     refine pure_ (i := 6) (N := some 14) (v := ?_) (a' := ?_) #[true, true, true, true, true, true, true, false, true, true, false, false] rfl rfl (any_of HT_.out (by kernel_rfl)) (fun _ _ _ h => h) (Or.inl ⟨by rfl, ?_⟩) ?_ ?_
     rotate_left
     ·intro w'
      go_simp
      with_reducible rfl
     rotate_left
     ·simp only [Act.put, sI, s0, sS, i64_w, i32_w]
      rfl
     refine pure_ (i := 7) (N := some 15) (v := ?_) (a' := ?_) #[true, true, true, true, true, true, true, true, true, true, false, false] rfl rfl (any_of HT_.out (by kernel_rfl)) (fun _ _ _ h => h) (Or.inl ⟨by rfl, ?_⟩) ?_ ?_
     rotate_left
     ·intro w'
      go_simp
      with_reducible rfl
     rotate_left
     ·simp only [Act.put, sI, s0, sS, i64_w, i32_w]
      rfl
     exact norm_ pa_ (hJ1_3_4_8_9 (_, .slice Ao15 t506.length co15, _, _, gb515, gb516) _ ⟨hHeld, (kr_ HO505.out), (kr_ HO508.out), (by (with_reducible repeat (first | apply Kd.R_alloc | apply Kd.R_drewN | apply Kd.R_drew)); exact Kd.R_mono HO511.out (fun _ hk => ⟨hk.1.2, hk.2⟩)), (by (with_reducible repeat (first | apply Kd.V_alloc | apply Kd.V_drewN | apply Kd.V_drew)); exact Kd.V_mono HO514.out (fun _ hk => ⟨hk.2.1, ⟨hk.2.2.1, ⟨hk.1, ⟨hk.2.2.2.1, ⟨hk.2.2.2.2.1, ⟨hk.2.2.2.2.2.1, hk.2.2.2.2.2.2⟩⟩⟩⟩⟩⟩)), (bk_ BK501.out), (bk_ BK502.out), (bk_ BK515.out), (bk_ BK516.out), GW515.out, GE515.out, NB501_515.out, NB515_501.out, NB502_515.out, NB515_502.out, NB516_515.out, NB515_516.out, GW516.out, GE516.out, NB501_516.out, NB516_501.out, NB502_516.out, NB516_502.out, (hb4_ HB.out GE501.out GE502.out GE515.out GE516.out)⟩)
   ·skip
    rintro ⟨v504, v507, v510, v513, gb516⟩ w15 ⟨hS_, h0_, h1_, h2_, h3_, h4_, h5_, h6_, h7_, h8_, h9_, h10_, h11_, h12_, h13_⟩
    have n0_ : Aside0 (Kd.R (Kd.int .u64) 24 w15 w.heap.size (fun k_ => some k_ ≠ (v507 : Value).ownBlock ∧ some k_ ≠ (v510 : Value).ownBlock) v504 t503) := ⟨h0_⟩
    have n1_ : Aside0 (Kd.R (Kd.int .u64) 24 w15 w.heap.size (fun k_ => some k_ ≠ (v504 : Value).ownBlock ∧ some k_ ≠ (v510 : Value).ownBlock) v507 t506) := ⟨h1_⟩
    have n2_ : Aside0 (Kd.R (Kd.int .u64) 24 w15 w.heap.size (fun k_ => some k_ ≠ (v504 : Value).ownBlock ∧ some k_ ≠ (v507 : Value).ownBlock) v510 t509) := ⟨h2_⟩
    have n3_ : Aside0 (Kd.V (Kd.int .u64) 24 w15 w.heap.size (fun k_ => some k_ ≠ (v504 : Value).ownBlock ∧ some k_ ≠ (v507 : Value).ownBlock ∧ some k_ ≠ (v510 : Value).ownBlock ∧ k_ ≠ gb501 ∧ k_ ≠ gb502 ∧ k_ ≠ gb516) v513 t512) := ⟨h3_⟩
    have n4_ : Aside0 (w15.heap[gb501]? = some (.cells #[.slice A0_0 l0_0.length c0_0] 56 (0, 0))) := ⟨h4_⟩
    have n5_ : Aside0 (w15.heap[gb502]? = some (.cells #[.slice none 0 0] 56 (0, 0))) := ⟨h5_⟩
    have n6_ : Aside0 (w15.heap[gb516]? = some (.cells #[.slice none 0 0] 56 (0, 0))) := ⟨h6_⟩
    have n7_ : Aside0 (w.heap.size ≤ gb516) := ⟨h7_⟩
    have n8_ : Aside0 (w.heap.size ≤ gb516) := ⟨h8_⟩
    have n9_ : Aside0 (gb501 ≠ gb516) := ⟨h9_⟩
    have n10_ : Aside0 (gb516 ≠ gb501) := ⟨h10_⟩
    have n11_ : Aside0 (gb502 ≠ gb516) := ⟨h11_⟩
    have n12_ : Aside0 (gb516 ≠ gb502) := ⟨h12_⟩
    have n13_ : Aside0 (Below w.heap.size w w15) := ⟨h13_⟩
    clear BK501;clear BK502;clear HB;clear h0_ h1_ h2_ h3_ h4_ h5_ h6_ h7_ h8_ h9_ h10_ h11_ h12_ h13_;have HO505 := n0_;have HO508 := n1_;have HO511 := n2_;have HO514 := n3_;have BK501 := n4_;have BK502 := n5_;have BK516 := n6_;have GW516 := n7_;have GE516 := n8_;have NB501_516 := n9_;have NB516_501 := n10_;have NB502_516 := n11_;have NB516_502 := n12_;have HB := n13_;clear n0_ n1_ n2_ n3_ n4_ n5_ n6_ n7_ n8_ n9_ n10_ n11_ n12_ n13_
    have hHeld : w15.cell? ⟨gb501, 0, none⟩ = some (.slice A0_0 l0_0.length c0_0) := hS_
    refine norm_ (a' := ?_) ?_ ?_
    rotate_left
    ·simp only [putAll, Act.put, sI, s0, sS]
     rfl
    refine one_ (i := 8) (N := some 6) #[true, true, true, true, true, true, true, true, true, true, false, false] rfl rfl (one_of HT_.out (by kernel_rfl)) (by decide) (fun K hK => ?_)
    refine box_step ?hg (N := 6) ?hd (cs := #[.slice none 0 0]) (t := 56) ?hr ?_; (case hd => rfl); (case hg => rfl); (case hr => first | (go_simp; done) | (go_simp; rfl))
    intro gb515 hg w16 hbox hb
    have n0_ := A_ (Kd.R_below (kr_ HO505.out) hb)
    have n1_ := A_ (Kd.R_below (kr_ HO508.out) hb)
    have n2_ := A_ (Kd.R_below (kr_ HO511.out) hb)
    have n3_ := A_ (Kd.V_below (Kd.V_elderB (kv_ HO514.out) gb515 (Nat.le_of_eq hg.symm)) hb)
    have n4_ := A_ (blk_below (g := gb501) (o := .cells #[.slice A0_0 l0_0.length c0_0] 56 (0, 0)) (bk_ BK501.out) hb)
    have n5_ := A_ (blk_below (g := gb502) (o := .cells #[.slice none 0 0] 56 (0, 0)) (bk_ BK502.out) hb)
    have n6_ := A_ (blk_below (g := gb516) (o := .cells #[.slice none 0 0] 56 (0, 0)) (bk_ BK516.out) hb)
    have n7_ := A_ (below_step (hb3_ HB.out GE501.out GE502.out GE516.out) hb)
    have n8_ := A_ (hbox)
    have n9_ := A_ ((by rw [hg]; exact (below_size (hb3_ HB.out GE501.out GE502.out GE516.out)) : w.heap.size ≤ gb515))
    have n10_ := A_ ((by rw [hg]; exact (below_size (hb3_ HB.out GE501.out GE502.out GE516.out)) : w.heap.size ≤ gb515))
    have n11_ := A_ ((by rw [hg]; exact Nat.ne_of_lt (blk_lt (g := gb501) (o := .cells #[.slice A0_0 l0_0.length c0_0] 56 (0, 0)) (bk_ BK501.out)) : gb501 ≠ gb515))
    have n12_ := A_ ((by rw [hg]; exact Nat.ne_of_gt (blk_lt (g := gb501) (o := .cells #[.slice A0_0 l0_0.length c0_0] 56 (0, 0)) (bk_ BK501.out)) : gb515 ≠ gb501))
    have n13_ := A_ ((by rw [hg]; exact Nat.ne_of_lt (blk_lt (g := gb502) (o := .cells #[.slice none 0 0] 56 (0, 0)) (bk_ BK502.out)) : gb502 ≠ gb515))
    have n14_ := A_ ((by rw [hg]; exact Nat.ne_of_gt (blk_lt (g := gb502) (o := .cells #[.slice none 0 0] 56 (0, 0)) (bk_ BK502.out)) : gb515 ≠ gb502))
    have n15_ := A_ ((by rw [hg]; exact Nat.ne_of_lt (blk_lt (g := gb516) (o := .cells #[.slice none 0 0] 56 (0, 0)) (bk_ BK516.out)) : gb516 ≠ gb515))
    have n16_ := A_ ((by rw [hg]; exact Nat.ne_of_gt (blk_lt (g := gb516) (o := .cells #[.slice none 0 0] 56 (0, 0)) (bk_ BK516.out)) : gb515 ≠ gb516))
    clear HO505;clear HO508;clear HO511;clear HO514;clear BK501;clear BK502;clear BK516;clear HB;have HO505 := n0_;have HO508 := n1_;have HO511 := n2_;have HO514 := n3_;have BK501 := n4_;have BK502 := n5_;have BK516 := n6_;have HB := n7_;have BK515 := n8_;have GW515 := n9_;have GE515 := n10_;have NB501_515 := n11_;have NB515_501 := n12_;have NB502_515 := n13_;have NB515_502 := n14_;have NB516_515 := n15_;have NB515_516 := n16_;clear n0_ n1_ n2_ n3_ n4_ n5_ n6_ n7_ n8_ n9_ n10_ n11_ n12_ n13_ n14_ n15_ n16_;clear hb hbox hg
    refine hK.out _ _ ((blk_cell BK501.out 0).trans rfl) (fun hHeld => ?_)
    clear hK K
    refine norm_ (a' := ?_) ?_ ?_
    rotate_left
    ·show Act.put _ (some 6) _ = _
     simp only [Act.put, sI, s0, sS, i64_w, i32_w]
     rfl
    exact norm_ pa_ (hJ1_3_4_8_9 (_, _, _, _, gb515, gb516) _ ⟨hHeld, (kr_ HO505.out), (kr_ HO508.out), (kr_ HO511.out), (by (with_reducible repeat (first | apply Kd.V_alloc | apply Kd.V_drewN | apply Kd.V_drew)); exact Kd.V_mono HO514.out (fun _ hk => ⟨hk.1.1, ⟨hk.1.2.1, ⟨hk.1.2.2.1, ⟨hk.1.2.2.2.1, ⟨hk.1.2.2.2.2.1, ⟨hk.2, hk.1.2.2.2.2.2⟩⟩⟩⟩⟩⟩)), (bk_ BK501.out), (bk_ BK502.out), (bk_ BK515.out), (bk_ BK516.out), GW515.out, GE515.out, NB501_515.out, NB515_501.out, NB502_515.out, NB515_502.out, NB516_515.out, NB515_516.out, GW516.out, GE516.out, NB501_516.out, NB516_501.out, NB502_516.out, NB516_502.out, (hb4_ HB.out GE501.out GE502.out GE516.out GE515.out)⟩)
  ·skip
   rintro ⟨v504, v507, v510, v513, gb515⟩ w15 ⟨hS_, h0_, h1_, h2_, h3_, h4_, h5_, h6_, h7_, h8_, h9_, h10_, h11_, h12_, h13_⟩
   have n0_ : Aside0 (Kd.R (Kd.int .u64) 24 w15 w.heap.size (fun k_ => some k_ ≠ (v507 : Value).ownBlock ∧ some k_ ≠ (v510 : Value).ownBlock) v504 t503) := ⟨h0_⟩
   have n1_ : Aside0 (Kd.R (Kd.int .u64) 24 w15 w.heap.size (fun k_ => some k_ ≠ (v504 : Value).ownBlock ∧ some k_ ≠ (v510 : Value).ownBlock) v507 t506) := ⟨h1_⟩
   have n2_ : Aside0 (Kd.R (Kd.int .u64) 24 w15 w.heap.size (fun k_ => some k_ ≠ (v504 : Value).ownBlock ∧ some k_ ≠ (v507 : Value).ownBlock) v510 t509) := ⟨h2_⟩
   have n3_ : Aside0 (Kd.V (Kd.int .u64) 24 w15 w.heap.size (fun k_ => some k_ ≠ (v504 : Value).ownBlock ∧ some k_ ≠ (v507 : Value).ownBlock ∧ some k_ ≠ (v510 : Value).ownBlock ∧ k_ ≠ gb501 ∧ k_ ≠ gb502 ∧ k_ ≠ gb515) v513 t512) := ⟨h3_⟩
   have n4_ : Aside0 (w15.heap[gb501]? = some (.cells #[.slice A0_0 l0_0.length c0_0] 56 (0, 0))) := ⟨h4_⟩
   have n5_ : Aside0 (w15.heap[gb502]? = some (.cells #[.slice none 0 0] 56 (0, 0))) := ⟨h5_⟩
   have n6_ : Aside0 (w15.heap[gb515]? = some (.cells #[.slice none 0 0] 56 (0, 0))) := ⟨h6_⟩
   have n7_ : Aside0 (w.heap.size ≤ gb515) := ⟨h7_⟩
   have n8_ : Aside0 (w.heap.size ≤ gb515) := ⟨h8_⟩
   have n9_ : Aside0 (gb501 ≠ gb515) := ⟨h9_⟩
   have n10_ : Aside0 (gb515 ≠ gb501) := ⟨h10_⟩
   have n11_ : Aside0 (gb502 ≠ gb515) := ⟨h11_⟩
   have n12_ : Aside0 (gb515 ≠ gb502) := ⟨h12_⟩
   have n13_ : Aside0 (Below w.heap.size w w15) := ⟨h13_⟩
   clear BK501;clear BK502;clear HB;clear h0_ h1_ h2_ h3_ h4_ h5_ h6_ h7_ h8_ h9_ h10_ h11_ h12_ h13_;have HO505 := n0_;have HO508 := n1_;have HO511 := n2_;have HO514 := n3_;have BK501 := n4_;have BK502 := n5_;have BK515 := n6_;have GW515 := n7_;have GE515 := n8_;have NB501_515 := n9_;have NB515_501 := n10_;have NB502_515 := n11_;have NB515_502 := n12_;have HB := n13_;clear n0_ n1_ n2_ n3_ n4_ n5_ n6_ n7_ n8_ n9_ n10_ n11_ n12_ n13_
   have hHeld : w15.cell? ⟨gb501, 0, none⟩ = some (.slice A0_0 l0_0.length c0_0) := hS_
   refine norm_ (a' := ?_) ?_ ?_
   rotate_left
   ·simp only [putAll, Act.put, sI, s0, sS]
    rfl
   refine one_ (i := 9) (N := some 7) #[true, true, true, true, true, true, true, true, true, true, false, false] rfl rfl (one_of HT_.out (by kernel_rfl)) (by decide) (fun K hK => ?_)
   refine box_step ?hg (N := 7) ?hd (cs := #[.slice none 0 0]) (t := 56) ?hr ?_; (case hd => rfl); (case hg => rfl); (case hr => first | (go_simp; done) | (go_simp; rfl))
   intro gb516 hg w16 hbox hb
   have n0_ := A_ (Kd.R_below (kr_ HO505.out) hb)
   have n1_ := A_ (Kd.R_below (kr_ HO508.out) hb)
   have n2_ := A_ (Kd.R_below (kr_ HO511.out) hb)
   have n3_ := A_ (Kd.V_below (Kd.V_elderB (kv_ HO514.out) gb516 (Nat.le_of_eq hg.symm)) hb)
   have n4_ := A_ (blk_below (g := gb501) (o := .cells #[.slice A0_0 l0_0.length c0_0] 56 (0, 0)) (bk_ BK501.out) hb)
   have n5_ := A_ (blk_below (g := gb502) (o := .cells #[.slice none 0 0] 56 (0, 0)) (bk_ BK502.out) hb)
   have n6_ := A_ (blk_below (g := gb515) (o := .cells #[.slice none 0 0] 56 (0, 0)) (bk_ BK515.out) hb)
   have n7_ := A_ (below_step (hb3_ HB.out GE501.out GE502.out GE515.out) hb)
   have n8_ := A_ (hbox)
   have n9_ := A_ ((by rw [hg]; exact (below_size (hb3_ HB.out GE501.out GE502.out GE515.out)) : w.heap.size ≤ gb516))
   have n10_ := A_ ((by rw [hg]; exact (below_size (hb3_ HB.out GE501.out GE502.out GE515.out)) : w.heap.size ≤ gb516))
   have n11_ := A_ ((by rw [hg]; exact Nat.ne_of_lt (blk_lt (g := gb501) (o := .cells #[.slice A0_0 l0_0.length c0_0] 56 (0, 0)) (bk_ BK501.out)) : gb501 ≠ gb516))
   have n12_ := A_ ((by rw [hg]; exact Nat.ne_of_gt (blk_lt (g := gb501) (o := .cells #[.slice A0_0 l0_0.length c0_0] 56 (0, 0)) (bk_ BK501.out)) : gb516 ≠ gb501))
   have n13_ := A_ ((by rw [hg]; exact Nat.ne_of_lt (blk_lt (g := gb502) (o := .cells #[.slice none 0 0] 56 (0, 0)) (bk_ BK502.out)) : gb502 ≠ gb516))
   have n14_ := A_ ((by rw [hg]; exact Nat.ne_of_gt (blk_lt (g := gb502) (o := .cells #[.slice none 0 0] 56 (0, 0)) (bk_ BK502.out)) : gb516 ≠ gb502))
   have n15_ := A_ ((by rw [hg]; exact Nat.ne_of_lt (blk_lt (g := gb515) (o := .cells #[.slice none 0 0] 56 (0, 0)) (bk_ BK515.out)) : gb515 ≠ gb516))
   have n16_ := A_ ((by rw [hg]; exact Nat.ne_of_gt (blk_lt (g := gb515) (o := .cells #[.slice none 0 0] 56 (0, 0)) (bk_ BK515.out)) : gb516 ≠ gb515))
   clear HO505;clear HO508;clear HO511;clear HO514;clear BK501;clear BK502;clear BK515;clear HB;have HO505 := n0_;have HO508 := n1_;have HO511 := n2_;have HO514 := n3_;have BK501 := n4_;have BK502 := n5_;have BK515 := n6_;have HB := n7_;have BK516 := n8_;have GW516 := n9_;have GE516 := n10_;have NB501_516 := n11_;have NB516_501 := n12_;have NB502_516 := n13_;have NB516_502 := n14_;have NB515_516 := n15_;have NB516_515 := n16_;clear n0_ n1_ n2_ n3_ n4_ n5_ n6_ n7_ n8_ n9_ n10_ n11_ n12_ n13_ n14_ n15_ n16_;clear hb hbox hg
   refine hK.out _ _ ((blk_cell BK501.out 0).trans rfl) (fun hHeld => ?_)
   clear hK K
   refine norm_ (a' := ?_) ?_ ?_
   rotate_left
   ·show Act.put _ (some 7) _ = _
    simp only [Act.put, sI, s0, sS, i64_w, i32_w]
    rfl
   exact norm_ pa_ (hJ1_3_4_8_9 (_, _, _, _, gb515, gb516) _ ⟨hHeld, (kr_ HO505.out), (kr_ HO508.out), (kr_ HO511.out), (by (with_reducible repeat (first | apply Kd.V_alloc | apply Kd.V_drewN | apply Kd.V_drew)); exact Kd.V_mono HO514.out (fun _ hk => ⟨hk.1.1, ⟨hk.1.2.1, ⟨hk.1.2.2.1, ⟨hk.1.2.2.2.1, ⟨hk.1.2.2.2.2.1, ⟨hk.1.2.2.2.2.2, hk.2⟩⟩⟩⟩⟩⟩)), (bk_ BK501.out), (bk_ BK502.out), (bk_ BK515.out), (bk_ BK516.out), GW515.out, GE515.out, NB501_515.out, NB515_501.out, NB502_515.out, NB515_502.out, NB516_515.out, NB515_516.out, GW516.out, GE516.out, NB501_516.out, NB516_501.out, NB502_516.out, NB516_502.out, (hb4_ HB.out GE501.out GE502.out GE515.out GE516.out)⟩)
 rintro ⟨v504, v507, v510, v513, gb515, gb516⟩ w16 ⟨hS_, h0_, h1_, h2_, h3_, h4_, h5_, h6_, h7_, h8_, h9_, h10_, h11_, h12_, h13_, h14_, h15_, h16_, h17_, h18_, h19_, h20_, h21_, h22_⟩
 have n0_ : Aside0 (Kd.R (Kd.int .u64) 24 w16 w.heap.size (fun k_ => some k_ ≠ (v507 : Value).ownBlock ∧ some k_ ≠ (v510 : Value).ownBlock) v504 t503) := ⟨h0_⟩
 have n1_ : Aside0 (Kd.R (Kd.int .u64) 24 w16 w.heap.size (fun k_ => some k_ ≠ (v504 : Value).ownBlock ∧ some k_ ≠ (v510 : Value).ownBlock) v507 t506) := ⟨h1_⟩
 have n2_ : Aside0 (Kd.R (Kd.int .u64) 24 w16 w.heap.size (fun k_ => some k_ ≠ (v504 : Value).ownBlock ∧ some k_ ≠ (v507 : Value).ownBlock) v510 t509) := ⟨h2_⟩
 have n3_ : Aside0 (Kd.V (Kd.int .u64) 24 w16 w.heap.size (fun k_ => some k_ ≠ (v504 : Value).ownBlock ∧ some k_ ≠ (v507 : Value).ownBlock ∧ some k_ ≠ (v510 : Value).ownBlock ∧ k_ ≠ gb501 ∧ k_ ≠ gb502 ∧ k_ ≠ gb515 ∧ k_ ≠ gb516) v513 t512) := ⟨h3_⟩
 have n4_ : Aside0 (w16.heap[gb501]? = some (.cells #[.slice A0_0 l0_0.length c0_0] 56 (0, 0))) := ⟨h4_⟩
 have n5_ : Aside0 (w16.heap[gb502]? = some (.cells #[.slice none 0 0] 56 (0, 0))) := ⟨h5_⟩
 have n6_ : Aside0 (w16.heap[gb515]? = some (.cells #[.slice none 0 0] 56 (0, 0))) := ⟨h6_⟩
 have n7_ : Aside0 (w16.heap[gb516]? = some (.cells #[.slice none 0 0] 56 (0, 0))) := ⟨h7_⟩
 have n8_ : Aside0 (w.heap.size ≤ gb515) := ⟨h8_⟩
 have n9_ : Aside0 (w.heap.size ≤ gb515) := ⟨h9_⟩
 have n10_ : Aside0 (gb501 ≠ gb515) := ⟨h10_⟩
 have n11_ : Aside0 (gb515 ≠ gb501) := ⟨h11_⟩
 have n12_ : Aside0 (gb502 ≠ gb515) := ⟨h12_⟩
 have n13_ : Aside0 (gb515 ≠ gb502) := ⟨h13_⟩
 have n14_ : Aside0 (gb516 ≠ gb515) := ⟨h14_⟩
 have n15_ : Aside0 (gb515 ≠ gb516) := ⟨h15_⟩
 have n16_ : Aside0 (w.heap.size ≤ gb516) := ⟨h16_⟩
 have n17_ : Aside0 (w.heap.size ≤ gb516) := ⟨h17_⟩
 have n18_ : Aside0 (gb501 ≠ gb516) := ⟨h18_⟩
 have n19_ : Aside0 (gb516 ≠ gb501) := ⟨h19_⟩
 have n20_ : Aside0 (gb502 ≠ gb516) := ⟨h20_⟩
 have n21_ : Aside0 (gb516 ≠ gb502) := ⟨h21_⟩
 have n22_ : Aside0 (Below w.heap.size w w16) := ⟨h22_⟩
 clear BK501;clear BK502;clear HB;clear h0_ h1_ h2_ h3_ h4_ h5_ h6_ h7_ h8_ h9_ h10_ h11_ h12_ h13_ h14_ h15_ h16_ h17_ h18_ h19_ h20_ h21_ h22_;have HO505 := n0_;have HO508 := n1_;have HO511 := n2_;have HO514 := n3_;have BK501 := n4_;have BK502 := n5_;have BK515 := n6_;have BK516 := n7_;have GW515 := n8_;have GE515 := n9_;have NB501_515 := n10_;have NB515_501 := n11_;have NB502_515 := n12_;have NB515_502 := n13_;have NB516_515 := n14_;have NB515_516 := n15_;have GW516 := n16_;have GE516 := n17_;have NB501_516 := n18_;have NB516_501 := n19_;have NB502_516 := n20_;have NB516_502 := n21_;have HB := n22_;clear n0_ n1_ n2_ n3_ n4_ n5_ n6_ n7_ n8_ n9_ n10_ n11_ n12_ n13_ n14_ n15_ n16_ n17_ n18_ n19_ n20_ n21_ n22_
 have hHeld : w16.cell? ⟨gb501, 0, none⟩ = some (.slice A0_0 l0_0.length c0_0) := hS_
 obtain ⟨Ao17, co17, eo17⟩ := Kd.R_slice HO511.out
 (first | subst eo17 | (injection eo17 with f1_ f2_ f3_; have f4_ := f1_.symm; have f5_ := f3_.symm; clear f1_ f2_ f3_; subst f4_; subst f5_))
 obtain ⟨Ao19, co19, eo19⟩ := Kd.V_slice HO514.out
 (first | subst eo19 | (injection eo19 with f1_ f2_ f3_; have f4_ := f1_.symm; have f5_ := f3_.symm; clear f1_ f2_ f3_; subst f4_; subst f5_))
 refine norm_ (a' := ?_) ?_ ?_
 rotate_left
 ·simp only [putAll, Act.put, sI, s0, sS]
  rfl
 refine one_ (i := 10) (N := none) #[true, true, true, true, true, true, true, true, true, true, true, false] rfl rfl (one_of HT_.out (by kernel_rfl)) (by decide) (fun K hK => ?_)
 have hs18 : w16.cell? ⟨gb515, 0, none⟩ = some (.slice none 0 0) := (blk_cell BK515.out 0).trans rfl
 have hfs18 := blk_frozen BK515.out 0
 have hns18_0 := NB501_515.out
 have hns18_1 := NB502_515.out
 have hns18_3 := NB516_515.out
 have hms18_0 := NB515_501.out
 have hms18_1 := NB515_502.out
 have hms18_3 := NB515_516.out
 refine skip_ (w1 := ?_) (by rfl) rfl ?_ ?_
 rotate_left
 ·go_simp
  rfl
 refine hK.out _ _ (((cell_far (p := ⟨gb515, _, none⟩) NB501_515.out _).trans (hHeld))) (fun hHeld => ?_)
 clear hK K
 refine one_ (i := 11) (N := none) #[true, true, true, true, true, true, true, true, true, true, true, true] rfl rfl (one_of HT_.out (by kernel_rfl)) (by decide) (fun K hK => ?_)
 have hs20 : w16.cell? ⟨gb516, 0, none⟩ = some (.slice none 0 0) := (blk_cell BK516.out 0).trans rfl
 have hfs20 := blk_frozen BK516.out 0
 have hns20_0 := NB501_516.out
 have hns20_1 := NB502_516.out
 have hns20_2 := NB515_516.out
 have hms20_0 := NB516_501.out
 have hms20_1 := NB516_502.out
 have hms20_2 := NB516_515.out
 refine skip_ (w1 := ?_) (by rfl) rfl ?_ ?_
 rotate_left
 ·go_simp
  rfl
 refine hK.out _ _ (((cell_far (p := ⟨gb516, _, none⟩) NB501_516.out _).trans (hHeld))) (fun hHeld => ?_)
 clear hK K
 refine done_ (done_of HT_.out (by kernel_rfl)) ?_
 try go_wp2
 have n0_ : Aside0 (Kd.R (Kd.int .u64) 24 ((w16.setCell ⟨gb515, 0, none⟩ (.slice Ao17 t509.length co17)).setCell ⟨gb516, 0, none⟩ (.slice Ao19 t512.length co19)) w.heap.size (fun k_ => some k_ ≠ (v507 : Value).ownBlock ∧ some k_ ≠ (.slice Ao17 t509.length co17 : Value).ownBlock) v504 t503) := ⟨by (with_reducible repeat (first | apply Kd.R_alloc | apply Kd.R_drewN | apply Kd.R_drew)); exact Kd.R_mono (Kd.R_far (p := ⟨gb516, 0, none⟩) (Kd.R_far (p := ⟨gb515, 0, none⟩) (Kd.R_types (Kd.R_types HO505.out BK515.out (by decide)) BK516.out (by decide)) (fun _ hk => hk.1.2) (.slice Ao17 t509.length co17)) (fun _ hk => hk.2) (.slice Ao19 t512.length co19)) (fun _ hk => ⟨hk.1.1.1, hk.1.1.2⟩)⟩
 have n1_ : Aside0 (Kd.R (Kd.int .u64) 24 ((w16.setCell ⟨gb515, 0, none⟩ (.slice Ao17 t509.length co17)).setCell ⟨gb516, 0, none⟩ (.slice Ao19 t512.length co19)) w.heap.size (fun k_ => some k_ ≠ (v504 : Value).ownBlock ∧ some k_ ≠ (.slice Ao17 t509.length co17 : Value).ownBlock) v507 t506) := ⟨by (with_reducible repeat (first | apply Kd.R_alloc | apply Kd.R_drewN | apply Kd.R_drew)); exact Kd.R_mono (Kd.R_far (p := ⟨gb516, 0, none⟩) (Kd.R_far (p := ⟨gb515, 0, none⟩) (Kd.R_types (Kd.R_types HO508.out BK515.out (by decide)) BK516.out (by decide)) (fun _ hk => hk.1.2) (.slice Ao17 t509.length co17)) (fun _ hk => hk.2) (.slice Ao19 t512.length co19)) (fun _ hk => ⟨hk.1.1.1, hk.1.1.2⟩)⟩
 have n2_ : Aside0 (Kd.R (Kd.int .u64) 24 ((w16.setCell ⟨gb515, 0, none⟩ (.slice Ao17 t509.length co17)).setCell ⟨gb516, 0, none⟩ (.slice Ao19 t512.length co19)) w.heap.size (fun k_ => some k_ ≠ (v504 : Value).ownBlock ∧ some k_ ≠ (v507 : Value).ownBlock) (.slice Ao17 t509.length co17) t509) := ⟨by (with_reducible repeat (first | apply Kd.R_alloc | apply Kd.R_drewN | apply Kd.R_drew)); exact Kd.R_mono (Kd.R_far (p := ⟨gb516, 0, none⟩) (Kd.R_far (p := ⟨gb515, 0, none⟩) (Kd.R_types (Kd.R_types HO511.out BK515.out (by decide)) BK516.out (by decide)) (fun _ hk => hk.1.2) (.slice Ao17 t509.length co17)) (fun _ hk => hk.2) (.slice Ao19 t512.length co19)) (fun _ hk => ⟨hk.1.1.1, hk.1.1.2⟩)⟩
 have n3_ : Aside0 (Kd.V (Kd.int .u64) 24 ((w16.setCell ⟨gb515, 0, none⟩ (.slice Ao17 t509.length co17)).setCell ⟨gb516, 0, none⟩ (.slice Ao19 t512.length co19)) w.heap.size (fun k_ => some k_ ≠ (v504 : Value).ownBlock ∧ some k_ ≠ (v507 : Value).ownBlock ∧ some k_ ≠ (.slice Ao17 t509.length co17 : Value).ownBlock ∧ k_ ≠ gb501 ∧ k_ ≠ gb502 ∧ k_ ≠ gb515 ∧ k_ ≠ gb516) (.slice Ao19 t512.length co19) t512) := ⟨by (with_reducible repeat (first | apply Kd.V_alloc | apply Kd.V_drewN | apply Kd.V_drew)); exact Kd.V_mono (Kd.V_far (p := ⟨gb516, 0, none⟩) (Kd.V_far (p := ⟨gb515, 0, none⟩) (Kd.V_mono (Kd.V_mono HO514.out (fun k_ hk => (⟨hk, hk.2.2.2.2.2.1⟩ : _ ∧ k_ ≠ gb515))) (fun k_ hk => (⟨hk, hk.1.2.2.2.2.2.2⟩ : _ ∧ k_ ≠ gb516))) (fun _ hk => hk.1.2) (.slice Ao17 t509.length co17)) (fun _ hk => hk.2) (.slice Ao19 t512.length co19)) (fun _ hk => ⟨hk.1.1.1, ⟨hk.1.1.2.1, ⟨hk.1.1.2.2.1, ⟨hk.1.1.2.2.2.1, ⟨hk.1.1.2.2.2.2.1, ⟨hk.1.1.2.2.2.2.2.1, hk.1.1.2.2.2.2.2.2⟩⟩⟩⟩⟩⟩)⟩
 have n4_ : Aside0 (((w16.setCell ⟨gb515, 0, none⟩ (.slice Ao17 t509.length co17)).setCell ⟨gb516, 0, none⟩ (.slice Ao19 t512.length co19)).heap[gb501]? = some (.cells #[.slice A0_0 l0_0.length c0_0] 56 (0, 0))) := ⟨bf2_ BK501.out NB501_516.out NB501_515.out⟩
 have n5_ : Aside0 (((w16.setCell ⟨gb515, 0, none⟩ (.slice Ao17 t509.length co17)).setCell ⟨gb516, 0, none⟩ (.slice Ao19 t512.length co19)).heap[gb502]? = some (.cells #[.slice none 0 0] 56 (0, 0))) := ⟨bf2_ BK502.out NB502_516.out NB502_515.out⟩
 have n6_ : Aside0 (((w16.setCell ⟨gb515, 0, none⟩ (.slice Ao17 t509.length co17)).setCell ⟨gb516, 0, none⟩ (.slice Ao19 t512.length co19)).heap[gb515]? = some (.cells #[.slice Ao17 t509.length co17] 56 (0, 0))) := ⟨by (with_reducible repeat (first | refine blk_drewN ?_ _ | refine blk_drew ?_ | refine blk_alloc ?_ _)); refine blk_far ?_ NB515_516.out _; (with_reducible repeat (first | refine blk_drewN ?_ _ | refine blk_drew ?_ | refine blk_alloc ?_ _)); refine blk_put (cs := #[.slice none 0 0]) ?_ 0 _ rfl; (with_reducible repeat (first | refine blk_drewN ?_ _ | refine blk_drew ?_ | refine blk_alloc ?_ _)); exact BK515.out⟩
 have n7_ : Aside0 (((w16.setCell ⟨gb515, 0, none⟩ (.slice Ao17 t509.length co17)).setCell ⟨gb516, 0, none⟩ (.slice Ao19 t512.length co19)).heap[gb516]? = some (.cells #[.slice Ao19 t512.length co19] 56 (0, 0))) := ⟨by (with_reducible repeat (first | refine blk_drewN ?_ _ | refine blk_drew ?_ | refine blk_alloc ?_ _)); refine blk_put (cs := #[.slice none 0 0]) ?_ 0 _ rfl; (with_reducible repeat (first | refine blk_drewN ?_ _ | refine blk_drew ?_ | refine blk_alloc ?_ _)); refine blk_far ?_ NB516_515.out _; (with_reducible repeat (first | refine blk_drewN ?_ _ | refine blk_drew ?_ | refine blk_alloc ?_ _)); exact BK516.out⟩
 have n8_ : Aside0 (Below w.heap.size w ((w16.setCell ⟨gb515, 0, none⟩ (.slice Ao17 t509.length co17)).setCell ⟨gb516, 0, none⟩ (.slice Ao19 t512.length co19))) := ⟨hb4_ HB.out GE501.out GE502.out GE515.out GE516.out⟩
 (try clear HO505);(try clear HO508);(try clear HO511);(try clear HO514);(try clear BK501);(try clear BK502);(try clear BK515);(try clear BK516);(try clear HB)
 generalize ((w16.setCell ⟨gb515, 0, none⟩ (.slice Ao17 t509.length co17)).setCell ⟨gb516, 0, none⟩ (.slice Ao19 t512.length co19)) = w21 at n0_ n1_ n2_ n3_ n4_ n5_ n6_ n7_ n8_ ⊢
 have HO505 := n0_;have HO508 := n1_;have HO511 := n2_;have HO514 := n3_;have BK501 := n4_;have BK502 := n5_;have BK515 := n6_;have BK516 := n7_;have HB := n8_;clear n0_ n1_ n2_ n3_ n4_ n5_ n6_ n7_ n8_
 have n0_ := A_ (Kd.R_drew HO505.out)
 have n1_ := A_ (Kd.R_drew HO508.out)
 have n2_ := A_ (Kd.R_drew HO511.out)
 have n3_ := A_ (Kd.V_drew HO514.out)
 have n4_ := A_ (blk_drew BK501.out)
 have n5_ := A_ (blk_drew BK502.out)
 have n6_ := A_ (blk_drew BK515.out)
 have n7_ := A_ (blk_drew BK516.out)
 have n8_ := A_ (below_drew1 HB.out)
 clear HO505;clear HO508;clear HO511;clear HO514;clear BK501;clear BK502;clear BK515;clear BK516;clear HB;have HO505 := n0_;have HO508 := n1_;have HO511 := n2_;have HO514 := n3_;have BK501 := n4_;have BK502 := n5_;have BK515 := n6_;have BK516 := n7_;have HB := n8_;clear n0_ n1_ n2_ n3_ n4_ n5_ n6_ n7_ n8_
 refine start_ (n := 7) (S := fun w' => w'.cell? ⟨gb515, 0, none⟩ = some (.slice Ao17 t509.length co17) ∧ w'.cell? ⟨gb516, 0, none⟩ = some (.slice Ao19 t512.length co19)) (ds := []) #[false, false, false, false, false, false, false] (by kernel_rfl) rfl rfl ⟨(blk_cell BK515.out 0).trans rfl, (blk_cell BK516.out 0).trans rfl⟩ (fun hHeld => ?_)
 generalize w21.drew = w22 at HO505 HO508 HO511 HO514 BK501 BK502 BK515 BK516 HB hHeld ⊢
 refine pure_ (i := 1) (N := some 17) (v := ?_) (a' := ?_) #[false, true, false, false, false, false, false] rfl rfl (by kernel_rfl) (fun _ _ _ h => h) (Or.inl ⟨by rfl, ?_⟩) ?_ ?_
 rotate_left
 ·intro w'
  go_simp
  with_reducible rfl
 rotate_left
 ·simp only [Act.put, sI, s0, sS, i64_w, i32_w]
  rfl
 refine take_ (i := 0) (N := some 16) (v := ?_) (a' := ?_) #[true, true, false, false, false, false, false] rfl rfl (by kernel_rfl) (fun _ _ _ h => h) (Or.inl ⟨by rfl, ?_⟩) hHeld ?_ ?_
 rotate_left
 ·rintro w' ⟨s0, s1⟩
  go_simp
  with_reducible rfl
 rotate_left
 ·simp only [Act.put, sI, s0, sS, i64_w, i32_w]
  rfl
 refine take_ (i := 2) (N := some 18) (v := ?_) (a' := ?_) #[true, true, true, false, false, false, false] rfl rfl (by kernel_rfl) (fun _ _ _ h => h) (Or.inl ⟨by rfl, ?_⟩) hHeld ?_ ?_
 rotate_left
 ·rintro w' ⟨s0, s1⟩
  go_simp
  with_reducible rfl
 rotate_left
 ·simp only [Act.put, sI, s0, sS, i64_w, i32_w]
  rfl
 refine pure_ (i := 3) (N := some 19) (v := ?_) (a' := ?_) #[true, true, true, true, false, false, false] rfl rfl (by kernel_rfl) (fun _ _ _ h => h) (Or.inl ⟨by rfl, ?_⟩) ?_ ?_
 rotate_left
 ·intro w'
  go_simp
  with_reducible rfl
 rotate_left
 ·simp only [Act.put, sI, s0, sS, i64_w, i32_w]
  rfl
 refine pure_ (i := 4) (N := some 20) (v := ?_) (a' := ?_) #[true, true, true, true, true, false, false] rfl rfl (by kernel_rfl) (fun _ _ _ h => h) (Or.inl ⟨by rfl, ?_⟩) ?_ ?_
 rotate_left
 ·intro w'
  go_simp
  with_reducible rfl
 rotate_left
 ·simp only [Act.put, sI, s0, sS, i64_w, i32_w]
  rfl
 refine one_ (i := 5) (N := none) #[true, true, true, true, true, true, false] rfl rfl (by kernel_rfl) (by decide) (fun K hK => ?_)
 have hs23 : w22.cell? ⟨gb502, 0, none⟩ = some (.slice none 0 0) := (blk_cell BK502.out 0).trans rfl
 have hfs23 := blk_frozen BK502.out 0
 have hns23_0 := NB501_502.out
 have hns23_2 := NB515_502.out
 have hns23_3 := NB516_502.out
 have hms23_0 := NB502_501.out
 have hms23_2 := NB502_515.out
 have hms23_3 := NB502_516.out
 refine skip_ (w1 := ?_) (by rfl) rfl ?_ ?_
 rotate_left
 ·go_simp
  rfl
 refine hK.out _ _ ⟨((cell_far (p := ⟨gb502, _, none⟩) NB515_502.out _).trans (hHeld.1)), ((cell_far (p := ⟨gb502, _, none⟩) NB516_502.out _).trans (hHeld.2))⟩ (fun hHeld => ?_)
 clear hK K
 refine pure_ (i := 6) (N := some 5) (v := ?_) (a' := ?_) #[true, true, true, true, true, true, true] rfl rfl (by kernel_rfl) (fun _ _ _ h => h) (Or.inl ⟨by rfl, ?_⟩) ?_ ?_
 rotate_left
 ·intro w'
  go_simp
  with_reducible rfl
 rotate_left
 ·simp only [Act.put, sI, s0, sS, i64_w, i32_w]
  rfl
 refine done_ (by kernel_rfl) ?_
 try go_wp2
 refine bodyPost_ret (results_ct rfl _ _ gb502 56 #[.slice Ao17 t509.length co17] (0, 0) _ rfl (by (with_reducible repeat (first | refine blk_drewN ?_ _ | refine blk_drew ?_ | refine blk_alloc ?_ _)); refine blk_put (cs := #[.slice none 0 0]) ?_ 0 _ rfl; (with_reducible repeat (first | refine blk_drewN ?_ _ | refine blk_drew ?_ | refine blk_alloc ?_ _)); exact BK502.out) Try.underlying56 rfl (by kernel_rfl)) rfl ?_
 exact ⟨_, by first | rfl | (simp [errW_none, errW_some] <;> rfl) | (simp [*, errW_none, errW_some] <;> rfl), by (with_reducible repeat (first | apply Kd.R_alloc | apply Kd.R_drewN | apply Kd.R_drew)); exact Kd.R_mono (Kd.R_far (p := ⟨gb502, 0, none⟩) (Kd.R_types HO511.out BK502.out (by decide)) (fun _ hk => hk.2) (.slice Ao17 t509.length co17)) (fun _ hk => trivial), hb4_ HB.out GE501.out GE502.out GE515.out GE516.out⟩
def trunnionref02_B.f (a0 : Int) : Option (Int) := if a0 = 32 then (some 127) else (some 1023)
theorem trunnionref02_B.calls (a0 : Int) (r : Int) (w : World) (h : trunnionref02_B.f a0 = some r) :
  Calls Try.prog 94 #[.int .i64 a0] w fun e w' => e = .returned (.int .i64 r) ∧ Drawn0 w w' := by
 have H : (if a0 = 32 then (some 127) else (some 1023)) = some r := h
 clear h
 by_cases c2 : a0 = 32
 ·rw [if_pos c2] at H
  have c2b0 : (a0 == 32) = true := beq_iff_eq.mpr c2
  have c2b1 : (a0 != 32) = false := bne_eq_false_iff_eq.mpr c2
  clear c2
  obtain rfl := Option.some.inj H
  go_enter Try.func94, Try.ntmps94
  go_wp2
  go_ret
  exact ⟨sm_, by repeat (first | exact Drawn0.refl _ | apply Drawn0.step)⟩
 ·rw [if_neg c2] at H
  have c2b0 : (a0 == 32) = false := beq_eq_false_iff_ne.mpr c2
  have c2b1 : (a0 != 32) = true := bne_iff_ne.mpr c2
  obtain rfl := Option.some.inj H
  go_enter Try.func94, Try.ntmps94
  go_wp2
  go_ret
  exact ⟨sm_, by repeat (first | exact Drawn0.refl _ | apply Drawn0.step)⟩
def trunnionref03_Low.f (a0 : Int) : Option (Int) := (trunnionref02_B.f a0).bind fun t452 => ((trunnionref02_F.f a0).bind fun t453 => (some (wrap64 ((wrap64 (1 - t452)) - t453))))
theorem trunnionref03_Low.calls (a0 : Int) (r : Int) (w : World) (h : trunnionref03_Low.f a0 = some r) :
  Calls Try.prog 157 #[.int .i64 a0] w fun e w' => e = .returned (.int .i64 r) ∧ Drawn0 w w' := by
 have H : ((trunnionref02_B.f a0).bind fun t452 => ((trunnionref02_F.f a0).bind fun t453 => (some (wrap64 ((wrap64 (1 - t452)) - t453))))) = some r := h
 clear h
 replace H := Option.bind_eq_some_iff.mp H
 obtain ⟨t452, A20, H⟩ := H
 replace H : ((trunnionref02_F.f a0).bind fun t453 => (some (wrap64 ((wrap64 (1 - t452)) - t453)))) = some r := H
 have A2 := A_ A20;clear A20
 replace H := Option.bind_eq_some_iff.mp H
 obtain ⟨t453, A30, H⟩ := H
 replace H : (some (wrap64 ((wrap64 (1 - t452)) - t453))) = some r := H
 have A3 := A_ A30;clear A30
 obtain rfl := Option.some.inj H
 go_enter Try.func157, Try.ntmps157
 go_wp2_with (first | ((with_reducible refine gate_callee (f := 94) rfl ?_); refine goesL_ (some 4) rfl rfl Try.func94 (by kernel_rfl) rfl #[.int .i64 a0] rfl mp_ ?_; (with_reducible refine (trunnionref02_B.calls a0 t452 _ A2.out).mono ?_); rintro e w' ⟨rfl, ⟨nd, rfl⟩⟩; refine ⟨_, rfl, ?_⟩) | ((with_reducible refine gate_callee (f := 130) rfl ?_); refine goesL_ (some 7) rfl rfl Try.func130 (by kernel_rfl) rfl #[.int .i64 a0] rfl mp_ ?_; (with_reducible refine (trunnionref02_F.calls a0 t453 _ A3.out).mono ?_); rintro e w' ⟨rfl, ⟨nd, rfl⟩⟩; refine ⟨_, rfl, ?_⟩))
 go_ret
 exact ⟨sm_, by repeat (first | exact Drawn0.refl _ | apply Drawn0.step)⟩
def trunnionref03_Quotient.j0 : Nat → Bool → List Int → Option (List Int)
 | 0, _, _ => none
 | k + 1, x29, x474000 => if x29 = true then ((trunnionref01_Of.f k 1).bind fun t480 => ((trunnionref01_Add.f k x474000 t480).bind fun t483 => (some t483))) else (some x474000)
def trunnionref03_Quotient.f (k : Nat) (l0_0 : List Int) (l1_0 : List Int) : Option (List Int) := (trunnionref01_Div.f k l0_0 l1_0).bind fun bt467 => ((trunnionref01_Shl.f k bt467.2 1).bind fun t475 => ((trunnionref01_Cmp.f k t475 l1_0).bind fun t478 => (if t478 > 0 then (trunnionref03_Quotient.j0 k true bt467.1) else (if t478 = 0 then ((trunnionref01_Uint.f bt467.1).bind fun t479 => (trunnionref03_Quotient.j0 k ((Int.tmod t479 2) == 1) bt467.1)) else (trunnionref03_Quotient.j0 k false bt467.1)))))
theorem trunnionref03_Quotient.mono_l : ∀ k, (∀ y0 y1, LeO (trunnionref03_Quotient.j0 k y0 y1) (trunnionref03_Quotient.j0 (k + 1) y0 y1))
 | 0 => fun _ _ r h => by simp [trunnionref03_Quotient.j0] at h
 | k + 1 => by
  have ih0 := trunnionref03_Quotient.mono_l k
  ·intro y0 y1
   unfold trunnionref03_Quotient.j0
   repeat' first
   | (with_reducible exact ih0 _ _)
   | (with_reducible exact trunnionref01_Add.mono _ _ _)
   | (with_reducible exact trunnionref01_Cmp.mono _ _ _)
   | (with_reducible exact trunnionref01_Div.mono _ _ _)
   | (with_reducible exact trunnionref01_Of.mono _ _)
   | (with_reducible exact trunnionref01_Shl.mono _ _ _)
   | (with_reducible exact LeO.refl _)
   | (with_reducible exact LeO.none _)
   | (with_reducible refine LeO.ite ?_ ?_)
   | (with_reducible refine LeO.bind ?_ (fun _ => ?_))
   | exact ih0 _ _
   | exact trunnionref01_Add.mono _ _ _
   | exact trunnionref01_Cmp.mono _ _ _
   | exact trunnionref01_Div.mono _ _ _
   | exact trunnionref01_Of.mono _ _
   | exact trunnionref01_Shl.mono _ _ _
   | exact LeO.none _
   | refine LeO.ite ?_ ?_
   | refine LeO.bind ?_ (fun _ => ?_)
theorem trunnionref03_Quotient.mono : ∀ a0 a1 k, LeO (trunnionref03_Quotient.f k a0 a1) (trunnionref03_Quotient.f (k + 1) a0 a1) := by
 intro a0 a1 k
 have ih0 := trunnionref03_Quotient.mono_l k
 unfold trunnionref03_Quotient.f
 repeat' first
   | (with_reducible exact ih0 _ _)
   | (with_reducible exact trunnionref01_Add.mono _ _ _)
   | (with_reducible exact trunnionref01_Cmp.mono _ _ _)
   | (with_reducible exact trunnionref01_Div.mono _ _ _)
   | (with_reducible exact trunnionref01_Of.mono _ _)
   | (with_reducible exact trunnionref01_Shl.mono _ _ _)
   | (with_reducible exact LeO.refl _)
   | (with_reducible exact LeO.none _)
   | (with_reducible refine LeO.ite ?_ ?_)
   | (with_reducible refine LeO.bind ?_ (fun _ => ?_))
   | exact ih0 _ _
   | exact trunnionref01_Add.mono _ _ _
   | exact trunnionref01_Cmp.mono _ _ _
   | exact trunnionref01_Div.mono _ _ _
   | exact trunnionref01_Of.mono _ _
   | exact trunnionref01_Shl.mono _ _ _
   | exact LeO.none _
   | refine LeO.ite ?_ ?_
   | refine LeO.bind ?_ (fun _ => ?_)
theorem trunnionref03_Quotient.calls (k : Nat) (A0_0 : Option Addr) (c0_0 : Nat) (l0_0 : List Int) (A1_0 : Option Addr) (c1_0 : Nat) (l1_0 : List Int) (r : List Int) (w : World) (hr0_0 : Kd.C (Kd.int .u64) w A0_0 l0_0.length l0_0) (hc0_0 : l0_0.length ≤ c0_0) (hr1_0 : Kd.C (Kd.int .u64) w A1_0 l1_0.length l1_0) (hc1_0 : l1_0.length ≤ c1_0) (h : trunnionref03_Quotient.f k l0_0 l1_0 = some r) :
  Calls Try.prog 175 #[.agg #[.slice A0_0 l0_0.length c0_0], .agg #[.slice A1_0 l1_0.length c1_0]] w fun e w' => ∃ v0_ : Value, e = .returned (.agg #[v0_]) ∧ Kd.R (Kd.int .u64) 24 w' w.heap.size (fun _ => True) v0_ r ∧ Below w.heap.size w w' := by
 have hu56 := Try.underlying56
 have HR0_0 := A_ hr0_0;have HC0_0 := A_ hc0_0;clear hr0_0 hc0_0;have HR1_0 := A_ hr1_0;have HC1_0 := A_ hc1_0;clear hr1_0 hc1_0
 have HB := A_ (Below.refl w.heap.size w)
 have H : ((trunnionref01_Div.f k l0_0 l1_0).bind fun bt467 => ((trunnionref01_Shl.f k bt467.2 1).bind fun t475 => ((trunnionref01_Cmp.f k t475 l1_0).bind fun t478 => (if t478 > 0 then (trunnionref03_Quotient.j0 k true bt467.1) else (if t478 = 0 then ((trunnionref01_Uint.f bt467.1).bind fun t479 => (trunnionref03_Quotient.j0 k ((Int.tmod t479 2) == 1) bt467.1)) else (trunnionref03_Quotient.j0 k false bt467.1)))))) = some r := h
 clear h
 replace H := Option.bind_eq_some_iff.mp H
 obtain ⟨⟨t467, t470⟩, A30, H⟩ := H
 replace H : ((trunnionref01_Shl.f k t470 1).bind fun t475 => ((trunnionref01_Cmp.f k t475 l1_0).bind fun t478 => (if t478 > 0 then (trunnionref03_Quotient.j0 k true t467) else (if t478 = 0 then ((trunnionref01_Uint.f t467).bind fun t479 => (trunnionref03_Quotient.j0 k ((Int.tmod t479 2) == 1) t467)) else (trunnionref03_Quotient.j0 k false t467))))) = some r := H
 have A3 := A_ A30;clear A30
 replace H := Option.bind_eq_some_iff.mp H
 obtain ⟨t475, A40, H⟩ := H
 replace H : ((trunnionref01_Cmp.f k t475 l1_0).bind fun t478 => (if t478 > 0 then (trunnionref03_Quotient.j0 k true t467) else (if t478 = 0 then ((trunnionref01_Uint.f t467).bind fun t479 => (trunnionref03_Quotient.j0 k ((Int.tmod t479 2) == 1) t467)) else (trunnionref03_Quotient.j0 k false t467)))) = some r := H
 have A4 := A_ A40;clear A40
 replace H := Option.bind_eq_some_iff.mp H
 obtain ⟨t478, A50, H⟩ := H
 replace H : (if t478 > 0 then (trunnionref03_Quotient.j0 k true t467) else (if t478 = 0 then ((trunnionref01_Uint.f t467).bind fun t479 => (trunnionref03_Quotient.j0 k ((Int.tmod t479 2) == 1) t467)) else (trunnionref03_Quotient.j0 k false t467))) = some r := H
 have A5 := A_ A50;clear A50;have HC6 := A_ H;clear H
 go_enter Try.func175, Try.ntmps175
 try go_wp2_with (first | ((with_reducible refine gate_dst (N := 2) rfl ?_); refine box_event ?hg (N := 2) ?hd (cs := #[.slice A0_0 l0_0.length c0_0]) (t := 56) ?hr ?_; (case hd => rfl); (case hg => rfl); (case hr => first | (go_simp; done) | (go_simp; rfl)); intro gb464 hg w7 hbox hb; have n0_ := A_ (below_step (hb_ HB.out) hb); have n1_ := A_ (hbox); have n2_ := A_ ((by rw [hg]; exact (below_size (hb_ HB.out)) : w.heap.size ≤ gb464)); have n3_ := A_ ((by rw [hg]; exact (below_size (hb_ HB.out)) : w.heap.size ≤ gb464)); clear HB; have HB := n0_; have BK464 := n1_; have GW464 := n2_; have GE464 := n3_; clear n0_ n1_ n2_ n3_; clear hb hbox hg) | ((with_reducible refine gate_dst (N := 3) rfl ?_); refine box_event ?hg (N := 3) ?hd (cs := #[.slice A1_0 l1_0.length c1_0]) (t := 56) ?hr ?_; (case hd => rfl); (case hg => rfl); (case hr => first | (go_simp; done) | (go_simp; rfl)); intro gb465 hg w8 hbox hb; have n0_ := A_ (blk_below (g := gb464) (o := .cells #[.slice A0_0 l0_0.length c0_0] 56 (0, 0)) (bk_ BK464.out) hb); have n1_ := A_ (below_step (hb1_ HB.out GE464.out) hb); have n2_ := A_ (hbox); have n3_ := A_ ((by rw [hg]; exact (below_size (hb1_ HB.out GE464.out)) : w.heap.size ≤ gb465)); have n4_ := A_ ((by rw [hg]; exact (below_size (hb1_ HB.out GE464.out)) : w.heap.size ≤ gb465)); have n5_ := A_ ((by rw [hg]; exact Nat.ne_of_lt (blk_lt (g := gb464) (o := .cells #[.slice A0_0 l0_0.length c0_0] 56 (0, 0)) (bk_ BK464.out)) : gb464 ≠ gb465)); have n6_ := A_ ((by rw [hg]; exact Nat.ne_of_gt (blk_lt (g := gb464) (o := .cells #[.slice A0_0 l0_0.length c0_0] 56 (0, 0)) (bk_ BK464.out)) : gb465 ≠ gb464)); clear BK464; clear HB; have BK464 := n0_; have HB := n1_; have BK465 := n2_; have GW465 := n3_; have GE465 := n4_; have NB464_465 := n5_; have NB465_464 := n6_; clear n0_ n1_ n2_ n3_ n4_ n5_ n6_; clear hb hbox hg) | ((with_reducible refine gate_dst (N := 4) rfl ?_); refine box_event ?hg (N := 4) ?hd (cs := #[.slice none 0 0]) (t := 56) ?hr ?_; (case hd => rfl); (case hg => rfl); (case hr => first | (go_simp; done) | (go_simp; rfl)); intro gb466 hg w9 hbox hb; have n0_ := A_ (blk_below (g := gb464) (o := .cells #[.slice A0_0 l0_0.length c0_0] 56 (0, 0)) (bk_ BK464.out) hb); have n1_ := A_ (blk_below (g := gb465) (o := .cells #[.slice A1_0 l1_0.length c1_0] 56 (0, 0)) (bk_ BK465.out) hb); have n2_ := A_ (below_step (hb2_ HB.out GE464.out GE465.out) hb); have n3_ := A_ (hbox); have n4_ := A_ ((by rw [hg]; exact (below_size (hb2_ HB.out GE464.out GE465.out)) : w.heap.size ≤ gb466)); have n5_ := A_ ((by rw [hg]; exact (below_size (hb2_ HB.out GE464.out GE465.out)) : w.heap.size ≤ gb466)); have n6_ := A_ ((by rw [hg]; exact Nat.ne_of_lt (blk_lt (g := gb464) (o := .cells #[.slice A0_0 l0_0.length c0_0] 56 (0, 0)) (bk_ BK464.out)) : gb464 ≠ gb466)); have n7_ := A_ ((by rw [hg]; exact Nat.ne_of_gt (blk_lt (g := gb464) (o := .cells #[.slice A0_0 l0_0.length c0_0] 56 (0, 0)) (bk_ BK464.out)) : gb466 ≠ gb464)); have n8_ := A_ ((by rw [hg]; exact Nat.ne_of_lt (blk_lt (g := gb465) (o := .cells #[.slice A1_0 l1_0.length c1_0] 56 (0, 0)) (bk_ BK465.out)) : gb465 ≠ gb466)); have n9_ := A_ ((by rw [hg]; exact Nat.ne_of_gt (blk_lt (g := gb465) (o := .cells #[.slice A1_0 l1_0.length c1_0] 56 (0, 0)) (bk_ BK465.out)) : gb466 ≠ gb465)); clear BK464; clear BK465; clear HB; have BK464 := n0_; have BK465 := n1_; have HB := n2_; have BK466 := n3_; have GW466 := n4_; have GE466 := n5_; have NB464_466 := n6_; have NB466_464 := n7_; have NB465_466 := n8_; have NB466_465 := n9_; clear n0_ n1_ n2_ n3_ n4_ n5_ n6_ n7_ n8_ n9_; clear hb hbox hg; have hnb10 := NB464_465.out; have hnc10 := NB465_464.out; have hnb11 := NB464_466.out; have hnc11 := NB466_464.out; have hcz12_0 : w9.cell? ⟨gb464, 0, none⟩ = some (.slice A0_0 l0_0.length c0_0) := (blk_cell BK464.out 0).trans rfl; have hfz12_0 := blk_frozen BK464.out 0; have hnb13 := NB465_466.out; have hnc13 := NB466_465.out; have hcz14_0 : w9.cell? ⟨gb465, 0, none⟩ = some (.slice A1_0 l1_0.length c1_0) := (blk_cell BK465.out 0).trans rfl; have hfz14_0 := blk_frozen BK465.out 0) | ((with_reducible refine gate_callee (f := 138) rfl ?_); refine goesL_ (some 11) rfl rfl Try.func138 (by kernel_rfl) rfl #[.agg #[.slice A0_0 l0_0.length c0_0], .agg #[.slice A1_0 l1_0.length c1_0]] rfl mp_ ?_; (with_reducible refine (trunnionref01_Div.calls k (fun k_ => k_ < w.heap.size) _ _ l0_0 _ _ l1_0 t467 t470 _ ?side1 ?side2 ?side3 A3.out).mono ?_); (case side1 => exact Kd.V_mk HC0_0.out (Kd.F_below (Kd.C_F (Kd.heap_int .u64) HR0_0.out) (hb3_ HB.out GE464.out GE465.out GE466.out))); (case side2 => repeat (first | exact (Kd.C_below HR1_0.out HB.out) | (with_reducible refine Kd.C_alloc ?_ _) | (with_reducible refine Kd.C_drewN ?_ _) | (with_reducible refine Kd.C_drew ?_))); (case side3 => exact HC1_0.out); rintro e w15 ⟨v468, v471, rfl, ho0, ho1, hb⟩; refine ⟨_, rfl, ?_⟩; have n0_ := A_ (Kd.R_lower (Kd.R_mono (ok' := fun k_ => True) ho0 (fun _ hk_ => trivial)) (below_size (hb3_ HB.out GE464.out GE465.out GE466.out))); have n1_ := A_ (Kd.V_lower (Kd.V_mono (ok' := fun k_ => some k_ ≠ (v468 : Value).ownBlock ∧ k_ ≠ gb464 ∧ k_ ≠ gb465 ∧ k_ ≠ gb466) ho1 (fun k_ hk_ => ⟨hk_.2, Or.elim hk_.1 (fun hs_ => fun e_ => Nat.not_le.2 hs_ (by rw [e_]; exact GW464.out)) (fun hn_ => (Kd.freshB (g := gb464) (o := .cells #[.slice A0_0 l0_0.length c0_0] 56 (0, 0)) (bk_ BK464.out) k_ hn_)), Or.elim hk_.1 (fun hs_ => fun e_ => Nat.not_le.2 hs_ (by rw [e_]; exact GW465.out)) (fun hn_ => (Kd.freshB (g := gb465) (o := .cells #[.slice A1_0 l1_0.length c1_0] 56 (0, 0)) (bk_ BK465.out) k_ hn_)), Or.elim hk_.1 (fun hs_ => fun e_ => Nat.not_le.2 hs_ (by rw [e_]; exact GW466.out)) (fun hn_ => (Kd.freshB (g := gb466) (o := .cells #[.slice none 0 0] 56 (0, 0)) (bk_ BK466.out) k_ hn_))⟩)) (below_size (hb3_ HB.out GE464.out GE465.out GE466.out))); have n2_ := A_ (blk_below (g := gb464) (o := .cells #[.slice A0_0 l0_0.length c0_0] 56 (0, 0)) (bk_ BK464.out) hb); have n3_ := A_ (blk_below (g := gb465) (o := .cells #[.slice A1_0 l1_0.length c1_0] 56 (0, 0)) (bk_ BK465.out) hb); have n4_ := A_ (blk_below (g := gb466) (o := .cells #[.slice none 0 0] 56 (0, 0)) (bk_ BK466.out) hb); have n5_ := A_ (below_step (hb3_ HB.out GE464.out GE465.out GE466.out) hb); clear BK464; clear BK465; clear BK466; clear HB; have HO469 := n0_; have HO472 := n1_; have BK464 := n2_; have BK465 := n3_; have BK466 := n4_; have HB := n5_; clear n0_ n1_ n2_ n3_ n4_ n5_; (try clear hb); (try clear hb2); (try clear hk); (try clear hi); (try clear ho0); (try clear ho1)) | ((with_reducible refine gate_dst (N := 5) rfl ?_); refine box_event ?hg (N := 5) ?hd (cs := #[.slice none 0 0]) (t := 56) ?hr ?_; (case hd => rfl); (case hg => rfl); (case hr => first | (go_simp; done) | (go_simp; rfl)); intro gb473 hg w16 hbox hb; have n0_ := A_ (Kd.R_below (kr_ HO469.out) hb); have n1_ := A_ (Kd.V_below (Kd.V_elderB (kv_ HO472.out) gb473 (Nat.le_of_eq hg.symm)) hb); have n2_ := A_ (blk_below (g := gb464) (o := .cells #[.slice A0_0 l0_0.length c0_0] 56 (0, 0)) (bk_ BK464.out) hb); have n3_ := A_ (blk_below (g := gb465) (o := .cells #[.slice A1_0 l1_0.length c1_0] 56 (0, 0)) (bk_ BK465.out) hb); have n4_ := A_ (blk_below (g := gb466) (o := .cells #[.slice none 0 0] 56 (0, 0)) (bk_ BK466.out) hb); have n5_ := A_ (below_step (hb3_ HB.out GE464.out GE465.out GE466.out) hb); have n6_ := A_ (hbox); have n7_ := A_ ((by rw [hg]; exact (below_size (hb3_ HB.out GE464.out GE465.out GE466.out)) : w.heap.size ≤ gb473)); have n8_ := A_ ((by rw [hg]; exact (below_size (hb3_ HB.out GE464.out GE465.out GE466.out)) : w.heap.size ≤ gb473)); have n9_ := A_ ((by rw [hg]; exact Nat.ne_of_lt (blk_lt (g := gb464) (o := .cells #[.slice A0_0 l0_0.length c0_0] 56 (0, 0)) (bk_ BK464.out)) : gb464 ≠ gb473)); have n10_ := A_ ((by rw [hg]; exact Nat.ne_of_gt (blk_lt (g := gb464) (o := .cells #[.slice A0_0 l0_0.length c0_0] 56 (0, 0)) (bk_ BK464.out)) : gb473 ≠ gb464)); have n11_ := A_ ((by rw [hg]; exact Nat.ne_of_lt (blk_lt (g := gb465) (o := .cells #[.slice A1_0 l1_0.length c1_0] 56 (0, 0)) (bk_ BK465.out)) : gb465 ≠ gb473)); have n12_ := A_ ((by rw [hg]; exact Nat.ne_of_gt (blk_lt (g := gb465) (o := .cells #[.slice A1_0 l1_0.length c1_0] 56 (0, 0)) (bk_ BK465.out)) : gb473 ≠ gb465)); have n13_ := A_ ((by rw [hg]; exact Nat.ne_of_lt (blk_lt (g := gb466) (o := .cells #[.slice none 0 0] 56 (0, 0)) (bk_ BK466.out)) : gb466 ≠ gb473)); have n14_ := A_ ((by rw [hg]; exact Nat.ne_of_gt (blk_lt (g := gb466) (o := .cells #[.slice none 0 0] 56 (0, 0)) (bk_ BK466.out)) : gb473 ≠ gb466)); clear HO469; clear HO472; clear BK464; clear BK465; clear BK466; clear HB; have HO469 := n0_; have HO472 := n1_; have BK464 := n2_; have BK465 := n3_; have BK466 := n4_; have HB := n5_; have BK473 := n6_; have GW473 := n7_; have GE473 := n8_; have NB464_473 := n9_; have NB473_464 := n10_; have NB465_473 := n11_; have NB473_465 := n12_; have NB466_473 := n13_; have NB473_466 := n14_; clear n0_ n1_ n2_ n3_ n4_ n5_ n6_ n7_ n8_ n9_ n10_ n11_ n12_ n13_ n14_; clear hb hbox hg) | ((with_reducible refine gate_dst (N := 6) rfl ?_); refine box_event ?hg (N := 6) ?hd (cs := #[.slice none 0 0]) (t := 56) ?hr ?_; (case hd => rfl); (case hg => rfl); (case hr => first | (go_simp; done) | (go_simp; rfl)); intro gb474 hg w17 hbox hb; have n0_ := A_ (Kd.R_below (kr_ HO469.out) hb); have n1_ := A_ (Kd.V_below (Kd.V_elderB (kv_ HO472.out) gb474 (Nat.le_of_eq hg.symm)) hb); have n2_ := A_ (blk_below (g := gb464) (o := .cells #[.slice A0_0 l0_0.length c0_0] 56 (0, 0)) (bk_ BK464.out) hb); have n3_ := A_ (blk_below (g := gb465) (o := .cells #[.slice A1_0 l1_0.length c1_0] 56 (0, 0)) (bk_ BK465.out) hb); have n4_ := A_ (blk_below (g := gb466) (o := .cells #[.slice none 0 0] 56 (0, 0)) (bk_ BK466.out) hb); have n5_ := A_ (blk_below (g := gb473) (o := .cells #[.slice none 0 0] 56 (0, 0)) (bk_ BK473.out) hb); have n6_ := A_ (below_step (hb4_ HB.out GE464.out GE465.out GE466.out GE473.out) hb); have n7_ := A_ (hbox); have n8_ := A_ ((by rw [hg]; exact (below_size (hb4_ HB.out GE464.out GE465.out GE466.out GE473.out)) : w.heap.size ≤ gb474)); have n9_ := A_ ((by rw [hg]; exact (below_size (hb4_ HB.out GE464.out GE465.out GE466.out GE473.out)) : w.heap.size ≤ gb474)); have n10_ := A_ ((by rw [hg]; exact Nat.ne_of_lt (blk_lt (g := gb464) (o := .cells #[.slice A0_0 l0_0.length c0_0] 56 (0, 0)) (bk_ BK464.out)) : gb464 ≠ gb474)); have n11_ := A_ ((by rw [hg]; exact Nat.ne_of_gt (blk_lt (g := gb464) (o := .cells #[.slice A0_0 l0_0.length c0_0] 56 (0, 0)) (bk_ BK464.out)) : gb474 ≠ gb464)); have n12_ := A_ ((by rw [hg]; exact Nat.ne_of_lt (blk_lt (g := gb465) (o := .cells #[.slice A1_0 l1_0.length c1_0] 56 (0, 0)) (bk_ BK465.out)) : gb465 ≠ gb474)); have n13_ := A_ ((by rw [hg]; exact Nat.ne_of_gt (blk_lt (g := gb465) (o := .cells #[.slice A1_0 l1_0.length c1_0] 56 (0, 0)) (bk_ BK465.out)) : gb474 ≠ gb465)); have n14_ := A_ ((by rw [hg]; exact Nat.ne_of_lt (blk_lt (g := gb466) (o := .cells #[.slice none 0 0] 56 (0, 0)) (bk_ BK466.out)) : gb466 ≠ gb474)); have n15_ := A_ ((by rw [hg]; exact Nat.ne_of_gt (blk_lt (g := gb466) (o := .cells #[.slice none 0 0] 56 (0, 0)) (bk_ BK466.out)) : gb474 ≠ gb466)); have n16_ := A_ ((by rw [hg]; exact Nat.ne_of_lt (blk_lt (g := gb473) (o := .cells #[.slice none 0 0] 56 (0, 0)) (bk_ BK473.out)) : gb473 ≠ gb474)); have n17_ := A_ ((by rw [hg]; exact Nat.ne_of_gt (blk_lt (g := gb473) (o := .cells #[.slice none 0 0] 56 (0, 0)) (bk_ BK473.out)) : gb474 ≠ gb473)); clear HO469; clear HO472; clear BK464; clear BK465; clear BK466; clear BK473; clear HB; have HO469 := n0_; have HO472 := n1_; have BK464 := n2_; have BK465 := n3_; have BK466 := n4_; have BK473 := n5_; have HB := n6_; have BK474 := n7_; have GW474 := n8_; have GE474 := n9_; have NB464_474 := n10_; have NB474_464 := n11_; have NB465_474 := n12_; have NB474_465 := n13_; have NB466_474 := n14_; have NB474_466 := n15_; have NB473_474 := n16_; have NB474_473 := n17_; clear n0_ n1_ n2_ n3_ n4_ n5_ n6_ n7_ n8_ n9_ n10_ n11_ n12_ n13_ n14_ n15_ n16_ n17_; clear hb hbox hg; obtain ⟨Ao18, co18, eo18⟩ := Kd.R_slice HO469.out; subst eo18; have hnb19 := NB473_464.out; have hnc19 := NB464_473.out; have hnb20 := NB473_465.out; have hnc20 := NB465_473.out; have hnb21 := NB473_466.out; have hnc21 := NB466_473.out; have hnb22 := NB473_474.out; have hnc22 := NB474_473.out; have hcz23_0 : w17.cell? ⟨gb473, 0, none⟩ = some (.slice none 0 0) := (blk_cell BK473.out 0).trans rfl; have hfz23_0 := blk_frozen BK473.out 0; obtain ⟨Ao24, co24, eo24⟩ := Kd.V_slice HO472.out; subst eo24; have hnb25 := NB474_464.out; have hnc25 := NB464_474.out; have hnb26 := NB474_465.out; have hnc26 := NB465_474.out; have hnb27 := NB474_466.out; have hnc27 := NB466_474.out; have hcz28_0 : w17.cell? ⟨gb474, 0, none⟩ = some (.slice none 0 0) := (blk_cell BK474.out 0).trans rfl; have hfz28_0 := blk_frozen BK474.out 0))
 have n0_ : Aside0 (Kd.R (Kd.int .u64) 24 ((w17.setCell ⟨gb473, 0, none⟩ (.slice Ao18 t467.length co18)).setCell ⟨gb474, 0, none⟩ (.slice Ao24 t470.length co24)) w.heap.size (fun _ => True) (.slice Ao18 t467.length co18) t467) := ⟨by (with_reducible repeat (first | apply Kd.R_alloc | apply Kd.R_drewN | apply Kd.R_drew)); exact Kd.R_mono (Kd.R_far (p := ⟨gb474, 0, none⟩) (Kd.R_far (p := ⟨gb473, 0, none⟩) (Kd.R_types (Kd.R_types HO469.out BK473.out (by decide)) BK474.out (by decide)) (fun _ hk => hk.1.2) (.slice Ao18 t467.length co18)) (fun _ hk => hk.2) (.slice Ao24 t470.length co24)) (fun _ hk => trivial)⟩
 have n1_ : Aside0 (Kd.V (Kd.int .u64) 24 ((w17.setCell ⟨gb473, 0, none⟩ (.slice Ao18 t467.length co18)).setCell ⟨gb474, 0, none⟩ (.slice Ao24 t470.length co24)) w.heap.size (fun k_ => some k_ ≠ (.slice Ao18 t467.length co18 : Value).ownBlock ∧ k_ ≠ gb464 ∧ k_ ≠ gb465 ∧ k_ ≠ gb466 ∧ k_ ≠ gb473 ∧ k_ ≠ gb474) (.slice Ao24 t470.length co24) t470) := ⟨by (with_reducible repeat (first | apply Kd.V_alloc | apply Kd.V_drewN | apply Kd.V_drew)); exact Kd.V_mono (Kd.V_far (p := ⟨gb474, 0, none⟩) (Kd.V_far (p := ⟨gb473, 0, none⟩) (Kd.V_mono (Kd.V_mono HO472.out (fun k_ hk => (⟨hk, hk.1.2⟩ : _ ∧ k_ ≠ gb473))) (fun k_ hk => (⟨hk, hk.1.2⟩ : _ ∧ k_ ≠ gb474))) (fun _ hk => hk.1.2) (.slice Ao18 t467.length co18)) (fun _ hk => hk.2) (.slice Ao24 t470.length co24)) (fun _ hk => ⟨hk.1.1.1.1.1, ⟨hk.1.1.1.1.2.1, ⟨hk.1.1.1.1.2.2.1, ⟨hk.1.1.1.1.2.2.2, ⟨hk.1.1.1.2, hk.1.1.2⟩⟩⟩⟩⟩)⟩
 have n2_ : Aside0 (((w17.setCell ⟨gb473, 0, none⟩ (.slice Ao18 t467.length co18)).setCell ⟨gb474, 0, none⟩ (.slice Ao24 t470.length co24)).heap[gb464]? = some (.cells #[.slice A0_0 l0_0.length c0_0] 56 (0, 0))) := ⟨bf2_ BK464.out NB464_474.out NB464_473.out⟩
 have n3_ : Aside0 (((w17.setCell ⟨gb473, 0, none⟩ (.slice Ao18 t467.length co18)).setCell ⟨gb474, 0, none⟩ (.slice Ao24 t470.length co24)).heap[gb465]? = some (.cells #[.slice A1_0 l1_0.length c1_0] 56 (0, 0))) := ⟨bf2_ BK465.out NB465_474.out NB465_473.out⟩
 have n4_ : Aside0 (((w17.setCell ⟨gb473, 0, none⟩ (.slice Ao18 t467.length co18)).setCell ⟨gb474, 0, none⟩ (.slice Ao24 t470.length co24)).heap[gb466]? = some (.cells #[.slice none 0 0] 56 (0, 0))) := ⟨bf2_ BK466.out NB466_474.out NB466_473.out⟩
 have n5_ : Aside0 (((w17.setCell ⟨gb473, 0, none⟩ (.slice Ao18 t467.length co18)).setCell ⟨gb474, 0, none⟩ (.slice Ao24 t470.length co24)).heap[gb473]? = some (.cells #[.slice Ao18 t467.length co18] 56 (0, 0))) := ⟨by (with_reducible repeat (first | refine blk_drewN ?_ _ | refine blk_drew ?_ | refine blk_alloc ?_ _)); refine blk_far ?_ NB473_474.out _; (with_reducible repeat (first | refine blk_drewN ?_ _ | refine blk_drew ?_ | refine blk_alloc ?_ _)); refine blk_put (cs := #[.slice none 0 0]) ?_ 0 _ rfl; (with_reducible repeat (first | refine blk_drewN ?_ _ | refine blk_drew ?_ | refine blk_alloc ?_ _)); exact BK473.out⟩
 have n6_ : Aside0 (((w17.setCell ⟨gb473, 0, none⟩ (.slice Ao18 t467.length co18)).setCell ⟨gb474, 0, none⟩ (.slice Ao24 t470.length co24)).heap[gb474]? = some (.cells #[.slice Ao24 t470.length co24] 56 (0, 0))) := ⟨by (with_reducible repeat (first | refine blk_drewN ?_ _ | refine blk_drew ?_ | refine blk_alloc ?_ _)); refine blk_put (cs := #[.slice none 0 0]) ?_ 0 _ rfl; (with_reducible repeat (first | refine blk_drewN ?_ _ | refine blk_drew ?_ | refine blk_alloc ?_ _)); refine blk_far ?_ NB474_473.out _; (with_reducible repeat (first | refine blk_drewN ?_ _ | refine blk_drew ?_ | refine blk_alloc ?_ _)); exact BK474.out⟩
 have n7_ : Aside0 (Below w.heap.size w ((w17.setCell ⟨gb473, 0, none⟩ (.slice Ao18 t467.length co18)).setCell ⟨gb474, 0, none⟩ (.slice Ao24 t470.length co24))) := ⟨by repeat (first | (with_reducible first | exact HB.out | apply below_alloc | apply pw_below_drewN | apply below_drew1 | refine below_set ?_ GE464.out | refine below_set ?_ GE465.out | refine below_set ?_ GE466.out | refine below_set ?_ GE473.out | refine below_set ?_ GE474.out) | exact HB.out)⟩
 (try clear HO469);(try clear HO472);(try clear BK464);(try clear BK465);(try clear BK466);(try clear BK473);(try clear BK474);(try clear HB)
 generalize ((w17.setCell ⟨gb473, 0, none⟩ (.slice Ao18 t467.length co18)).setCell ⟨gb474, 0, none⟩ (.slice Ao24 t470.length co24)) = w29 at n0_ n1_ n2_ n3_ n4_ n5_ n6_ n7_ ⊢
 have HO469 := n0_;have HO472 := n1_;have BK464 := n2_;have BK465 := n3_;have BK466 := n4_;have BK473 := n5_;have BK474 := n6_;have HB := n7_;clear n0_ n1_ n2_ n3_ n4_ n5_ n6_ n7_
 have n0_ := A_ (Kd.R_drew HO469.out)
 have n1_ := A_ (Kd.V_drew HO472.out)
 have n2_ := A_ (blk_drew BK464.out)
 have n3_ := A_ (blk_drew BK465.out)
 have n4_ := A_ (blk_drew BK466.out)
 have n5_ := A_ (blk_drew BK473.out)
 have n6_ := A_ (blk_drew BK474.out)
 have n7_ := A_ (below_drew1 HB.out)
 clear HO469;clear HO472;clear BK464;clear BK465;clear BK466;clear BK473;clear BK474;clear HB;have HO469 := n0_;have HO472 := n1_;have BK464 := n2_;have BK465 := n3_;have BK466 := n4_;have BK473 := n5_;have BK474 := n6_;have HB := n7_;clear n0_ n1_ n2_ n3_ n4_ n5_ n6_ n7_
 refine start_ (n := 5) (S := fun w' => w'.cell? ⟨gb474, 0, none⟩ = some (.slice Ao24 t470.length co24) ∧ w'.cell? ⟨gb465, 0, none⟩ = some (.slice A1_0 l1_0.length c1_0)) (ds := []) #[false, false, false, false, false] (by kernel_rfl) rfl rfl ⟨(blk_cell BK474.out 0).trans rfl, (blk_cell BK465.out 0).trans rfl⟩ (fun hHeld => ?_)
 generalize w29.drew = w30 at HO469 HO472 BK464 BK465 BK466 BK473 BK474 HB hHeld ⊢
 refine take_ (i := 0) (N := some 14) (v := ?_) (a' := ?_) #[true, false, false, false, false] rfl rfl (by kernel_rfl) (fun _ _ _ h => h) (Or.inl ⟨by rfl, ?_⟩) hHeld ?_ ?_
 rotate_left
 ·rintro w' ⟨s0, s1⟩
  go_simp
  with_reducible rfl
 rotate_left
 ·simp only [Act.put, sI, s0, sS, i64_w, i32_w]
  rfl
 refine take_ (i := 2) (N := some 16) (v := ?_) (a' := ?_) #[true, false, true, false, false] rfl rfl (by kernel_rfl) (fun _ _ _ h => h) (Or.inl ⟨by rfl, ?_⟩) hHeld ?_ ?_
 rotate_left
 ·rintro w' ⟨s0, s1⟩
  go_simp
  with_reducible rfl
 rotate_left
 ·simp only [Act.put, sI, s0, sS, i64_w, i32_w]
  rfl
 refine one_ (i := 1) (N := some 15) #[true, true, true, false, false] rfl rfl (by kernel_rfl) (by decide) (fun K hK => ?_)
 refine goes_ Try.func103 (by kernel_rfl) rfl #[.agg #[.slice Ao24 t470.length co24], .int .i64 1] (by rfl) rfl rfl mp_ ?_
 with_reducible refine (trunnionref01_Shl.calls k _ _ t470 1 t475 _ ?side1 ?side2 A4.out).mono ?_
 (case side1 => repeat (first | exact (Kd.V_reads' HO472.out).2.2 | (with_reducible refine Kd.C_alloc ?_ _) | (with_reducible refine Kd.C_drewN ?_ _) | (with_reducible refine Kd.C_drew ?_)))
 (case side2 => exact (Kd.V_reads' HO472.out).2.1)
 rintro e w31 ⟨v476, rfl, ho0, hb⟩
 refine ⟨_, rfl, ?_⟩
 have n0_ := A_ (Kd.R_elder' (kr_ HO469.out) (Kd.R_base ho0) hb)
 have n1_ := A_ (Kd.V_elder' (kv_ HO472.out) (Kd.R_base ho0) hb)
 have n2_ := A_ (Kd.R_lower (Kd.R_new' ho0 (Kd.R_lt (kr_ HO469.out))) (below_size (by repeat (first | (with_reducible first | exact HB.out | apply below_alloc | apply pw_below_drewN | apply below_drew1 | refine below_set ?_ GE464.out | refine below_set ?_ GE465.out | refine below_set ?_ GE466.out | refine below_set ?_ GE473.out | refine below_set ?_ GE474.out) | exact HB.out))))
 have n3_ := A_ (blk_below (g := gb464) (o := .cells #[.slice A0_0 l0_0.length c0_0] 56 (0, 0)) (bk_ BK464.out) hb)
 have n4_ := A_ (blk_below (g := gb465) (o := .cells #[.slice A1_0 l1_0.length c1_0] 56 (0, 0)) (bk_ BK465.out) hb)
 have n5_ := A_ (blk_below (g := gb466) (o := .cells #[.slice none 0 0] 56 (0, 0)) (bk_ BK466.out) hb)
 have n6_ := A_ (blk_below (g := gb473) (o := .cells #[.slice Ao18 t467.length co18] 56 (0, 0)) (bk_ BK473.out) hb)
 have n7_ := A_ (blk_below (g := gb474) (o := .cells #[.slice Ao24 t470.length co24] 56 (0, 0)) (bk_ BK474.out) hb)
 have n8_ := A_ (below_step (by repeat (first | (with_reducible first | exact HB.out | apply below_alloc | apply pw_below_drewN | apply below_drew1 | refine below_set ?_ GE464.out | refine below_set ?_ GE465.out | refine below_set ?_ GE466.out | refine below_set ?_ GE473.out | refine below_set ?_ GE474.out) | exact HB.out)) hb)
 clear HO469;clear HO472;clear BK464;clear BK465;clear BK466;clear BK473;clear BK474;clear HB;have HO469 := n0_;have HO472 := n1_;have HO477 := n2_;have BK464 := n3_;have BK465 := n4_;have BK466 := n5_;have BK473 := n6_;have BK474 := n7_;have HB := n8_;clear n0_ n1_ n2_ n3_ n4_ n5_ n6_ n7_ n8_;(try clear hb);(try clear hb2);(try clear hk);(try clear hi);(try clear ho0)
 obtain ⟨Ao32, co32, eo32⟩ := Kd.R_slice HO477.out
 (first | subst eo32 | (injection eo32 with f1_ f2_ f3_; have f4_ := f1_.symm; have f5_ := f3_.symm; clear f1_ f2_ f3_; subst f4_; subst f5_))
 refine hK.out _ _ ⟨(blk_cell BK474.out 0).trans rfl, (blk_cell BK465.out 0).trans rfl⟩ (fun hHeld => ?_)
 clear hK K
 refine norm_ (a' := ?_) ?_ ?_
 rotate_left
 ·show Act.put _ (some 15) _ = _
  simp only [Act.put, sI, s0, sS, i64_w, i32_w]
  rfl
 refine one_ (i := 3) (N := some 17) #[true, true, true, true, false] rfl rfl (by kernel_rfl) (by decide) (fun K hK => ?_)
 refine goes_ Try.func100 (by kernel_rfl) rfl #[.agg #[.slice Ao32 t475.length co32], .agg #[.slice A1_0 l1_0.length c1_0]] (by rfl) rfl rfl mp_ ?_
 with_reducible refine (trunnionref01_Cmp.calls k _ _ t475 _ _ l1_0 t478 _ ?side1 ?side2 ?side3 ?side4 A5.out).mono ?_
 (case side1 => repeat (first | exact (Kd.R_reads' HO477.out).2.2 | (with_reducible refine Kd.C_alloc ?_ _) | (with_reducible refine Kd.C_drewN ?_ _) | (with_reducible refine Kd.C_drew ?_)))
 (case side2 => exact (Kd.R_reads' HO477.out).2.1)
 (case side3 => repeat (first | exact (Kd.C_below HR1_0.out HB.out) | (with_reducible refine Kd.C_alloc ?_ _) | (with_reducible refine Kd.C_drewN ?_ _) | (with_reducible refine Kd.C_drew ?_)))
 (case side4 => exact HC1_0.out)
 rintro e w33 ⟨rfl, hb⟩
 refine ⟨_, rfl, ?_⟩
 have n0_ := A_ (Kd.R_below (kr_ HO469.out) hb)
 have n1_ := A_ (Kd.V_below (kv_ HO472.out) hb)
 have n2_ := A_ (Kd.R_below (kr_ HO477.out) hb)
 have n3_ := A_ (blk_below (g := gb464) (o := .cells #[.slice A0_0 l0_0.length c0_0] 56 (0, 0)) (bk_ BK464.out) hb)
 have n4_ := A_ (blk_below (g := gb465) (o := .cells #[.slice A1_0 l1_0.length c1_0] 56 (0, 0)) (bk_ BK465.out) hb)
 have n5_ := A_ (blk_below (g := gb466) (o := .cells #[.slice none 0 0] 56 (0, 0)) (bk_ BK466.out) hb)
 have n6_ := A_ (blk_below (g := gb473) (o := .cells #[.slice Ao18 t467.length co18] 56 (0, 0)) (bk_ BK473.out) hb)
 have n7_ := A_ (blk_below (g := gb474) (o := .cells #[.slice Ao24 t470.length co24] 56 (0, 0)) (bk_ BK474.out) hb)
 have n8_ := A_ (below_step (by repeat (first | (with_reducible first | exact HB.out | apply below_alloc | apply pw_below_drewN | apply below_drew1 | refine below_set ?_ GE464.out | refine below_set ?_ GE465.out | refine below_set ?_ GE466.out | refine below_set ?_ GE473.out | refine below_set ?_ GE474.out) | exact HB.out)) hb)
 clear HO469;clear HO472;clear HO477;clear BK464;clear BK465;clear BK466;clear BK473;clear BK474;clear HB;have HO469 := n0_;have HO472 := n1_;have HO477 := n2_;have BK464 := n3_;have BK465 := n4_;have BK466 := n5_;have BK473 := n6_;have BK474 := n7_;have HB := n8_;clear n0_ n1_ n2_ n3_ n4_ n5_ n6_ n7_ n8_;(try clear hb);(try clear hb2);(try clear hk);(try clear hi)
 refine hK.out _ _ ⟨(blk_cell BK474.out 0).trans rfl, (blk_cell BK465.out 0).trans rfl⟩ (fun hHeld => ?_)
 clear hK K
 refine norm_ (a' := ?_) ?_ ?_
 rotate_left
 ·show Act.put _ (some 17) _ = _
  simp only [Act.put, sI, s0, sS, i64_w, i32_w]
  rfl
 refine pure_ (i := 4) (N := some 7) (v := ?_) (a' := ?_) #[true, true, true, true, true] rfl rfl (by kernel_rfl) (fun _ _ _ h => h) (Or.inl ⟨by rfl, ?_⟩) ?_ ?_
 rotate_left
 ·intro w'
  go_simp
  with_reducible rfl
 rotate_left
 ·simp only [Act.put, sI, s0, sS, i64_w, i32_w]
  rfl
 refine done_ (by kernel_rfl) ?_
 go_upto_region 3 with (fail)
 go_cut [29] (fun v29 wc => ∃ (kq : Nat) (x29_5 : Bool), v29 = .bool x29_5 ∧ Aside0 (trunnionref03_Quotient.j0 kq x29_5 t467 = some r) ∧ Aside0 (kq ≤ k) ∧ Aside0 (Kd.R (Kd.int .u64) 24 wc w.heap.size (fun _ => True) (.slice Ao18 t467.length co18) t467) ∧ Aside0 (Kd.V (Kd.int .u64) 24 wc w.heap.size (fun k_ => some k_ ≠ ((.slice Ao18 t467.length co18) : Value).ownBlock ∧ k_ ≠ gb464 ∧ k_ ≠ gb465 ∧ k_ ≠ gb466 ∧ k_ ≠ gb473 ∧ k_ ≠ gb474) (.slice Ao24 t470.length co24) t470) ∧ Aside0 (wc.heap[gb464]? = some (.cells #[(.slice A0_0 l0_0.length c0_0)] 56 (0, 0))) ∧ Aside0 (wc.heap[gb465]? = some (.cells #[(.slice A1_0 l1_0.length c1_0)] 56 (0, 0))) ∧ Aside0 (wc.heap[gb466]? = some (.cells #[(.slice none 0 0)] 56 (0, 0))) ∧ Aside0 (wc.heap[gb473]? = some (.cells #[(.slice Ao18 t467.length co18)] 56 (0, 0))) ∧ Aside0 (wc.heap[gb474]? = some (.cells #[(.slice Ao24 t470.length co24)] 56 (0, 0))) ∧ Aside0 (Below w.heap.size w wc))
 case first =>
  have H := HC6.out
  clear HC6
  by_cases c34 : t478 > 0
  ·rw [if_pos c34] at H
   have c34b0 : decide (0 < t478) = true := decide_eq_true c34
   clear c34
   (first | rw [c34b0] | (simp only [i64_w, i32_w]; rw [c34b0]) | skip)
   have H' := A_ H
   clear H
   go_wp2
   go_meet
   case rel => exact ⟨_, (true), sm_, H', ⟨by first | omega | exact Nat.le_refl _⟩, ⟨by (with_reducible repeat (first | apply Kd.R_alloc | apply Kd.R_drewN | apply Kd.R_drew)); exact Kd.R_mono HO469.out (fun _ hk => trivial)⟩, ⟨by (with_reducible repeat (first | apply Kd.V_alloc | apply Kd.V_drewN | apply Kd.V_drew)); exact Kd.V_mono HO472.out (fun _ hk => ⟨hk.1.1, ⟨hk.1.2.1, ⟨hk.1.2.2.1, ⟨hk.1.2.2.2.1, ⟨hk.1.2.2.2.2.1, hk.1.2.2.2.2.2⟩⟩⟩⟩⟩)⟩, ⟨bk_ BK464.out⟩, ⟨bk_ BK465.out⟩, ⟨bk_ BK466.out⟩, ⟨bk_ BK473.out⟩, ⟨bk_ BK474.out⟩, ⟨by repeat (first | (with_reducible first | exact HB.out | apply below_alloc | apply pw_below_drewN | apply below_drew1 | refine below_set ?_ GE464.out | refine below_set ?_ GE465.out | refine below_set ?_ GE466.out | refine below_set ?_ GE473.out | refine below_set ?_ GE474.out) | exact HB.out)⟩⟩
  ·rw [if_neg c34] at H
   have c34b0 : decide (0 < t478) = false := decide_eq_false c34
   clear c34
   (first | rw [c34b0] | (simp only [i64_w, i32_w]; rw [c34b0]) | skip)
   by_cases c35 : t478 = 0
   ·rw [if_pos c35] at H
    have c35b0 : (t478 == 0) = true := beq_iff_eq.mpr c35
    have c35b1 : (t478 != 0) = false := bne_eq_false_iff_eq.mpr c35
    clear c35
    replace H := Option.bind_eq_some_iff.mp H
    obtain ⟨t479, A360, H⟩ := H
    replace H : (trunnionref03_Quotient.j0 k ((Int.tmod t479 2) == 1) t467) = some r := H
    have A36 := A_ A360;clear A360
    have H' := A_ H
    clear H
    have hnb37 := NB473_464.out
    have hnc37 := NB464_473.out
    have hnb38 := NB473_465.out
    have hnc38 := NB465_473.out
    have hnb39 := NB473_466.out
    have hnc39 := NB466_473.out
    have hnb40 := NB473_474.out
    have hnc40 := NB474_473.out
    have hcz41_0 : w33.cell? ⟨gb473, 0, none⟩ = some (.slice Ao18 t467.length co18) := (blk_cell BK473.out 0).trans rfl
    have hfz41_0 := blk_frozen BK473.out 0
    go_wp2_with (first | (go_at_call 101; (with_reducible refine (trunnionref01_Uint.calls _ _ t467 t479 _ ?side1 ?side2 A36.out).mono ?_); (case side1 => repeat (first | exact (Kd.R_reads' HO469.out).2.2 | (with_reducible refine Kd.C_alloc ?_ _) | (with_reducible refine Kd.C_drewN ?_ _) | (with_reducible refine Kd.C_drew ?_))); (case side2 => exact (Kd.R_reads' HO469.out).2.1); rintro e w42 ⟨rfl, hb⟩; have n0_ := A_ (Kd.R_below (kr_ HO469.out) hb); have n1_ := A_ (Kd.V_below (kv_ HO472.out) hb); have n2_ := A_ (Kd.R_below (kr_ HO477.out) hb); have n3_ := A_ (blk_below (g := gb464) (o := .cells #[.slice A0_0 l0_0.length c0_0] 56 (0, 0)) (bk_ BK464.out) hb); have n4_ := A_ (blk_below (g := gb465) (o := .cells #[.slice A1_0 l1_0.length c1_0] 56 (0, 0)) (bk_ BK465.out) hb); have n5_ := A_ (blk_below (g := gb466) (o := .cells #[.slice none 0 0] 56 (0, 0)) (bk_ BK466.out) hb); have n6_ := A_ (blk_below (g := gb473) (o := .cells #[.slice Ao18 t467.length co18] 56 (0, 0)) (bk_ BK473.out) hb); have n7_ := A_ (blk_below (g := gb474) (o := .cells #[.slice Ao24 t470.length co24] 56 (0, 0)) (bk_ BK474.out) hb); have n8_ := A_ (below_step (by repeat (first | (with_reducible first | exact HB.out | apply below_alloc | apply pw_below_drewN | apply below_drew1 | refine below_set ?_ GE464.out | refine below_set ?_ GE465.out | refine below_set ?_ GE466.out | refine below_set ?_ GE473.out | refine below_set ?_ GE474.out) | exact HB.out)) hb); clear HO469; clear HO472; clear HO477; clear BK464; clear BK465; clear BK466; clear BK473; clear BK474; clear HB; have HO469 := n0_; have HO472 := n1_; have HO477 := n2_; have BK464 := n3_; have BK465 := n4_; have BK466 := n5_; have BK473 := n6_; have BK474 := n7_; have HB := n8_; clear n0_ n1_ n2_ n3_ n4_ n5_ n6_ n7_ n8_; (try clear hb); (try clear hb2); (try clear hk); (try clear hi)))
    go_meet
    case rel => exact ⟨_, (((Int.tmod t479 2) == 1)), sm_, H', ⟨by first | omega | exact Nat.le_refl _⟩, ⟨by (with_reducible repeat (first | apply Kd.R_alloc | apply Kd.R_drewN | apply Kd.R_drew)); exact Kd.R_mono HO469.out (fun _ hk => trivial)⟩, ⟨by (with_reducible repeat (first | apply Kd.V_alloc | apply Kd.V_drewN | apply Kd.V_drew)); exact Kd.V_mono HO472.out (fun _ hk => ⟨hk.1.1, ⟨hk.1.2.1, ⟨hk.1.2.2.1, ⟨hk.1.2.2.2.1, ⟨hk.1.2.2.2.2.1, hk.1.2.2.2.2.2⟩⟩⟩⟩⟩)⟩, ⟨bk_ BK464.out⟩, ⟨bk_ BK465.out⟩, ⟨bk_ BK466.out⟩, ⟨bk_ BK473.out⟩, ⟨bk_ BK474.out⟩, ⟨by repeat (first | (with_reducible first | exact HB.out | apply below_alloc | apply pw_below_drewN | apply below_drew1 | refine below_set ?_ GE464.out | refine below_set ?_ GE465.out | refine below_set ?_ GE466.out | refine below_set ?_ GE473.out | refine below_set ?_ GE474.out) | exact HB.out)⟩⟩
   ·rw [if_neg c35] at H
    have c35b0 : (t478 == 0) = false := beq_eq_false_iff_ne.mpr c35
    have c35b1 : (t478 != 0) = true := bne_iff_ne.mpr c35
    have H' := A_ H
    clear H
    go_wp2
    go_meet
    case rel => exact ⟨_, (false), sm_, H', ⟨by first | omega | exact Nat.le_refl _⟩, ⟨by (with_reducible repeat (first | apply Kd.R_alloc | apply Kd.R_drewN | apply Kd.R_drew)); exact Kd.R_mono HO469.out (fun _ hk => trivial)⟩, ⟨by (with_reducible repeat (first | apply Kd.V_alloc | apply Kd.V_drewN | apply Kd.V_drew)); exact Kd.V_mono HO472.out (fun _ hk => ⟨hk.1.1, ⟨hk.1.2.1, ⟨hk.1.2.2.1, ⟨hk.1.2.2.2.1, ⟨hk.1.2.2.2.2.1, hk.1.2.2.2.2.2⟩⟩⟩⟩⟩)⟩, ⟨bk_ BK464.out⟩, ⟨bk_ BK465.out⟩, ⟨bk_ BK466.out⟩, ⟨bk_ BK473.out⟩, ⟨bk_ BK474.out⟩, ⟨by repeat (first | (with_reducible first | exact HB.out | apply below_alloc | apply pw_below_drewN | apply below_drew1 | refine below_set ?_ GE464.out | refine below_set ?_ GE465.out | refine below_set ?_ GE466.out | refine below_set ?_ GE473.out | refine below_set ?_ GE474.out) | exact HB.out)⟩⟩
 case rest =>
  clear HC6
  try clear c1
  try clear c2
  try clear p2
  try clear c3
  try clear c4
  try clear c10
  try clear c11
  try clear c13
  try clear c17
  try clear c19
  try clear c20
  try clear c21
  try clear c22
  try clear c25
  try clear c26
  try clear c27
  try clear c34
  try clear c34b0
  try clear c35
  try clear c35b0
  try clear c35b1
  try clear c37
  try clear c38
  try clear c39
  try clear c40
  try clear hcz12_0
  try clear hcz14_0
  try clear hcz23_0
  try clear hcz28_0
  try clear hcz41_0
  try clear hfz12_0
  try clear hfz14_0
  try clear hfz23_0
  try clear hfz28_0
  try clear hfz41_0
  obtain ⟨kq, x29_5, rfl, HA, HJ5, HO_474000, HO_475000, BK464, BK465, BK466, BK473, BK474, HB⟩ := hcut
  cases kq with
  | zero => exact absurd HA.out (by simp [trunnionref03_Quotient.j0])
  | succ kj5 =>
   have H := HA.out
   clear HA
   simp only [trunnionref03_Quotient.j0] at H
   by_cases c43 : x29_5 = true
   ·subst c43
    have H1 : ((trunnionref01_Of.f kj5 1).bind fun t480 => ((trunnionref01_Add.f kj5 t467 t480).bind fun t483 => (some t483))) = some r := by rw [if_pos rfl] at H; exact H
    clear H;have H := H1;clear H1
    replace H := Option.bind_eq_some_iff.mp H
    obtain ⟨t480, A440, H⟩ := H
    replace H : ((trunnionref01_Add.f kj5 t467 t480).bind fun t483 => (some t483)) = some r := H
    have A44 := A_ A440;clear A440
    replace H := Option.bind_eq_some_iff.mp H
    obtain ⟨t483, A450, H⟩ := H
    replace H : (some t483) = some r := H
    have A45 := A_ A450;clear A450
    obtain rfl := Option.some.inj H
    try go_wp2
    have n0_ := A_ (Kd.R_drew HO_474000.out)
    have n1_ := A_ (Kd.V_drew HO_475000.out)
    have n2_ := A_ (blk_drew BK464.out)
    have n3_ := A_ (blk_drew BK465.out)
    have n4_ := A_ (blk_drew BK466.out)
    have n5_ := A_ (blk_drew BK473.out)
    have n6_ := A_ (blk_drew BK474.out)
    have n7_ := A_ (below_drew1 HB.out)
    clear HO_474000;clear HO_475000;clear BK464;clear BK465;clear BK466;clear BK473;clear BK474;clear HB;have HO_474000 := n0_;have HO_475000 := n1_;have BK464 := n2_;have BK465 := n3_;have BK466 := n4_;have BK473 := n5_;have BK474 := n6_;have HB := n7_;clear n0_ n1_ n2_ n3_ n4_ n5_ n6_ n7_
    refine start_ (n := 4) (S := fun w' => w'.cell? ⟨gb473, 0, none⟩ = some (.slice Ao18 t467.length co18)) (ds := []) #[false, false, false, false] (by kernel_rfl) rfl rfl ((blk_cell BK473.out 0).trans rfl) (fun hHeld => ?_)
    generalize wc.drew = w46 at HO_474000 HO_475000 BK464 BK465 BK466 BK473 BK474 HB hHeld ⊢
    refine take_ (i := 0) (N := some 30) (v := ?_) (a' := ?_) #[true, false, false, false] rfl rfl (by kernel_rfl) (fun _ _ _ h => h) (Or.inl ⟨by rfl, ?_⟩) hHeld ?_ ?_
    rotate_left
    ·intro w' s0
     go_simp
     with_reducible rfl
    rotate_left
    ·simp only [Act.put, sI, s0, sS, i64_w, i32_w]
     rfl
    refine one_ (i := 1) (N := some 31) #[true, true, false, false] rfl rfl (by kernel_rfl) (by decide) (fun K hK => ?_)
    refine goes_ Try.func46 (by kernel_rfl) rfl #[.int .u64 1] (by rfl) rfl rfl mp_ ?_
    with_reducible refine (trunnionref01_Of.calls kj5 1 t480 _ A44.out).mono ?_
    rintro e w47 ⟨v481, rfl, ho0, hb⟩
    refine ⟨_, rfl, ?_⟩
    have n0_ := A_ (Kd.R_elder' (kr_ HO_474000.out) (Kd.R_base ho0) hb)
    have n1_ := A_ (Kd.V_elder' (kv_ HO_475000.out) (Kd.R_base ho0) hb)
    have n2_ := A_ (Kd.R_lower (Kd.R_new' ho0 (Kd.R_lt (kr_ HO_474000.out))) (below_size (by repeat (first | (with_reducible first | exact HB.out | apply below_alloc | apply pw_below_drewN | apply below_drew1 | refine below_set ?_ GE464.out | refine below_set ?_ GE465.out | refine below_set ?_ GE466.out | refine below_set ?_ GE473.out | refine below_set ?_ GE474.out) | exact HB.out))))
    have n3_ := A_ (blk_below (g := gb464) (o := .cells #[.slice A0_0 l0_0.length c0_0] 56 (0, 0)) (bk_ BK464.out) hb)
    have n4_ := A_ (blk_below (g := gb465) (o := .cells #[.slice A1_0 l1_0.length c1_0] 56 (0, 0)) (bk_ BK465.out) hb)
    have n5_ := A_ (blk_below (g := gb466) (o := .cells #[.slice none 0 0] 56 (0, 0)) (bk_ BK466.out) hb)
    have n6_ := A_ (blk_below (g := gb473) (o := .cells #[.slice Ao18 t467.length co18] 56 (0, 0)) (bk_ BK473.out) hb)
    have n7_ := A_ (blk_below (g := gb474) (o := .cells #[.slice Ao24 t470.length co24] 56 (0, 0)) (bk_ BK474.out) hb)
    have n8_ := A_ (below_step (by repeat (first | (with_reducible first | exact HB.out | apply below_alloc | apply pw_below_drewN | apply below_drew1 | refine below_set ?_ GE464.out | refine below_set ?_ GE465.out | refine below_set ?_ GE466.out | refine below_set ?_ GE473.out | refine below_set ?_ GE474.out) | exact HB.out)) hb)
    clear HO_474000;clear HO_475000;clear BK464;clear BK465;clear BK466;clear BK473;clear BK474;clear HB;have HO_474000 := n0_;have HO_475000 := n1_;have HO482 := n2_;have BK464 := n3_;have BK465 := n4_;have BK466 := n5_;have BK473 := n6_;have BK474 := n7_;have HB := n8_;clear n0_ n1_ n2_ n3_ n4_ n5_ n6_ n7_ n8_;(try clear hb);(try clear hb2);(try clear hk);(try clear hi);(try clear ho0)
    obtain ⟨Ao48, co48, eo48⟩ := Kd.R_slice HO482.out
    (first | subst eo48 | (injection eo48 with f1_ f2_ f3_; have f4_ := f1_.symm; have f5_ := f3_.symm; clear f1_ f2_ f3_; subst f4_; subst f5_))
    refine hK.out _ _ ((blk_cell BK473.out 0).trans rfl) (fun hHeld => ?_)
    clear hK K
    refine norm_ (a' := ?_) ?_ ?_
    rotate_left
    ·show Act.put _ (some 31) _ = _
     simp only [Act.put, sI, s0, sS, i64_w, i32_w]
     rfl
    refine one_ (i := 2) (N := some 32) #[true, true, true, false] rfl rfl (by kernel_rfl) (by decide) (fun K hK => ?_)
    refine goes_ Try.func110 (by kernel_rfl) rfl #[.agg #[.slice Ao18 t467.length co18], .agg #[.slice Ao48 t480.length co48]] (by rfl) rfl rfl mp_ ?_
    with_reducible refine (trunnionref01_Add.calls kj5 _ _ t467 _ _ t480 t483 _ ?side1 ?side2 ?side3 ?side4 A45.out).mono ?_
    (case side1 => repeat (first | exact (Kd.R_reads' HO_474000.out).2.2 | (with_reducible refine Kd.C_alloc ?_ _) | (with_reducible refine Kd.C_drewN ?_ _) | (with_reducible refine Kd.C_drew ?_)))
    (case side2 => exact (Kd.R_reads' HO_474000.out).2.1)
    (case side3 => repeat (first | exact (Kd.R_reads' HO482.out).2.2 | (with_reducible refine Kd.C_alloc ?_ _) | (with_reducible refine Kd.C_drewN ?_ _) | (with_reducible refine Kd.C_drew ?_)))
    (case side4 => exact (Kd.R_reads' HO482.out).2.1)
    rintro e w49 ⟨v484, rfl, ho0, hb⟩
    refine ⟨_, rfl, ?_⟩
    have n0_ := A_ (Kd.R_elder' (kr_ HO_474000.out) (Kd.R_base ho0) hb)
    have n1_ := A_ (Kd.V_elder' (kv_ HO_475000.out) (Kd.R_base ho0) hb)
    have n2_ := A_ (Kd.R_elder' (kr_ HO482.out) (Kd.R_base ho0) hb)
    have n3_ := A_ (Kd.R_lower (Kd.R_new' (Kd.R_new' ho0 (Kd.R_lt (kr_ HO_474000.out))) (Kd.R_lt (kr_ HO482.out))) (below_size (by repeat (first | (with_reducible first | exact HB.out | apply below_alloc | apply pw_below_drewN | apply below_drew1 | refine below_set ?_ GE464.out | refine below_set ?_ GE465.out | refine below_set ?_ GE466.out | refine below_set ?_ GE473.out | refine below_set ?_ GE474.out) | exact HB.out))))
    have n4_ := A_ (blk_below (g := gb464) (o := .cells #[.slice A0_0 l0_0.length c0_0] 56 (0, 0)) (bk_ BK464.out) hb)
    have n5_ := A_ (blk_below (g := gb465) (o := .cells #[.slice A1_0 l1_0.length c1_0] 56 (0, 0)) (bk_ BK465.out) hb)
    have n6_ := A_ (blk_below (g := gb466) (o := .cells #[.slice none 0 0] 56 (0, 0)) (bk_ BK466.out) hb)
    have n7_ := A_ (blk_below (g := gb473) (o := .cells #[.slice Ao18 t467.length co18] 56 (0, 0)) (bk_ BK473.out) hb)
    have n8_ := A_ (blk_below (g := gb474) (o := .cells #[.slice Ao24 t470.length co24] 56 (0, 0)) (bk_ BK474.out) hb)
    have n9_ := A_ (below_step (by repeat (first | (with_reducible first | exact HB.out | apply below_alloc | apply pw_below_drewN | apply below_drew1 | refine below_set ?_ GE464.out | refine below_set ?_ GE465.out | refine below_set ?_ GE466.out | refine below_set ?_ GE473.out | refine below_set ?_ GE474.out) | exact HB.out)) hb)
    clear HO_474000;clear HO_475000;clear HO482;clear BK464;clear BK465;clear BK466;clear BK473;clear BK474;clear HB;have HO_474000 := n0_;have HO_475000 := n1_;have HO482 := n2_;have HO485 := n3_;have BK464 := n4_;have BK465 := n5_;have BK466 := n6_;have BK473 := n7_;have BK474 := n8_;have HB := n9_;clear n0_ n1_ n2_ n3_ n4_ n5_ n6_ n7_ n8_ n9_;(try clear hb);(try clear hb2);(try clear hk);(try clear hi);(try clear ho0)
    obtain ⟨Ao50, co50, eo50⟩ := Kd.R_slice HO485.out
    (first | subst eo50 | (injection eo50 with f1_ f2_ f3_; have f4_ := f1_.symm; have f5_ := f3_.symm; clear f1_ f2_ f3_; subst f4_; subst f5_))
    refine hK.out _ _ ((blk_cell BK473.out 0).trans rfl) (fun hHeld => ?_)
    clear hK K
    refine norm_ (a' := ?_) ?_ ?_
    rotate_left
    ·show Act.put _ (some 32) _ = _
     simp only [Act.put, sI, s0, sS, i64_w, i32_w]
     rfl
    refine one_ (i := 3) (N := none) #[true, true, true, true] rfl rfl (by kernel_rfl) (by decide) (fun K hK => ?_)
    have hs51 : w49.cell? ⟨gb466, 0, none⟩ = some (.slice none 0 0) := (blk_cell BK466.out 0).trans rfl
    have hfs51 := blk_frozen BK466.out 0
    have hns51_0 := NB464_466.out
    have hns51_1 := NB465_466.out
    have hns51_3 := NB473_466.out
    have hns51_4 := NB474_466.out
    have hms51_0 := NB466_464.out
    have hms51_1 := NB466_465.out
    have hms51_3 := NB466_473.out
    have hms51_4 := NB466_474.out
    refine skip_ (w1 := ?_) (by rfl) rfl ?_ ?_
    rotate_left
    ·go_simp
     rfl
    refine hK.out _ _ (((cell_far (p := ⟨gb466, _, none⟩) NB473_466.out _).trans (hHeld))) (fun hHeld => ?_)
    clear hK K
    refine done_ (by kernel_rfl) ?_
    try go_wp2
    refine bodyPost_ret (results_cell_row rfl _ _ gb466 56 #[.slice Ao50 t483.length co50] (0, 0) _ rfl (by (with_reducible repeat (first | refine blk_drewN ?_ _ | refine blk_drew ?_ | refine blk_alloc ?_ _)); refine blk_put (cs := #[.slice none 0 0]) ?_ 0 _ rfl; (with_reducible repeat (first | refine blk_drewN ?_ _ | refine blk_drew ?_ | refine blk_alloc ?_ _)); exact BK466.out) Try.underlying56 rfl (by kernel_rfl)) rfl ?_
    exact ⟨_, by first | rfl | (simp [errW_none, errW_some] <;> rfl) | (simp [*, errW_none, errW_some] <;> rfl), by (with_reducible repeat (first | apply Kd.R_alloc | apply Kd.R_drewN | apply Kd.R_drew)); exact Kd.R_mono (Kd.R_far (p := ⟨gb466, 0, none⟩) (Kd.R_types HO485.out BK466.out (by decide)) (fun _ hk => hk.2) (.slice Ao50 t483.length co50)) (fun _ hk => trivial), by repeat (first | (with_reducible first | exact HB.out | apply below_alloc | apply pw_below_drewN | apply below_drew1 | refine below_set ?_ GE464.out | refine below_set ?_ GE465.out | refine below_set ?_ GE466.out | refine below_set ?_ GE473.out | refine below_set ?_ GE474.out) | exact HB.out)⟩
   ·replace c43 := Bool.eq_false_iff.mpr c43
    subst c43
    have H1 : (some t467) = some r := by rw [if_neg (show ¬ (false = true) by decide)] at H; exact H
    clear H;have H := H1;clear H1
    obtain rfl := Option.some.inj H
    have hnb52 := NB473_464.out
    have hnc52 := NB464_473.out
    have hnb53 := NB473_465.out
    have hnc53 := NB465_473.out
    have hnb54 := NB473_466.out
    have hnc54 := NB466_473.out
    have hnb55 := NB473_474.out
    have hnc55 := NB474_473.out
    have hcz56_0 : wc.cell? ⟨gb473, 0, none⟩ = some (.slice Ao18 t467.length co18) := (blk_cell BK473.out 0).trans rfl
    have hfz56_0 := blk_frozen BK473.out 0
    have hnb57 := NB466_464.out
    have hnc57 := NB464_466.out
    have hnb58 := NB466_465.out
    have hnc58 := NB465_466.out
    have hnb59 := NB466_474.out
    have hnc59 := NB474_466.out
    have hcz60_0 : wc.cell? ⟨gb466, 0, none⟩ = some (.slice none 0 0) := (blk_cell BK466.out 0).trans rfl
    have hfz60_0 := blk_frozen BK466.out 0
    go_wp2
    refine bodyPost_ret (results_cell_row rfl _ _ gb466 56 #[.slice Ao18 t467.length co18] (0, 0) _ rfl (by (with_reducible repeat (first | refine blk_drewN ?_ _ | refine blk_drew ?_ | refine blk_alloc ?_ _)); refine blk_put (cs := #[.slice none 0 0]) ?_ 0 _ rfl; (with_reducible repeat (first | refine blk_drewN ?_ _ | refine blk_drew ?_ | refine blk_alloc ?_ _)); exact BK466.out) Try.underlying56 rfl (by kernel_rfl)) rfl ?_
    exact ⟨_, by first | rfl | (simp [errW_none, errW_some] <;> rfl) | (simp [*, errW_none, errW_some] <;> rfl), by (with_reducible repeat (first | apply Kd.R_alloc | apply Kd.R_drewN | apply Kd.R_drew)); exact Kd.R_mono (Kd.R_far (p := ⟨gb466, 0, none⟩) (Kd.R_types HO_474000.out BK466.out (by decide)) (fun _ hk => hk.2) (.slice Ao18 t467.length co18)) (fun _ hk => trivial), by repeat (first | (with_reducible first | exact HB.out | apply below_alloc | apply pw_below_drewN | apply below_drew1 | refine below_set ?_ GE464.out | refine below_set ?_ GE465.out | refine below_set ?_ GE466.out | refine below_set ?_ GE473.out | refine below_set ?_ GE474.out) | exact HB.out)⟩
def trunnionref03_grain.f (k : Nat) (l0_0 : List Int) (l1_0 : List Int) (a2 : Int) : Option (List Int) := if a2 ≥ 0 then ((trunnionref01_Shl.f k l0_0 a2).bind fun t489 => ((trunnionref03_Quotient.f k t489 l1_0).bind fun t492 => (some t492))) else ((trunnionref01_Shl.f k l1_0 (wrap64 (-a2))).bind fun t495 => ((trunnionref03_Quotient.f k l0_0 t495).bind fun t498 => (some t498)))
theorem trunnionref03_grain.mono : ∀ a0 a1 a2 k, LeO (trunnionref03_grain.f k a0 a1 a2) (trunnionref03_grain.f (k + 1) a0 a1 a2) := by
 intro a0 a1 a2 k
 unfold trunnionref03_grain.f
 repeat' first
   | (with_reducible exact trunnionref01_Shl.mono _ _ _)
   | (with_reducible exact trunnionref03_Quotient.mono _ _ _)
   | (with_reducible exact LeO.refl _)
   | (with_reducible exact LeO.none _)
   | (with_reducible refine LeO.ite ?_ ?_)
   | (with_reducible refine LeO.bind ?_ (fun _ => ?_))
   | exact trunnionref01_Shl.mono _ _ _
   | exact trunnionref03_Quotient.mono _ _ _
   | exact LeO.none _
   | refine LeO.ite ?_ ?_
   | refine LeO.bind ?_ (fun _ => ?_)
theorem trunnionref03_grain.calls (k : Nat) (A0_0 : Option Addr) (c0_0 : Nat) (l0_0 : List Int) (A1_0 : Option Addr) (c1_0 : Nat) (l1_0 : List Int) (a2 : Int) (r : List Int) (w : World) (hr0_0 : Kd.C (Kd.int .u64) w A0_0 l0_0.length l0_0) (hc0_0 : l0_0.length ≤ c0_0) (hr1_0 : Kd.C (Kd.int .u64) w A1_0 l1_0.length l1_0) (hc1_0 : l1_0.length ≤ c1_0) (h : trunnionref03_grain.f k l0_0 l1_0 a2 = some r) :
  Calls Try.prog 159 #[.agg #[.slice A0_0 l0_0.length c0_0], .agg #[.slice A1_0 l1_0.length c1_0], .int .i64 a2] w fun e w' => ∃ v0_ : Value, e = .returned (.agg #[v0_]) ∧ Kd.R (Kd.int .u64) 24 w' w.heap.size (fun _ => True) v0_ r ∧ Below w.heap.size w w' := by
 have hu56 := Try.underlying56
 have HR0_0 := A_ hr0_0;have HC0_0 := A_ hc0_0;clear hr0_0 hc0_0;have HR1_0 := A_ hr1_0;have HC1_0 := A_ hc1_0;clear hr1_0 hc1_0
 have HB := A_ (Below.refl w.heap.size w)
 have H : (if a2 ≥ 0 then ((trunnionref01_Shl.f k l0_0 a2).bind fun t489 => ((trunnionref03_Quotient.f k t489 l1_0).bind fun t492 => (some t492))) else ((trunnionref01_Shl.f k l1_0 (wrap64 (-a2))).bind fun t495 => ((trunnionref03_Quotient.f k l0_0 t495).bind fun t498 => (some t498)))) = some r := h
 clear h
 by_cases c4 : a2 ≥ 0
 ·rw [if_pos c4] at H
  have c4b0 : decide (0 ≤ a2) = true := decide_eq_true c4
  clear c4
  replace H := Option.bind_eq_some_iff.mp H
  obtain ⟨t489, A50, H⟩ := H
  replace H : ((trunnionref03_Quotient.f k t489 l1_0).bind fun t492 => (some t492)) = some r := H
  have A5 := A_ A50;clear A50
  replace H := Option.bind_eq_some_iff.mp H
  obtain ⟨t492, A60, H⟩ := H
  replace H : (some t492) = some r := H
  have A6 := A_ A60;clear A60
  obtain rfl := Option.some.inj H
  go_enter Try.func159, Try.ntmps159
  try go_wp2_with (first | ((with_reducible refine gate_dst (N := 3) rfl ?_); refine box_event ?hg (N := 3) ?hd (cs := #[.slice A0_0 l0_0.length c0_0]) (t := 56) ?hr ?_; (case hd => rfl); (case hg => rfl); (case hr => first | (go_simp; done) | (go_simp; rfl)); intro gb486 hg w7 hbox hb; have n0_ := A_ (below_step (hb_ HB.out) hb); have n1_ := A_ (hbox); have n2_ := A_ ((by rw [hg]; exact (below_size (hb_ HB.out)) : w.heap.size ≤ gb486)); have n3_ := A_ ((by rw [hg]; exact (below_size (hb_ HB.out)) : w.heap.size ≤ gb486)); clear HB; have HB := n0_; have BK486 := n1_; have GW486 := n2_; have GE486 := n3_; clear n0_ n1_ n2_ n3_; clear hb hbox hg) | ((with_reducible refine gate_dst (N := 4) rfl ?_); refine box_event ?hg (N := 4) ?hd (cs := #[.slice A1_0 l1_0.length c1_0]) (t := 56) ?hr ?_; (case hd => rfl); (case hg => rfl); (case hr => first | (go_simp; done) | (go_simp; rfl)); intro gb487 hg w8 hbox hb; have n0_ := A_ (blk_below (g := gb486) (o := .cells #[.slice A0_0 l0_0.length c0_0] 56 (0, 0)) (bk_ BK486.out) hb); have n1_ := A_ (below_step (hb1_ HB.out GE486.out) hb); have n2_ := A_ (hbox); have n3_ := A_ ((by rw [hg]; exact (below_size (hb1_ HB.out GE486.out)) : w.heap.size ≤ gb487)); have n4_ := A_ ((by rw [hg]; exact (below_size (hb1_ HB.out GE486.out)) : w.heap.size ≤ gb487)); have n5_ := A_ ((by rw [hg]; exact Nat.ne_of_lt (blk_lt (g := gb486) (o := .cells #[.slice A0_0 l0_0.length c0_0] 56 (0, 0)) (bk_ BK486.out)) : gb486 ≠ gb487)); have n6_ := A_ ((by rw [hg]; exact Nat.ne_of_gt (blk_lt (g := gb486) (o := .cells #[.slice A0_0 l0_0.length c0_0] 56 (0, 0)) (bk_ BK486.out)) : gb487 ≠ gb486)); clear BK486; clear HB; have BK486 := n0_; have HB := n1_; have BK487 := n2_; have GW487 := n3_; have GE487 := n4_; have NB486_487 := n5_; have NB487_486 := n6_; clear n0_ n1_ n2_ n3_ n4_ n5_ n6_; clear hb hbox hg) | ((with_reducible refine gate_dst (N := 6) rfl ?_); refine box_event ?hg (N := 6) ?hd (cs := #[.slice none 0 0]) (t := 56) ?hr ?_; (case hd => rfl); (case hg => rfl); (case hr => first | (go_simp; done) | (go_simp; rfl)); intro gb488 hg w9 hbox hb; have n0_ := A_ (blk_below (g := gb486) (o := .cells #[.slice A0_0 l0_0.length c0_0] 56 (0, 0)) (bk_ BK486.out) hb); have n1_ := A_ (blk_below (g := gb487) (o := .cells #[.slice A1_0 l1_0.length c1_0] 56 (0, 0)) (bk_ BK487.out) hb); have n2_ := A_ (below_step (hb2_ HB.out GE486.out GE487.out) hb); have n3_ := A_ (hbox); have n4_ := A_ ((by rw [hg]; exact (below_size (hb2_ HB.out GE486.out GE487.out)) : w.heap.size ≤ gb488)); have n5_ := A_ ((by rw [hg]; exact (below_size (hb2_ HB.out GE486.out GE487.out)) : w.heap.size ≤ gb488)); have n6_ := A_ ((by rw [hg]; exact Nat.ne_of_lt (blk_lt (g := gb486) (o := .cells #[.slice A0_0 l0_0.length c0_0] 56 (0, 0)) (bk_ BK486.out)) : gb486 ≠ gb488)); have n7_ := A_ ((by rw [hg]; exact Nat.ne_of_gt (blk_lt (g := gb486) (o := .cells #[.slice A0_0 l0_0.length c0_0] 56 (0, 0)) (bk_ BK486.out)) : gb488 ≠ gb486)); have n8_ := A_ ((by rw [hg]; exact Nat.ne_of_lt (blk_lt (g := gb487) (o := .cells #[.slice A1_0 l1_0.length c1_0] 56 (0, 0)) (bk_ BK487.out)) : gb487 ≠ gb488)); have n9_ := A_ ((by rw [hg]; exact Nat.ne_of_gt (blk_lt (g := gb487) (o := .cells #[.slice A1_0 l1_0.length c1_0] 56 (0, 0)) (bk_ BK487.out)) : gb488 ≠ gb487)); clear BK486; clear BK487; clear HB; have BK486 := n0_; have BK487 := n1_; have HB := n2_; have BK488 := n3_; have GW488 := n4_; have GE488 := n5_; have NB486_488 := n6_; have NB488_486 := n7_; have NB487_488 := n8_; have NB488_487 := n9_; clear n0_ n1_ n2_ n3_ n4_ n5_ n6_ n7_ n8_ n9_; clear hb hbox hg))
  have n0_ := A_ (blk_drew BK486.out)
  have n1_ := A_ (blk_drew BK487.out)
  have n2_ := A_ (blk_drew BK488.out)
  have n3_ := A_ (below_drew1 HB.out)
  clear BK486;clear BK487;clear BK488;clear HB;have BK486 := n0_;have BK487 := n1_;have BK488 := n2_;have HB := n3_;clear n0_ n1_ n2_ n3_
  refine start_ (n := 6) (S := fun w' => w'.cell? ⟨gb486, 0, none⟩ = some (.slice A0_0 l0_0.length c0_0) ∧ w'.cell? ⟨gb487, 0, none⟩ = some (.slice A1_0 l1_0.length c1_0)) (ds := []) #[false, false, false, false, false, false] (by kernel_rfl) rfl rfl ⟨(blk_cell BK486.out 0).trans rfl, (blk_cell BK487.out 0).trans rfl⟩ (fun hHeld => ?_)
  generalize w9.drew = w10 at BK486 BK487 BK488 HB hHeld ⊢
  refine pure_ (i := 1) (N := some 10) (v := ?_) (a' := ?_) #[false, true, false, false, false, false] rfl rfl (by kernel_rfl) (fun _ _ _ h => h) (Or.inl ⟨by rfl, ?_⟩) ?_ ?_
  rotate_left
  ·intro w'
   go_simp
   with_reducible rfl
  rotate_left
  ·simp only [Act.put, sI, s0, sS, i64_w, i32_w]
   rfl
  refine take_ (i := 0) (N := some 9) (v := ?_) (a' := ?_) #[true, true, false, false, false, false] rfl rfl (by kernel_rfl) (fun _ _ _ h => h) (Or.inl ⟨by rfl, ?_⟩) hHeld ?_ ?_
  rotate_left
  ·rintro w' ⟨s0, s1⟩
   go_simp
   with_reducible rfl
  rotate_left
  ·simp only [Act.put, sI, s0, sS, i64_w, i32_w]
   rfl
  refine take_ (i := 3) (N := some 12) (v := ?_) (a' := ?_) #[true, true, false, true, false, false] rfl rfl (by kernel_rfl) (fun _ _ _ h => h) (Or.inl ⟨by rfl, ?_⟩) hHeld ?_ ?_
  rotate_left
  ·rintro w' ⟨s0, s1⟩
   go_simp
   with_reducible rfl
  rotate_left
  ·simp only [Act.put, sI, s0, sS, i64_w, i32_w]
   rfl
  refine one_ (i := 2) (N := some 11) #[true, true, true, true, false, false] rfl rfl (by kernel_rfl) (by decide) (fun K hK => ?_)
  refine goes_ Try.func103 (by kernel_rfl) rfl #[.agg #[.slice A0_0 l0_0.length c0_0], .int .i64 a2] (by rfl) rfl rfl mp_ ?_
  with_reducible refine (trunnionref01_Shl.calls k _ _ l0_0 a2 t489 _ ?side1 ?side2 A5.out).mono ?_
  (case side1 => repeat (first | exact (Kd.C_below HR0_0.out HB.out) | (with_reducible refine Kd.C_alloc ?_ _) | (with_reducible refine Kd.C_drewN ?_ _) | (with_reducible refine Kd.C_drew ?_)))
  (case side2 => exact HC0_0.out)
  rintro e w11 ⟨v490, rfl, ho0, hb⟩
  refine ⟨_, rfl, ?_⟩
  have n0_ := A_ (Kd.R_lower ho0 (below_size (hb3_ HB.out GE486.out GE487.out GE488.out)))
  have n1_ := A_ (blk_below (g := gb486) (o := .cells #[.slice A0_0 l0_0.length c0_0] 56 (0, 0)) (bk_ BK486.out) hb)
  have n2_ := A_ (blk_below (g := gb487) (o := .cells #[.slice A1_0 l1_0.length c1_0] 56 (0, 0)) (bk_ BK487.out) hb)
  have n3_ := A_ (blk_below (g := gb488) (o := .cells #[.slice none 0 0] 56 (0, 0)) (bk_ BK488.out) hb)
  have n4_ := A_ (below_step (hb3_ HB.out GE486.out GE487.out GE488.out) hb)
  clear BK486;clear BK487;clear BK488;clear HB;have HO491 := n0_;have BK486 := n1_;have BK487 := n2_;have BK488 := n3_;have HB := n4_;clear n0_ n1_ n2_ n3_ n4_;(try clear hb);(try clear hb2);(try clear hk);(try clear hi);(try clear ho0)
  obtain ⟨Ao12, co12, eo12⟩ := Kd.R_slice HO491.out
  (first | subst eo12 | (injection eo12 with f1_ f2_ f3_; have f4_ := f1_.symm; have f5_ := f3_.symm; clear f1_ f2_ f3_; subst f4_; subst f5_))
  refine hK.out _ _ ⟨(blk_cell BK486.out 0).trans rfl, (blk_cell BK487.out 0).trans rfl⟩ (fun hHeld => ?_)
  clear hK K
  refine norm_ (a' := ?_) ?_ ?_
  rotate_left
  ·show Act.put _ (some 11) _ = _
   simp only [Act.put, sI, s0, sS, i64_w, i32_w]
   rfl
  refine one_ (i := 4) (N := some 13) #[true, true, true, true, true, false] rfl rfl (by kernel_rfl) (by decide) (fun K hK => ?_)
  refine goes_ Try.func175 (by kernel_rfl) rfl #[.agg #[.slice Ao12 t489.length co12], .agg #[.slice A1_0 l1_0.length c1_0]] (by rfl) rfl rfl mp_ ?_
  with_reducible refine (trunnionref03_Quotient.calls k _ _ t489 _ _ l1_0 t492 _ ?side1 ?side2 ?side3 ?side4 A6.out).mono ?_
  (case side1 => repeat (first | exact (Kd.R_reads' HO491.out).2.2 | (with_reducible refine Kd.C_alloc ?_ _) | (with_reducible refine Kd.C_drewN ?_ _) | (with_reducible refine Kd.C_drew ?_)))
  (case side2 => exact (Kd.R_reads' HO491.out).2.1)
  (case side3 => repeat (first | exact (Kd.C_below HR1_0.out HB.out) | (with_reducible refine Kd.C_alloc ?_ _) | (with_reducible refine Kd.C_drewN ?_ _) | (with_reducible refine Kd.C_drew ?_)))
  (case side4 => exact HC1_0.out)
  rintro e w13 ⟨v493, rfl, ho0, hb⟩
  refine ⟨_, rfl, ?_⟩
  have n0_ := A_ (Kd.R_elder' (kr_ HO491.out) (Kd.R_base ho0) hb)
  have n1_ := A_ (Kd.R_lower (Kd.R_new' ho0 (Kd.R_lt (kr_ HO491.out))) (below_size (hb3_ HB.out GE486.out GE487.out GE488.out)))
  have n2_ := A_ (blk_below (g := gb486) (o := .cells #[.slice A0_0 l0_0.length c0_0] 56 (0, 0)) (bk_ BK486.out) hb)
  have n3_ := A_ (blk_below (g := gb487) (o := .cells #[.slice A1_0 l1_0.length c1_0] 56 (0, 0)) (bk_ BK487.out) hb)
  have n4_ := A_ (blk_below (g := gb488) (o := .cells #[.slice none 0 0] 56 (0, 0)) (bk_ BK488.out) hb)
  have n5_ := A_ (below_step (hb3_ HB.out GE486.out GE487.out GE488.out) hb)
  clear HO491;clear BK486;clear BK487;clear BK488;clear HB;have HO491 := n0_;have HO494 := n1_;have BK486 := n2_;have BK487 := n3_;have BK488 := n4_;have HB := n5_;clear n0_ n1_ n2_ n3_ n4_ n5_;(try clear hb);(try clear hb2);(try clear hk);(try clear hi);(try clear ho0)
  obtain ⟨Ao14, co14, eo14⟩ := Kd.R_slice HO494.out
  (first | subst eo14 | (injection eo14 with f1_ f2_ f3_; have f4_ := f1_.symm; have f5_ := f3_.symm; clear f1_ f2_ f3_; subst f4_; subst f5_))
  refine hK.out _ _ ⟨(blk_cell BK486.out 0).trans rfl, (blk_cell BK487.out 0).trans rfl⟩ (fun hHeld => ?_)
  clear hK K
  refine norm_ (a' := ?_) ?_ ?_
  rotate_left
  ·show Act.put _ (some 13) _ = _
   simp only [Act.put, sI, s0, sS, i64_w, i32_w]
   rfl
  refine one_ (i := 5) (N := none) #[true, true, true, true, true, true] rfl rfl (by kernel_rfl) (by decide) (fun K hK => ?_)
  have hs15 : w13.cell? ⟨gb488, 0, none⟩ = some (.slice none 0 0) := (blk_cell BK488.out 0).trans rfl
  have hfs15 := blk_frozen BK488.out 0
  have hns15_0 := NB486_488.out
  have hns15_1 := NB487_488.out
  have hms15_0 := NB488_486.out
  have hms15_1 := NB488_487.out
  refine skip_ (w1 := ?_) (by rfl) rfl ?_ ?_
  rotate_left
  ·go_simp
   rfl
  refine hK.out _ _ ⟨((cell_far (p := ⟨gb488, _, none⟩) NB486_488.out _).trans (hHeld.1)), ((cell_far (p := ⟨gb488, _, none⟩) NB487_488.out _).trans (hHeld.2))⟩ (fun hHeld => ?_)
  clear hK K
  refine done_ (by kernel_rfl) ?_
  try go_wp2
  refine bodyPost_ret (results_cell_row rfl _ _ gb488 56 #[.slice Ao14 t492.length co14] (0, 0) _ rfl (by (with_reducible repeat (first | refine blk_drewN ?_ _ | refine blk_drew ?_ | refine blk_alloc ?_ _)); refine blk_put (cs := #[.slice none 0 0]) ?_ 0 _ rfl; (with_reducible repeat (first | refine blk_drewN ?_ _ | refine blk_drew ?_ | refine blk_alloc ?_ _)); exact BK488.out) Try.underlying56 rfl (by kernel_rfl)) rfl ?_
  exact ⟨_, by first | rfl | (simp [errW_none, errW_some] <;> rfl) | (simp [*, errW_none, errW_some] <;> rfl), by (with_reducible repeat (first | apply Kd.R_alloc | apply Kd.R_drewN | apply Kd.R_drew)); exact Kd.R_mono (Kd.R_far (p := ⟨gb488, 0, none⟩) (Kd.R_types HO494.out BK488.out (by decide)) (fun _ hk => hk.2) (.slice Ao14 t492.length co14)) (fun _ hk => trivial), hb3_ HB.out GE486.out GE487.out GE488.out⟩
 ·rw [if_neg c4] at H
  have c4b0 : decide (0 ≤ a2) = false := decide_eq_false c4
  clear c4
  replace H := Option.bind_eq_some_iff.mp H
  obtain ⟨t495, A160, H⟩ := H
  replace H : ((trunnionref03_Quotient.f k l0_0 t495).bind fun t498 => (some t498)) = some r := H
  have A16 := A_ A160;clear A160
  replace H := Option.bind_eq_some_iff.mp H
  obtain ⟨t498, A170, H⟩ := H
  replace H : (some t498) = some r := H
  have A17 := A_ A170;clear A170
  obtain rfl := Option.some.inj H
  go_enter Try.func159, Try.ntmps159
  try go_wp2_with (first | ((with_reducible refine gate_dst (N := 3) rfl ?_); refine box_event ?hg (N := 3) ?hd (cs := #[.slice A0_0 l0_0.length c0_0]) (t := 56) ?hr ?_; (case hd => rfl); (case hg => rfl); (case hr => first | (go_simp; done) | (go_simp; rfl)); intro gb486 hg w18 hbox hb; have n0_ := A_ (below_step (hb_ HB.out) hb); have n1_ := A_ (hbox); have n2_ := A_ ((by rw [hg]; exact (below_size (hb_ HB.out)) : w.heap.size ≤ gb486)); have n3_ := A_ ((by rw [hg]; exact (below_size (hb_ HB.out)) : w.heap.size ≤ gb486)); clear HB; have HB := n0_; have BK486 := n1_; have GW486 := n2_; have GE486 := n3_; clear n0_ n1_ n2_ n3_; clear hb hbox hg) | ((with_reducible refine gate_dst (N := 4) rfl ?_); refine box_event ?hg (N := 4) ?hd (cs := #[.slice A1_0 l1_0.length c1_0]) (t := 56) ?hr ?_; (case hd => rfl); (case hg => rfl); (case hr => first | (go_simp; done) | (go_simp; rfl)); intro gb487 hg w19 hbox hb; have n0_ := A_ (blk_below (g := gb486) (o := .cells #[.slice A0_0 l0_0.length c0_0] 56 (0, 0)) (bk_ BK486.out) hb); have n1_ := A_ (below_step (hb1_ HB.out GE486.out) hb); have n2_ := A_ (hbox); have n3_ := A_ ((by rw [hg]; exact (below_size (hb1_ HB.out GE486.out)) : w.heap.size ≤ gb487)); have n4_ := A_ ((by rw [hg]; exact (below_size (hb1_ HB.out GE486.out)) : w.heap.size ≤ gb487)); have n5_ := A_ ((by rw [hg]; exact Nat.ne_of_lt (blk_lt (g := gb486) (o := .cells #[.slice A0_0 l0_0.length c0_0] 56 (0, 0)) (bk_ BK486.out)) : gb486 ≠ gb487)); have n6_ := A_ ((by rw [hg]; exact Nat.ne_of_gt (blk_lt (g := gb486) (o := .cells #[.slice A0_0 l0_0.length c0_0] 56 (0, 0)) (bk_ BK486.out)) : gb487 ≠ gb486)); clear BK486; clear HB; have BK486 := n0_; have HB := n1_; have BK487 := n2_; have GW487 := n3_; have GE487 := n4_; have NB486_487 := n5_; have NB487_486 := n6_; clear n0_ n1_ n2_ n3_ n4_ n5_ n6_; clear hb hbox hg) | ((with_reducible refine gate_dst (N := 6) rfl ?_); refine box_event ?hg (N := 6) ?hd (cs := #[.slice none 0 0]) (t := 56) ?hr ?_; (case hd => rfl); (case hg => rfl); (case hr => first | (go_simp; done) | (go_simp; rfl)); intro gb488 hg w20 hbox hb; have n0_ := A_ (blk_below (g := gb486) (o := .cells #[.slice A0_0 l0_0.length c0_0] 56 (0, 0)) (bk_ BK486.out) hb); have n1_ := A_ (blk_below (g := gb487) (o := .cells #[.slice A1_0 l1_0.length c1_0] 56 (0, 0)) (bk_ BK487.out) hb); have n2_ := A_ (below_step (hb2_ HB.out GE486.out GE487.out) hb); have n3_ := A_ (hbox); have n4_ := A_ ((by rw [hg]; exact (below_size (hb2_ HB.out GE486.out GE487.out)) : w.heap.size ≤ gb488)); have n5_ := A_ ((by rw [hg]; exact (below_size (hb2_ HB.out GE486.out GE487.out)) : w.heap.size ≤ gb488)); have n6_ := A_ ((by rw [hg]; exact Nat.ne_of_lt (blk_lt (g := gb486) (o := .cells #[.slice A0_0 l0_0.length c0_0] 56 (0, 0)) (bk_ BK486.out)) : gb486 ≠ gb488)); have n7_ := A_ ((by rw [hg]; exact Nat.ne_of_gt (blk_lt (g := gb486) (o := .cells #[.slice A0_0 l0_0.length c0_0] 56 (0, 0)) (bk_ BK486.out)) : gb488 ≠ gb486)); have n8_ := A_ ((by rw [hg]; exact Nat.ne_of_lt (blk_lt (g := gb487) (o := .cells #[.slice A1_0 l1_0.length c1_0] 56 (0, 0)) (bk_ BK487.out)) : gb487 ≠ gb488)); have n9_ := A_ ((by rw [hg]; exact Nat.ne_of_gt (blk_lt (g := gb487) (o := .cells #[.slice A1_0 l1_0.length c1_0] 56 (0, 0)) (bk_ BK487.out)) : gb488 ≠ gb487)); clear BK486; clear BK487; clear HB; have BK486 := n0_; have BK487 := n1_; have HB := n2_; have BK488 := n3_; have GW488 := n4_; have GE488 := n5_; have NB486_488 := n6_; have NB488_486 := n7_; have NB487_488 := n8_; have NB488_487 := n9_; clear n0_ n1_ n2_ n3_ n4_ n5_ n6_ n7_ n8_ n9_; clear hb hbox hg))
  have n0_ := A_ (blk_drew BK486.out)
  have n1_ := A_ (blk_drew BK487.out)
  have n2_ := A_ (blk_drew BK488.out)
  have n3_ := A_ (below_drew1 HB.out)
  clear BK486;clear BK487;clear BK488;clear HB;have BK486 := n0_;have BK487 := n1_;have BK488 := n2_;have HB := n3_;clear n0_ n1_ n2_ n3_
  refine start_ (n := 7) (S := fun w' => w'.cell? ⟨gb486, 0, none⟩ = some (.slice A0_0 l0_0.length c0_0) ∧ w'.cell? ⟨gb487, 0, none⟩ = some (.slice A1_0 l1_0.length c1_0)) (ds := []) #[false, false, false, false, false, false, false] (by kernel_rfl) rfl rfl ⟨(blk_cell BK486.out 0).trans rfl, (blk_cell BK487.out 0).trans rfl⟩ (fun hHeld => ?_)
  generalize w20.drew = w21 at BK486 BK487 BK488 HB hHeld ⊢
  refine pure_ (i := 2) (N := some 16) (v := ?_) (a' := ?_) #[false, false, true, false, false, false, false] rfl rfl (by kernel_rfl) (fun _ _ _ h => h) (Or.inl ⟨by rfl, ?_⟩) ?_ ?_
  rotate_left
  ·intro w'
   go_simp
   with_reducible rfl
  rotate_left
  ·simp only [Act.put, sI, s0, sS, i64_w, i32_w]
   rfl
  refine pure_ (i := 3) (N := some 17) (v := ?_) (a' := ?_) #[false, false, true, true, false, false, false] rfl rfl (by kernel_rfl) (fun _ _ _ h => h) (Or.inl ⟨by rfl, ?_⟩) ?_ ?_
  rotate_left
  ·intro w'
   go_simp
   with_reducible rfl
  rotate_left
  ·simp only [Act.put, sI, s0, sS, i64_w, i32_w]
   rfl
  refine take_ (i := 0) (N := some 14) (v := ?_) (a' := ?_) #[true, false, true, true, false, false, false] rfl rfl (by kernel_rfl) (fun _ _ _ h => h) (Or.inl ⟨by rfl, ?_⟩) hHeld ?_ ?_
  rotate_left
  ·rintro w' ⟨s0, s1⟩
   go_simp
   with_reducible rfl
  rotate_left
  ·simp only [Act.put, sI, s0, sS, i64_w, i32_w]
   rfl
  refine take_ (i := 1) (N := some 15) (v := ?_) (a' := ?_) #[true, true, true, true, false, false, false] rfl rfl (by kernel_rfl) (fun _ _ _ h => h) (Or.inl ⟨by rfl, ?_⟩) hHeld ?_ ?_
  rotate_left
  ·rintro w' ⟨s0, s1⟩
   go_simp
   with_reducible rfl
  rotate_left
  ·simp only [Act.put, sI, s0, sS, i64_w, i32_w]
   rfl
  refine one_ (i := 4) (N := some 18) #[true, true, true, true, true, false, false] rfl rfl (by kernel_rfl) (by decide) (fun K hK => ?_)
  refine goes_ Try.func103 (by kernel_rfl) rfl #[.agg #[.slice A1_0 l1_0.length c1_0], .int .i64 (wrap64 (-a2))] (by rfl) rfl rfl mp_ ?_
  with_reducible refine (trunnionref01_Shl.calls k _ _ l1_0 (wrap64 (-a2)) t495 _ ?side1 ?side2 A16.out).mono ?_
  (case side1 => repeat (first | exact (Kd.C_below HR1_0.out HB.out) | (with_reducible refine Kd.C_alloc ?_ _) | (with_reducible refine Kd.C_drewN ?_ _) | (with_reducible refine Kd.C_drew ?_)))
  (case side2 => exact HC1_0.out)
  rintro e w22 ⟨v496, rfl, ho0, hb⟩
  refine ⟨_, rfl, ?_⟩
  have n0_ := A_ (Kd.R_lower ho0 (below_size (hb3_ HB.out GE486.out GE487.out GE488.out)))
  have n1_ := A_ (blk_below (g := gb486) (o := .cells #[.slice A0_0 l0_0.length c0_0] 56 (0, 0)) (bk_ BK486.out) hb)
  have n2_ := A_ (blk_below (g := gb487) (o := .cells #[.slice A1_0 l1_0.length c1_0] 56 (0, 0)) (bk_ BK487.out) hb)
  have n3_ := A_ (blk_below (g := gb488) (o := .cells #[.slice none 0 0] 56 (0, 0)) (bk_ BK488.out) hb)
  have n4_ := A_ (below_step (hb3_ HB.out GE486.out GE487.out GE488.out) hb)
  clear BK486;clear BK487;clear BK488;clear HB;have HO497 := n0_;have BK486 := n1_;have BK487 := n2_;have BK488 := n3_;have HB := n4_;clear n0_ n1_ n2_ n3_ n4_;(try clear hb);(try clear hb2);(try clear hk);(try clear hi);(try clear ho0)
  obtain ⟨Ao23, co23, eo23⟩ := Kd.R_slice HO497.out
  (first | subst eo23 | (injection eo23 with f1_ f2_ f3_; have f4_ := f1_.symm; have f5_ := f3_.symm; clear f1_ f2_ f3_; subst f4_; subst f5_))
  refine hK.out _ _ ⟨(blk_cell BK486.out 0).trans rfl, (blk_cell BK487.out 0).trans rfl⟩ (fun hHeld => ?_)
  clear hK K
  refine norm_ (a' := ?_) ?_ ?_
  rotate_left
  ·show Act.put _ (some 18) _ = _
   simp only [Act.put, sI, s0, sS, i64_w, i32_w]
   rfl
  refine one_ (i := 5) (N := some 19) #[true, true, true, true, true, true, false] rfl rfl (by kernel_rfl) (by decide) (fun K hK => ?_)
  refine goes_ Try.func175 (by kernel_rfl) rfl #[.agg #[.slice A0_0 l0_0.length c0_0], .agg #[.slice Ao23 t495.length co23]] (by rfl) rfl rfl mp_ ?_
  with_reducible refine (trunnionref03_Quotient.calls k _ _ l0_0 _ _ t495 t498 _ ?side1 ?side2 ?side3 ?side4 A17.out).mono ?_
  (case side1 => repeat (first | exact (Kd.C_below HR0_0.out HB.out) | (with_reducible refine Kd.C_alloc ?_ _) | (with_reducible refine Kd.C_drewN ?_ _) | (with_reducible refine Kd.C_drew ?_)))
  (case side2 => exact HC0_0.out)
  (case side3 => repeat (first | exact (Kd.R_reads' HO497.out).2.2 | (with_reducible refine Kd.C_alloc ?_ _) | (with_reducible refine Kd.C_drewN ?_ _) | (with_reducible refine Kd.C_drew ?_)))
  (case side4 => exact (Kd.R_reads' HO497.out).2.1)
  rintro e w24 ⟨v499, rfl, ho0, hb⟩
  refine ⟨_, rfl, ?_⟩
  have n0_ := A_ (Kd.R_elder' (kr_ HO497.out) (Kd.R_base ho0) hb)
  have n1_ := A_ (Kd.R_lower (Kd.R_new' ho0 (Kd.R_lt (kr_ HO497.out))) (below_size (hb3_ HB.out GE486.out GE487.out GE488.out)))
  have n2_ := A_ (blk_below (g := gb486) (o := .cells #[.slice A0_0 l0_0.length c0_0] 56 (0, 0)) (bk_ BK486.out) hb)
  have n3_ := A_ (blk_below (g := gb487) (o := .cells #[.slice A1_0 l1_0.length c1_0] 56 (0, 0)) (bk_ BK487.out) hb)
  have n4_ := A_ (blk_below (g := gb488) (o := .cells #[.slice none 0 0] 56 (0, 0)) (bk_ BK488.out) hb)
  have n5_ := A_ (below_step (hb3_ HB.out GE486.out GE487.out GE488.out) hb)
  clear HO497;clear BK486;clear BK487;clear BK488;clear HB;have HO497 := n0_;have HO500 := n1_;have BK486 := n2_;have BK487 := n3_;have BK488 := n4_;have HB := n5_;clear n0_ n1_ n2_ n3_ n4_ n5_;(try clear hb);(try clear hb2);(try clear hk);(try clear hi);(try clear ho0)
  obtain ⟨Ao25, co25, eo25⟩ := Kd.R_slice HO500.out
  (first | subst eo25 | (injection eo25 with f1_ f2_ f3_; have f4_ := f1_.symm; have f5_ := f3_.symm; clear f1_ f2_ f3_; subst f4_; subst f5_))
  refine hK.out _ _ ⟨(blk_cell BK486.out 0).trans rfl, (blk_cell BK487.out 0).trans rfl⟩ (fun hHeld => ?_)
  clear hK K
  refine norm_ (a' := ?_) ?_ ?_
  rotate_left
  ·show Act.put _ (some 19) _ = _
   simp only [Act.put, sI, s0, sS, i64_w, i32_w]
   rfl
  refine one_ (i := 6) (N := none) #[true, true, true, true, true, true, true] rfl rfl (by kernel_rfl) (by decide) (fun K hK => ?_)
  have hs26 : w24.cell? ⟨gb488, 0, none⟩ = some (.slice none 0 0) := (blk_cell BK488.out 0).trans rfl
  have hfs26 := blk_frozen BK488.out 0
  have hns26_0 := NB486_488.out
  have hns26_1 := NB487_488.out
  have hms26_0 := NB488_486.out
  have hms26_1 := NB488_487.out
  refine skip_ (w1 := ?_) (by rfl) rfl ?_ ?_
  rotate_left
  ·go_simp
   rfl
  refine hK.out _ _ ⟨((cell_far (p := ⟨gb488, _, none⟩) NB486_488.out _).trans (hHeld.1)), ((cell_far (p := ⟨gb488, _, none⟩) NB487_488.out _).trans (hHeld.2))⟩ (fun hHeld => ?_)
  clear hK K
  refine done_ (by kernel_rfl) ?_
  try go_wp2
  refine bodyPost_ret (results_cell_row rfl _ _ gb488 56 #[.slice Ao25 t498.length co25] (0, 0) _ rfl (by (with_reducible repeat (first | refine blk_drewN ?_ _ | refine blk_drew ?_ | refine blk_alloc ?_ _)); refine blk_put (cs := #[.slice none 0 0]) ?_ 0 _ rfl; (with_reducible repeat (first | refine blk_drewN ?_ _ | refine blk_drew ?_ | refine blk_alloc ?_ _)); exact BK488.out) Try.underlying56 rfl (by kernel_rfl)) rfl ?_
  exact ⟨_, by first | rfl | (simp [errW_none, errW_some] <;> rfl) | (simp [*, errW_none, errW_some] <;> rfl), by (with_reducible repeat (first | apply Kd.R_alloc | apply Kd.R_drewN | apply Kd.R_drew)); exact Kd.R_mono (Kd.R_far (p := ⟨gb488, 0, none⟩) (Kd.R_types HO500.out BK488.out (by decide)) (fun _ hk => hk.2) (.slice Ao25 t498.length co25)) (fun _ hk => trivial), hb3_ HB.out GE486.out GE487.out GE488.out⟩
def trunnionref03_under.f (k : Nat) (l0_0 : List Int) (l1_0 : List Int) (a2 : Int) : Option (Bool) := if a2 ≥ 0 then ((trunnionref01_Shl.f k l0_0 a2).bind fun t456 => ((trunnionref01_Cmp.f k t456 l1_0).bind fun t459 => (some (decide (t459 < 0))))) else ((trunnionref01_Shl.f k l1_0 (wrap64 (-a2))).bind fun t460 => ((trunnionref01_Cmp.f k l0_0 t460).bind fun t463 => (some (decide (t463 < 0)))))
theorem trunnionref03_under.mono : ∀ a0 a1 a2 k, LeO (trunnionref03_under.f k a0 a1 a2) (trunnionref03_under.f (k + 1) a0 a1 a2) := by
 intro a0 a1 a2 k
 unfold trunnionref03_under.f
 repeat' first
   | (with_reducible exact trunnionref01_Cmp.mono _ _ _)
   | (with_reducible exact trunnionref01_Shl.mono _ _ _)
   | (with_reducible exact LeO.refl _)
   | (with_reducible exact LeO.none _)
   | (with_reducible refine LeO.ite ?_ ?_)
   | (with_reducible refine LeO.bind ?_ (fun _ => ?_))
   | exact trunnionref01_Cmp.mono _ _ _
   | exact trunnionref01_Shl.mono _ _ _
   | exact LeO.none _
   | refine LeO.ite ?_ ?_
   | refine LeO.bind ?_ (fun _ => ?_)
def trunnionref03_under.T3 : Bool × List (List Nat × List Nat) := (true, [([], []), ([], []), ([], []), ([2], [2]), ([1, 3], [1, 3]), ([0, 4, 4], [0, 4]), ([5], [5]), ([6, 5, 0, 1, 2, 3, 4, 5, 6], [6])])
def trunnionref03_under.B3 : List Nat := [0, 0, 0, 4, 14, 31, 63, 127]
theorem trunnionref03_under.tab3 : rtab .any (opsOf Try.f158 3) = trunnionref03_under.T3 := by kernel_rfl
theorem trunnionref03_under.bits3 : waitsOk trunnionref03_under.T3.2 trunnionref03_under.B3 = true := by kernel_rfl
theorem trunnionref03_under.calls (k : Nat) (A0_0 : Option Addr) (c0_0 : Nat) (l0_0 : List Int) (A1_0 : Option Addr) (c1_0 : Nat) (l1_0 : List Int) (a2 : Int) (r : Bool) (w : World) (hr0_0 : Kd.C (Kd.int .u64) w A0_0 l0_0.length l0_0) (hc0_0 : l0_0.length ≤ c0_0) (hr1_0 : Kd.C (Kd.int .u64) w A1_0 l1_0.length l1_0) (hc1_0 : l1_0.length ≤ c1_0) (h : trunnionref03_under.f k l0_0 l1_0 a2 = some r) :
  Calls Try.prog 158 #[.agg #[.slice A0_0 l0_0.length c0_0], .agg #[.slice A1_0 l1_0.length c1_0], .int .i64 a2] w fun e w' => e = .returned (.bool r) ∧ Below w.heap.size w w' := by
 have hu56 := Try.underlying56
 have HR0_0 := A_ hr0_0;have HC0_0 := A_ hc0_0;clear hr0_0 hc0_0;have HR1_0 := A_ hr1_0;have HC1_0 := A_ hc1_0;clear hr1_0 hc1_0
 have HB := A_ (Below.refl w.heap.size w)
 have H : (if a2 ≥ 0 then ((trunnionref01_Shl.f k l0_0 a2).bind fun t456 => ((trunnionref01_Cmp.f k t456 l1_0).bind fun t459 => (some (decide (t459 < 0))))) else ((trunnionref01_Shl.f k l1_0 (wrap64 (-a2))).bind fun t460 => ((trunnionref01_Cmp.f k l0_0 t460).bind fun t463 => (some (decide (t463 < 0)))))) = some r := h
 clear h
 by_cases c4 : a2 ≥ 0
 ·rw [if_pos c4] at H
  have c4b0 : decide (0 ≤ a2) = true := decide_eq_true c4
  clear c4
  replace H := Option.bind_eq_some_iff.mp H
  obtain ⟨t456, A50, H⟩ := H
  replace H : ((trunnionref01_Cmp.f k t456 l1_0).bind fun t459 => (some (decide (t459 < 0)))) = some r := H
  have A5 := A_ A50;clear A50
  replace H := Option.bind_eq_some_iff.mp H
  obtain ⟨t459, A60, H⟩ := H
  replace H : (some (decide (t459 < 0))) = some r := H
  have A6 := A_ A60;clear A60
  obtain rfl := Option.some.inj H
  go_enter Try.func158, Try.ntmps158
  try go_wp2_with (first | ((with_reducible refine gate_dst (N := 3) rfl ?_); refine box_event ?hg (N := 3) ?hd (cs := #[.slice A0_0 l0_0.length c0_0]) (t := 56) ?hr ?_; (case hd => rfl); (case hg => rfl); (case hr => first | (go_simp; done) | (go_simp; rfl)); intro gb454 hg w7 hbox hb; have n0_ := A_ (below_step (hb_ HB.out) hb); have n1_ := A_ (hbox); have n2_ := A_ ((by rw [hg]; exact (below_size (hb_ HB.out)) : w.heap.size ≤ gb454)); have n3_ := A_ ((by rw [hg]; exact (below_size (hb_ HB.out)) : w.heap.size ≤ gb454)); clear HB; have HB := n0_; have BK454 := n1_; have GW454 := n2_; have GE454 := n3_; clear n0_ n1_ n2_ n3_; clear hb hbox hg) | ((with_reducible refine gate_dst (N := 4) rfl ?_); refine box_event ?hg (N := 4) ?hd (cs := #[.slice A1_0 l1_0.length c1_0]) (t := 56) ?hr ?_; (case hd => rfl); (case hg => rfl); (case hr => first | (go_simp; done) | (go_simp; rfl)); intro gb455 hg w8 hbox hb; have n0_ := A_ (blk_below (g := gb454) (o := .cells #[.slice A0_0 l0_0.length c0_0] 56 (0, 0)) (bk_ BK454.out) hb); have n1_ := A_ (below_step (hb1_ HB.out GE454.out) hb); have n2_ := A_ (hbox); have n3_ := A_ ((by rw [hg]; exact (below_size (hb1_ HB.out GE454.out)) : w.heap.size ≤ gb455)); have n4_ := A_ ((by rw [hg]; exact (below_size (hb1_ HB.out GE454.out)) : w.heap.size ≤ gb455)); have n5_ := A_ ((by rw [hg]; exact Nat.ne_of_lt (blk_lt (g := gb454) (o := .cells #[.slice A0_0 l0_0.length c0_0] 56 (0, 0)) (bk_ BK454.out)) : gb454 ≠ gb455)); have n6_ := A_ ((by rw [hg]; exact Nat.ne_of_gt (blk_lt (g := gb454) (o := .cells #[.slice A0_0 l0_0.length c0_0] 56 (0, 0)) (bk_ BK454.out)) : gb455 ≠ gb454)); clear BK454; clear HB; have BK454 := n0_; have HB := n1_; have BK455 := n2_; have GW455 := n3_; have GE455 := n4_; have NB454_455 := n5_; have NB455_454 := n6_; clear n0_ n1_ n2_ n3_ n4_ n5_ n6_; clear hb hbox hg))
  have n0_ := A_ (blk_drew BK454.out)
  have n1_ := A_ (blk_drew BK455.out)
  have n2_ := A_ (below_drew1 HB.out)
  clear BK454;clear BK455;clear HB;have BK454 := n0_;have BK455 := n1_;have HB := n2_;clear n0_ n1_ n2_
  refine start_ (n := 7) (S := fun w' => w'.cell? ⟨gb454, 0, none⟩ = some (.slice A0_0 l0_0.length c0_0) ∧ w'.cell? ⟨gb455, 0, none⟩ = some (.slice A1_0 l1_0.length c1_0)) (ds := []) #[false, false, false, false, false, false, false] (by kernel_rfl) rfl rfl ⟨(blk_cell BK454.out 0).trans rfl, (blk_cell BK455.out 0).trans rfl⟩ (fun hHeld => ?_)
  generalize w8.drew = w9 at BK454 BK455 HB hHeld ⊢
  refine pure_ (i := 1) (N := some 10) (v := ?_) (a' := ?_) #[false, true, false, false, false, false, false] rfl rfl (by kernel_rfl) (fun _ _ _ h => h) (Or.inl ⟨by rfl, ?_⟩) ?_ ?_
  rotate_left
  ·intro w'
   go_simp
   with_reducible rfl
  rotate_left
  ·simp only [Act.put, sI, s0, sS, i64_w, i32_w]
   rfl
  refine take_ (i := 0) (N := some 9) (v := ?_) (a' := ?_) #[true, true, false, false, false, false, false] rfl rfl (by kernel_rfl) (fun _ _ _ h => h) (Or.inl ⟨by rfl, ?_⟩) hHeld ?_ ?_
  rotate_left
  ·rintro w' ⟨s0, s1⟩
   go_simp
   with_reducible rfl
  rotate_left
  ·simp only [Act.put, sI, s0, sS, i64_w, i32_w]
   rfl
  refine take_ (i := 3) (N := some 12) (v := ?_) (a' := ?_) #[true, true, false, true, false, false, false] rfl rfl (by kernel_rfl) (fun _ _ _ h => h) (Or.inl ⟨by rfl, ?_⟩) hHeld ?_ ?_
  rotate_left
  ·rintro w' ⟨s0, s1⟩
   go_simp
   with_reducible rfl
  rotate_left
  ·simp only [Act.put, sI, s0, sS, i64_w, i32_w]
   rfl
  refine one_ (i := 2) (N := some 11) #[true, true, true, true, false, false, false] rfl rfl (by kernel_rfl) (by decide) (fun K hK => ?_)
  refine goes_ Try.func103 (by kernel_rfl) rfl #[.agg #[.slice A0_0 l0_0.length c0_0], .int .i64 a2] (by rfl) rfl rfl mp_ ?_
  with_reducible refine (trunnionref01_Shl.calls k _ _ l0_0 a2 t456 _ ?side1 ?side2 A5.out).mono ?_
  (case side1 => repeat (first | exact (Kd.C_below HR0_0.out HB.out) | (with_reducible refine Kd.C_alloc ?_ _) | (with_reducible refine Kd.C_drewN ?_ _) | (with_reducible refine Kd.C_drew ?_)))
  (case side2 => exact HC0_0.out)
  rintro e w10 ⟨v457, rfl, ho0, hb⟩
  refine ⟨_, rfl, ?_⟩
  have n0_ := A_ (Kd.R_lower ho0 (below_size (hb2_ HB.out GE454.out GE455.out)))
  have n1_ := A_ (blk_below (g := gb454) (o := .cells #[.slice A0_0 l0_0.length c0_0] 56 (0, 0)) (bk_ BK454.out) hb)
  have n2_ := A_ (blk_below (g := gb455) (o := .cells #[.slice A1_0 l1_0.length c1_0] 56 (0, 0)) (bk_ BK455.out) hb)
  have n3_ := A_ (below_step (hb2_ HB.out GE454.out GE455.out) hb)
  clear BK454;clear BK455;clear HB;have HO458 := n0_;have BK454 := n1_;have BK455 := n2_;have HB := n3_;clear n0_ n1_ n2_ n3_;(try clear hb);(try clear hb2);(try clear hk);(try clear hi);(try clear ho0)
  obtain ⟨Ao11, co11, eo11⟩ := Kd.R_slice HO458.out
  (first | subst eo11 | (injection eo11 with f1_ f2_ f3_; have f4_ := f1_.symm; have f5_ := f3_.symm; clear f1_ f2_ f3_; subst f4_; subst f5_))
  refine hK.out _ _ ⟨(blk_cell BK454.out 0).trans rfl, (blk_cell BK455.out 0).trans rfl⟩ (fun hHeld => ?_)
  clear hK K
  refine norm_ (a' := ?_) ?_ ?_
  rotate_left
  ·show Act.put _ (some 11) _ = _
   simp only [Act.put, sI, s0, sS, i64_w, i32_w]
   rfl
  refine one_ (i := 4) (N := some 13) #[true, true, true, true, true, false, false] rfl rfl (by kernel_rfl) (by decide) (fun K hK => ?_)
  refine goes_ Try.func100 (by kernel_rfl) rfl #[.agg #[.slice Ao11 t456.length co11], .agg #[.slice A1_0 l1_0.length c1_0]] (by rfl) rfl rfl mp_ ?_
  with_reducible refine (trunnionref01_Cmp.calls k _ _ t456 _ _ l1_0 t459 _ ?side1 ?side2 ?side3 ?side4 A6.out).mono ?_
  (case side1 => repeat (first | exact (Kd.R_reads' HO458.out).2.2 | (with_reducible refine Kd.C_alloc ?_ _) | (with_reducible refine Kd.C_drewN ?_ _) | (with_reducible refine Kd.C_drew ?_)))
  (case side2 => exact (Kd.R_reads' HO458.out).2.1)
  (case side3 => repeat (first | exact (Kd.C_below HR1_0.out HB.out) | (with_reducible refine Kd.C_alloc ?_ _) | (with_reducible refine Kd.C_drewN ?_ _) | (with_reducible refine Kd.C_drew ?_)))
  (case side4 => exact HC1_0.out)
  rintro e w12 ⟨rfl, hb⟩
  refine ⟨_, rfl, ?_⟩
  have n0_ := A_ (Kd.R_below (kr_ HO458.out) hb)
  have n1_ := A_ (blk_below (g := gb454) (o := .cells #[.slice A0_0 l0_0.length c0_0] 56 (0, 0)) (bk_ BK454.out) hb)
  have n2_ := A_ (blk_below (g := gb455) (o := .cells #[.slice A1_0 l1_0.length c1_0] 56 (0, 0)) (bk_ BK455.out) hb)
  have n3_ := A_ (below_step (hb2_ HB.out GE454.out GE455.out) hb)
  clear HO458;clear BK454;clear BK455;clear HB;have HO458 := n0_;have BK454 := n1_;have BK455 := n2_;have HB := n3_;clear n0_ n1_ n2_ n3_;(try clear hb);(try clear hb2);(try clear hk);(try clear hi)
  refine hK.out _ _ ⟨(blk_cell BK454.out 0).trans rfl, (blk_cell BK455.out 0).trans rfl⟩ (fun hHeld => ?_)
  clear hK K
  refine norm_ (a' := ?_) ?_ ?_
  rotate_left
  ·show Act.put _ (some 13) _ = _
   simp only [Act.put, sI, s0, sS, i64_w, i32_w]
   rfl
  refine pure_ (i := 5) (N := some 14) (v := ?_) (a' := ?_) #[true, true, true, true, true, true, false] rfl rfl (by kernel_rfl) (fun _ _ _ h => h) (Or.inl ⟨by rfl, ?_⟩) ?_ ?_
  rotate_left
  ·intro w'
   go_simp
   with_reducible rfl
  rotate_left
  ·simp only [Act.put, sI, s0, sS, i64_w, i32_w]
   rfl
  refine pure_ (i := 6) (N := some 6) (v := ?_) (a' := ?_) #[true, true, true, true, true, true, true] rfl rfl (by kernel_rfl) (fun _ _ _ h => h) (Or.inl ⟨by rfl, ?_⟩) ?_ ?_
  rotate_left
  ·intro w'
   go_simp
   with_reducible rfl
  rotate_left
  ·simp only [Act.put, sI, s0, sS, i64_w, i32_w]
   rfl
  refine done_ (by kernel_rfl) ?_
  try go_wp2
  go_ret
  exact ⟨er_, hb2_ HB.out GE454.out GE455.out⟩
 ·rw [if_neg c4] at H
  have c4b0 : decide (0 ≤ a2) = false := decide_eq_false c4
  clear c4
  replace H := Option.bind_eq_some_iff.mp H
  obtain ⟨t460, A130, H⟩ := H
  replace H : ((trunnionref01_Cmp.f k l0_0 t460).bind fun t463 => (some (decide (t463 < 0)))) = some r := H
  have A13 := A_ A130;clear A130
  replace H := Option.bind_eq_some_iff.mp H
  obtain ⟨t463, A140, H⟩ := H
  replace H : (some (decide (t463 < 0))) = some r := H
  have A14 := A_ A140;clear A140
  obtain rfl := Option.some.inj H
  go_enter Try.func158, Try.ntmps158
  try go_wp2_with (first | ((with_reducible refine gate_dst (N := 3) rfl ?_); refine box_event ?hg (N := 3) ?hd (cs := #[.slice A0_0 l0_0.length c0_0]) (t := 56) ?hr ?_; (case hd => rfl); (case hg => rfl); (case hr => first | (go_simp; done) | (go_simp; rfl)); intro gb454 hg w15 hbox hb; have n0_ := A_ (below_step (hb_ HB.out) hb); have n1_ := A_ (hbox); have n2_ := A_ ((by rw [hg]; exact (below_size (hb_ HB.out)) : w.heap.size ≤ gb454)); have n3_ := A_ ((by rw [hg]; exact (below_size (hb_ HB.out)) : w.heap.size ≤ gb454)); clear HB; have HB := n0_; have BK454 := n1_; have GW454 := n2_; have GE454 := n3_; clear n0_ n1_ n2_ n3_; clear hb hbox hg) | ((with_reducible refine gate_dst (N := 4) rfl ?_); refine box_event ?hg (N := 4) ?hd (cs := #[.slice A1_0 l1_0.length c1_0]) (t := 56) ?hr ?_; (case hd => rfl); (case hg => rfl); (case hr => first | (go_simp; done) | (go_simp; rfl)); intro gb455 hg w16 hbox hb; have n0_ := A_ (blk_below (g := gb454) (o := .cells #[.slice A0_0 l0_0.length c0_0] 56 (0, 0)) (bk_ BK454.out) hb); have n1_ := A_ (below_step (hb1_ HB.out GE454.out) hb); have n2_ := A_ (hbox); have n3_ := A_ ((by rw [hg]; exact (below_size (hb1_ HB.out GE454.out)) : w.heap.size ≤ gb455)); have n4_ := A_ ((by rw [hg]; exact (below_size (hb1_ HB.out GE454.out)) : w.heap.size ≤ gb455)); have n5_ := A_ ((by rw [hg]; exact Nat.ne_of_lt (blk_lt (g := gb454) (o := .cells #[.slice A0_0 l0_0.length c0_0] 56 (0, 0)) (bk_ BK454.out)) : gb454 ≠ gb455)); have n6_ := A_ ((by rw [hg]; exact Nat.ne_of_gt (blk_lt (g := gb454) (o := .cells #[.slice A0_0 l0_0.length c0_0] 56 (0, 0)) (bk_ BK454.out)) : gb455 ≠ gb454)); clear BK454; clear HB; have BK454 := n0_; have HB := n1_; have BK455 := n2_; have GW455 := n3_; have GE455 := n4_; have NB454_455 := n5_; have NB455_454 := n6_; clear n0_ n1_ n2_ n3_ n4_ n5_ n6_; clear hb hbox hg))
  have n0_ := A_ (blk_drew BK454.out)
  have n1_ := A_ (blk_drew BK455.out)
  have n2_ := A_ (below_drew1 HB.out)
  clear BK454;clear BK455;clear HB;have BK454 := n0_;have BK455 := n1_;have HB := n2_;clear n0_ n1_ n2_
  refine start_ (n := 8) (S := fun w' => w'.cell? ⟨gb454, 0, none⟩ = some (.slice A0_0 l0_0.length c0_0) ∧ w'.cell? ⟨gb455, 0, none⟩ = some (.slice A1_0 l1_0.length c1_0)) (ds := []) #[false, false, false, false, false, false, false, false] (by kernel_rfl) rfl rfl ⟨(blk_cell BK454.out 0).trans rfl, (blk_cell BK455.out 0).trans rfl⟩ (fun hHeld => ?_); refine with_tabW trunnionref03_under.tab3 trunnionref03_under.bits3 (fun HT_ HW_ => ?_)
  generalize w16.drew = w17 at BK454 BK455 HB hHeld ⊢
  refine pure_ (i := 2) (N := some 17) (v := ?_) (a' := ?_) #[false, false, true, false, false, false, false, false] rfl rfl (any_of HT_.out (by kernel_rfl)) (fun _ _ _ h => h) (Or.inl ⟨by rfl, ?_⟩) ?_ ?_
  rotate_left
  ·intro w'
   go_simp
   with_reducible rfl
  rotate_left
  ·simp only [Act.put, sI, s0, sS, i64_w, i32_w]
   rfl
  refine pure_ (i := 3) (N := some 18) (v := ?_) (a' := ?_) #[false, false, true, true, false, false, false, false] rfl rfl (any_of HT_.out (by kernel_rfl)) (fun _ _ _ h => h) (Or.inl ⟨by rfl, ?_⟩) ?_ ?_
  rotate_left
  ·intro w'
   go_simp
   with_reducible rfl
  rotate_left
  ·simp only [Act.put, sI, s0, sS, i64_w, i32_w]
   rfl
  refine take_ (i := 0) (N := some 15) (v := ?_) (a' := ?_) #[true, false, true, true, false, false, false, false] rfl rfl (take_ofW HT_.out HW_.out (by kernel_rfl)) (fun _ _ _ h => h) (Or.inl ⟨by rfl, ?_⟩) hHeld ?_ ?_
  rotate_left
  ·rintro w' ⟨s0, s1⟩
   go_simp
   with_reducible rfl
  rotate_left
  ·simp only [Act.put, sI, s0, sS, i64_w, i32_w]
   rfl
  refine take_ (i := 1) (N := some 16) (v := ?_) (a' := ?_) #[true, true, true, true, false, false, false, false] rfl rfl (take_ofW HT_.out HW_.out (by kernel_rfl)) (fun _ _ _ h => h) (Or.inl ⟨by rfl, ?_⟩) hHeld ?_ ?_
  rotate_left
  ·rintro w' ⟨s0, s1⟩
   go_simp
   with_reducible rfl
  rotate_left
  ·simp only [Act.put, sI, s0, sS, i64_w, i32_w]
   rfl
  refine one_ (i := 4) (N := some 19) #[true, true, true, true, true, false, false, false] rfl rfl (one_of HT_.out (by kernel_rfl)) (by decide) (fun K hK => ?_)
  refine goes_ Try.func103 (by kernel_rfl) rfl #[.agg #[.slice A1_0 l1_0.length c1_0], .int .i64 (wrap64 (-a2))] (by rfl) rfl rfl mp_ ?_
  with_reducible refine (trunnionref01_Shl.calls k _ _ l1_0 (wrap64 (-a2)) t460 _ ?side1 ?side2 A13.out).mono ?_
  (case side1 => repeat (first | exact (Kd.C_below HR1_0.out HB.out) | (with_reducible refine Kd.C_alloc ?_ _) | (with_reducible refine Kd.C_drewN ?_ _) | (with_reducible refine Kd.C_drew ?_)))
  (case side2 => exact HC1_0.out)
  rintro e w18 ⟨v461, rfl, ho0, hb⟩
  refine ⟨_, rfl, ?_⟩
  have n0_ := A_ (Kd.R_lower ho0 (below_size (hb2_ HB.out GE454.out GE455.out)))
  have n1_ := A_ (blk_below (g := gb454) (o := .cells #[.slice A0_0 l0_0.length c0_0] 56 (0, 0)) (bk_ BK454.out) hb)
  have n2_ := A_ (blk_below (g := gb455) (o := .cells #[.slice A1_0 l1_0.length c1_0] 56 (0, 0)) (bk_ BK455.out) hb)
  have n3_ := A_ (below_step (hb2_ HB.out GE454.out GE455.out) hb)
  clear BK454;clear BK455;clear HB;have HO462 := n0_;have BK454 := n1_;have BK455 := n2_;have HB := n3_;clear n0_ n1_ n2_ n3_;(try clear hb);(try clear hb2);(try clear hk);(try clear hi);(try clear ho0)
  obtain ⟨Ao19, co19, eo19⟩ := Kd.R_slice HO462.out
  (first | subst eo19 | (injection eo19 with f1_ f2_ f3_; have f4_ := f1_.symm; have f5_ := f3_.symm; clear f1_ f2_ f3_; subst f4_; subst f5_))
  refine hK.out _ _ ⟨(blk_cell BK454.out 0).trans rfl, (blk_cell BK455.out 0).trans rfl⟩ (fun hHeld => ?_)
  clear hK K
  refine norm_ (a' := ?_) ?_ ?_
  rotate_left
  ·show Act.put _ (some 19) _ = _
   simp only [Act.put, sI, s0, sS, i64_w, i32_w]
   rfl
  refine one_ (i := 5) (N := some 20) #[true, true, true, true, true, true, false, false] rfl rfl (one_of HT_.out (by kernel_rfl)) (by decide) (fun K hK => ?_)
  refine goes_ Try.func100 (by kernel_rfl) rfl #[.agg #[.slice A0_0 l0_0.length c0_0], .agg #[.slice Ao19 t460.length co19]] (by rfl) rfl rfl mp_ ?_
  with_reducible refine (trunnionref01_Cmp.calls k _ _ l0_0 _ _ t460 t463 _ ?side1 ?side2 ?side3 ?side4 A14.out).mono ?_
  (case side1 => repeat (first | exact (Kd.C_below HR0_0.out HB.out) | (with_reducible refine Kd.C_alloc ?_ _) | (with_reducible refine Kd.C_drewN ?_ _) | (with_reducible refine Kd.C_drew ?_)))
  (case side2 => exact HC0_0.out)
  (case side3 => repeat (first | exact (Kd.R_reads' HO462.out).2.2 | (with_reducible refine Kd.C_alloc ?_ _) | (with_reducible refine Kd.C_drewN ?_ _) | (with_reducible refine Kd.C_drew ?_)))
  (case side4 => exact (Kd.R_reads' HO462.out).2.1)
  rintro e w20 ⟨rfl, hb⟩
  refine ⟨_, rfl, ?_⟩
  have n0_ := A_ (Kd.R_below (kr_ HO462.out) hb)
  have n1_ := A_ (blk_below (g := gb454) (o := .cells #[.slice A0_0 l0_0.length c0_0] 56 (0, 0)) (bk_ BK454.out) hb)
  have n2_ := A_ (blk_below (g := gb455) (o := .cells #[.slice A1_0 l1_0.length c1_0] 56 (0, 0)) (bk_ BK455.out) hb)
  have n3_ := A_ (below_step (hb2_ HB.out GE454.out GE455.out) hb)
  clear HO462;clear BK454;clear BK455;clear HB;have HO462 := n0_;have BK454 := n1_;have BK455 := n2_;have HB := n3_;clear n0_ n1_ n2_ n3_;(try clear hb);(try clear hb2);(try clear hk);(try clear hi)
  refine hK.out _ _ ⟨(blk_cell BK454.out 0).trans rfl, (blk_cell BK455.out 0).trans rfl⟩ (fun hHeld => ?_)
  clear hK K
  refine norm_ (a' := ?_) ?_ ?_
  rotate_left
  ·show Act.put _ (some 20) _ = _
   simp only [Act.put, sI, s0, sS, i64_w, i32_w]
   rfl
  refine pure_ (i := 6) (N := some 21) (v := ?_) (a' := ?_) #[true, true, true, true, true, true, true, false] rfl rfl (any_of HT_.out (by kernel_rfl)) (fun _ _ _ h => h) (Or.inl ⟨by rfl, ?_⟩) ?_ ?_
  rotate_left
  ·intro w'
   go_simp
   with_reducible rfl
  rotate_left
  ·simp only [Act.put, sI, s0, sS, i64_w, i32_w]
   rfl
  refine pure_ (i := 7) (N := some 6) (v := ?_) (a' := ?_) #[true, true, true, true, true, true, true, true] rfl rfl (any_of HT_.out (by kernel_rfl)) (fun _ _ _ h => h) (Or.inl ⟨by rfl, ?_⟩) ?_ ?_
  rotate_left
  ·intro w'
   go_simp
   with_reducible rfl
  rotate_left
  ·simp only [Act.put, sI, s0, sS, i64_w, i32_w]
   rfl
  refine done_ (done_of HT_.out (by kernel_rfl)) ?_
  try go_wp2
  go_ret
  exact ⟨er_, hb2_ HB.out GE454.out GE455.out⟩
end Go.Proofs.Ytgcgheilbngcoaa.PA
