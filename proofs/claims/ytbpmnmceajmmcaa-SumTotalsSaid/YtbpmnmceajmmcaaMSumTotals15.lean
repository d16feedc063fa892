/- What the Go functions that the statement SumTotals reaches compute, and the mathematics on it, in the order in which one leans on the other; for every input. -/
import Derived.Test.YtbpmnmceajmmcaaVSumTotals0
import Derived.Test.YtbpmnmceajmmcaaMSumTotals14
import Derived.Test.YtbpmnmceajmmcaaMSumTotals0
import Derived.Test.YtbpmnmceajmmcaaMSumTotals7
import Derived.Test.YtbpmnmceajmmcaaMSumTotals10
import Derived.Test.YtbpmnmceajmmcaaMSumTotals9
import Derived.Test.YtbpmnmceajmmcaaMSumTotals1
import Derived.Test.YtbpmnmceajmmcaaMSumTotals4
import Derived.Test.YtbpmnmceajmmcaaMSumTotals11
import Derived.Test.YtbpmnmceajmmcaaRows
import Derived.ProofKit
import Derived.JoinedOf
import Derived.KernelRfl
section
set_option linter.unusedVariables false
set_option linter.unusedSimpArgs false
namespace Go.Proofs.Ytbpmnmceajmmcaa.Th
open Go.RowKit Go.Proofs.YtbpmnmceajmmcaaW.PrintWords Go.Proofs.YtbpmnmceajmmcaaW.PrintLast Go.Proofs.YtbpmnmceajmmcaaW.PrintMore Go.Proofs.Ytbpmnmceajmmcaa.PA Bit Dig Flo
set_option maxRecDepth 20000 in
theorem partsE (w : Int) (hw : w = 32 ∨ w = 64) (p q : Pt) (hp : PtOk p) (hq : PtOk q) : Ev (fun k => sum_parts.f k w p.1 p.2.1 p.2.2.1 p.2.2.2 q.1 q.2.1 q.2.2.1 q.2.2.2) ((addP w p q : Nat) : Int) := by
  obtain ⟨s, kd, e, g⟩ := p
  obtain ⟨t, kd2, e2, g2⟩ := q
  obtain ⟨h1, h2, h0, h3, h4, h5, h6⟩ := hp
  obtain ⟨k1, k2, k0, k3, k4, k5, k6⟩ := hq
  simp only at h1 h2 h0 h3 h4 h5 h6 k1 k2 k0 k3 k4 k5 k6
  obtain ⟨g, rfl⟩ := Int.eq_ofNat_of_zero_le h3
  obtain ⟨g2, rfl⟩ := Int.eq_ofNat_of_zero_le k3
  simp only
  have nar1 : kd = 1 → round_Narrow.f w s kd e g = some ((fx w (pv (s, 1, e, (g : Int))) true : Nat) : Int) := fun h => by
    rw [narrowG w hw s kd e g (by omega)]
    unfold narG
    rw [if_neg (by omega), if_pos h, pv1, fx_sg w (pos_tw (by have := h2 h; omega) _)]
  have nar2 : kd2 = 1 → round_Narrow.f w t kd2 e2 g2 = some ((fx w (pv (t, 1, e2, (g2 : Int))) true : Nat) : Int) := fun h => by
    rw [narrowG w hw t kd2 e2 g2 (by omega)]
    unfold narG
    rw [if_neg (by omega), if_pos h, pv1, fx_sg w (pos_tw (by have := k2 h; omega) _)]
  have fz : ∀ x z z', x ≠ 0 → fx w x z = fx w x z' := fun x z z' h => by unfold fx; rw [if_neg h, if_neg h]
  have nz1 : kd = 1 → pv (s, 1, e, (g : Int)) ≠ 0 := fun h => by
    have := pos_tw (show 0 < g by have := h2 h; omega) e
    rw [pv1]; cases s <;> simp <;> grind
  have nz2 : kd2 = 1 → pv (t, 1, e2, (g2 : Int)) ≠ 0 := fun h => by
    have := pos_tw (show 0 < g2 by have := k2 h; omega) e2
    rw [pv1]; cases t <;> simp <;> grind
  have fin : kd = 1 → kd2 = 1 → Ev (fun k => sum_finite.f k w s kd e g t kd2 e2 g2) ((fx w (pv (s, 1, e, (g : Int)) + pv (t, 1, e2, (g2 : Int))) (s && t) : Nat) : Int) := fun ha hb => by
    unfold sum_finite.f
    by_cases hlt : e < e2
    · have := finOrd w hw t s kd2 kd (g := g2) (g2 := g) (e := e2) (e2 := e) (by have := k2 hb; omega) (by have := h2 ha; omega) (by omega) (by omega) h5 (by omega) k6
      rw [Rat.add_comm, Bool.and_comm]
      exact Ev.pos hlt this
    · exact Ev.neg hlt (finOrd w hw s t kd kd2 (g := g) (g2 := g2) (e := e) (e2 := e2) (by have := h2 ha; omega) (by have := k2 hb; omega) (by omega) (by omega) k5 (by omega) h6)
  unfold sum_parts.f
  by_cases n1 : kd = 3
  · subst n1
    refine Ev.pos rfl (Ev.step (fun _ => sum_parts.j0.eq_2 ..) (Ev.pos rfl (Ev.bs (shN w hw) (Ev.out ?_))))
    simp [addP]
  refine Ev.neg n1 (Ev.step (fun _ => sum_parts.j0.eq_2 ..) ?_)
  by_cases n2 : kd2 = 3
  · subst n2
    refine Ev.pos rfl (Ev.bs (shN w hw) (Ev.out ?_))
    simp [addP]
  refine Ev.neg (by simpa using n2) ?_
  by_cases i1 : kd = 2
  · subst i1
    refine Ev.pos rfl (Ev.step (fun _ => sum_parts.j1.eq_2 ..) (Ev.pos rfl (Ev.bind (r := ((addP w (s, 2, e, (g : Int)) (t, kd2, e2, (g2 : Int)) : Nat) : Int)) ?_ (Ev.out rfl))))
    unfold sum_infinite.f
    refine Ev.pos rfl ?_
    by_cases i2 : kd2 = 2
    · subst i2
      refine Ev.pos rfl (Ev.step (fun _ => sum_infinite.j0.eq_2 ..) ?_)
      by_cases hst : s = t
      · exact Ev.neg (by simpa using hst) (Ev.bs (shI w hw s) (Ev.out (by simp [addP, hst])))
      · exact Ev.pos (by simpa using hst) (Ev.bs (shN w hw) (Ev.out (by simp [addP, hst])))
    · exact Ev.neg i2 (Ev.step (fun _ => sum_infinite.j0.eq_2 ..) (Ev.neg (by decide) (Ev.bs (shI w hw s) (Ev.out (by simp [addP, n2, i2])))))
  refine Ev.neg i1 (Ev.step (fun _ => sum_parts.j1.eq_2 ..) ?_)
  by_cases i2 : kd2 = 2
  · subst i2
    refine Ev.pos rfl (Ev.bind (r := ((addP w (s, kd, e, (g : Int)) (t, 2, e2, (g2 : Int)) : Nat) : Int)) ?_ (Ev.out rfl))
    unfold sum_infinite.f
    exact Ev.neg i1 (Ev.bs (shI w hw t) (Ev.out (by simp [addP, n1, i1])))
  refine Ev.neg (by simpa using i2) ?_
  have hA : addP w (s, kd, e, (g : Int)) (t, kd2, e2, (g2 : Int)) = fx w (pv (s, kd, e, (g : Int)) + pv (t, kd2, e2, (g2 : Int))) (s && t) := by simp [addP, n1, n2, i1, i2]
  rw [hA]
  by_cases z1 : kd = 0
  · subst z1
    refine Ev.pos rfl (Ev.step (fun _ => sum_parts.j2.eq_2 ..) ?_)
    rw [pv0 (p := (s, 0, e, (g : Int))) (by simp), Rat.zero_add]
    by_cases z2 : kd2 = 0
    · subst z2
      rw [pv0 (p := (t, 0, e2, (g2 : Int))) (by simp), fx_zero]
      refine Ev.pos rfl ?_
      cases s
      · exact Ev.neg (by decide) (Ev.bs (shZ w hw false) (Ev.out (by simp)))
      · exact Ev.pos rfl (Ev.bs (shZ w hw t) (Ev.out (by simp)))
    · have o2 : kd2 = 1 := by omega
      refine Ev.neg (by simpa using z2) (Ev.pos rfl (Ev.bs (nar2 o2) (Ev.out ?_)))
      rw [o2, fz _ true (s && t) (nz2 o2)]
  · have o1 : kd = 1 := by omega
    refine Ev.neg z1 (Ev.step (fun _ => sum_parts.j2.eq_2 ..) (Ev.neg (by decide) (Ev.neg z1 ?_)))
    by_cases z2 : kd2 = 0
    · refine Ev.pos z2 (Ev.bs (nar1 o1) (Ev.out ?_))
      rw [o1, z2, pv0 (p := (t, 0, e2, (g2 : Int))) (by simp), Rat.add_zero, fz _ true (s && t) (nz1 o1)]
    · have o2 : kd2 = 1 := by omega
      refine Ev.neg z2 (Ev.bind (fin o1 o2) (Ev.out ?_))
      rw [o1, o2]
theorem sumE (w : Int) (hw : w = 32 ∨ w = 64) (a b : Nat) (ha : a < 18446744073709551616) (hb : b < 18446744073709551616) : Ev (fun k => sum_Add.f k w a b) ((addP w (opn w a) (opn w b) : Nat) : Int) := by
  unfold sum_Add.f
  refine Ev.bs (show sum_known.f w = some true by rcases hw with rfl | rfl <;> rfl) (Ev.pos rfl (Ev.bind (openS w hw a ha) (Ev.bind (openS w hw b hb) ?_)))
  exact Ev.bind (partsE w hw _ _ (opn_ok w hw a) (opn_ok w hw b)) (Ev.out rfl)
theorem can_add (w : Int) (p q : Pt) : Can w (addP w p q) := by
  unfold addP
  split
  · exact .inl rfl
  · split
    · split
      · exact .inl rfl
      · exact .inr ⟨_, _, Nat.le_refl _, rfl⟩
    · split
      · exact .inr ⟨_, _, Nat.le_refl _, rfl⟩
      · exact can_fx ..
theorem awake04 : Ev (fun k => L04_awake.f k) true := Ev.of (fun k => L04_awake.mono k) (k := 12) (by decide +kernel)
theorem sum_no {w : Int} (hw : ¬ (w = 32 ∨ w = 64)) (a b : Int) : Ev (fun k => sum_Add.f k w a b) 0 ∧ Ev (fun k => sum_Sub.f k w a b) 0 := by
  have h : sum_known.f w = some false := by unfold sum_known.f; rw [if_neg (by omega)]; congr 1; rw [beq_eq_false_iff_ne]; omega
  refine ⟨?_, ?_⟩
  · unfold sum_Add.f; exact Ev.bs h (Ev.neg (by decide) (Ev.out rfl))
  · unfold sum_Sub.f; exact Ev.bs h (Ev.neg (by decide) (Ev.out rfl))
noncomputable def foldA (w : Int) : Nat → List Int → Nat
  | x, [] => x
  | x, y :: l => foldA w (addP w (opn w x) (opn w y.toNat)) l
theorem rd_dropA {l : List Int} {i : Nat} (h : i < l.length) : l.drop i = rd l (i : Int) :: l.drop (i + 1) := by
  rw [List.drop_eq_getElem_cons h]
  congr 1
  unfold rd
  rw [Int.toNat_natCast, List.getD_eq_getElem?_getD, List.getElem?_eq_getElem h]; rfl
theorem rd_okA {l : List Int} (hl : ∀ x ∈ l, (Lit.int .u64 x).wf = true) {i : Nat} (h : i < l.length) : ∃ y : Nat, rd l (i : Int) = (y : Int) ∧ y < 18446744073709551616 := by
  have hm : rd l (i : Int) ∈ l := by
    have := rd_dropA h
    exact List.mem_of_mem_drop (by rw [this]; exact List.mem_cons_self)
  obtain ⟨h1, h2⟩ := wf_u64 (hl _ hm)
  obtain ⟨y, hy⟩ := Int.eq_ofNat_of_zero_le h1
  exact ⟨y, hy, by omega⟩
theorem totLoop (w : Int) (hw : w = 32 ∨ w = 64) (l : List Int) (hl : ∀ x ∈ l, (Lit.int .u64 x).wf = true) (hn : l.length ≤ 100) : ∀ (d i x : Nat), i + d = l.length → x < 18446744073709551616 →
    Ev (fun k => sum_Total.l0 k w (x : Int) l (l.length : Int) (i : Int)) ((foldA w x (l.drop i) : Nat) : Int)
  | 0, i, x, hi, hx => by
    refine Ev.step (fun _ => sum_Total.l0.eq_2 ..) (Ev.neg (by omega) (Ev.out ?_))
    rw [List.drop_eq_nil_of_le (by omega)]; rfl
  | d + 1, i, x, hi, hx => by
    obtain ⟨y, hy, hy2⟩ := rd_okA hl (i := i) (by omega)
    refine Ev.step (fun _ => sum_Total.l0.eq_2 ..) (Ev.pos (by omega) (Ev.pos (by omega) (Ev.pos (by omega) ?_)))
    rw [hy]
    refine Ev.bind (sumE w hw x y hx hy2) ?_
    have ih := totLoop w hw l hl hn d (i + 1) (addP w (opn w x) (opn w y)) (by omega) (can_cut hw (can_add w _ _)).2
    rw [w64_id (by omega) (by omega), show ((i : Int) + 1) = ((i + 1 : Nat) : Int) by omega]
    rw [rd_dropA (i := i) (by omega), hy]
    simpa [foldA] using ih
theorem totRef (w : Int) (hw : w = 32 ∨ w = 64) (T : Nat) (l : List Int) (hl : ∀ x ∈ l, (Lit.int .u64 x).wf = true) (hn : l.length ≤ 100) : ∀ (d i x : Nat), i + d = l.length → x < 18446744073709551616 → foldA w x (l.drop i) = T →
    Ev (fun k => L04_SumTotals.l0 k w (T : Int) (x : Int) l (l.length : Int) (i : Int)) true
  | 0, i, x, hi, hx, hT => by
    rw [List.drop_eq_nil_of_le (by omega)] at hT
    simp only [foldA] at hT
    subst hT
    exact Ev.step (fun _ => L04_SumTotals.l0.eq_2 ..) (Ev.neg (by omega) (Ev.out (by simp)))
  | d + 1, i, x, hi, hx, hT => by
    obtain ⟨y, hy, hy2⟩ := rd_okA hl (i := i) (by omega)
    refine Ev.step (fun _ => L04_SumTotals.l0.eq_2 ..) (Ev.pos (by omega) (Ev.pos (by omega) (Ev.pos (by omega) ?_)))
    rw [rd_dropA (i := i) (by omega), hy] at hT
    rw [hy]
    refine Ev.bind (addR w hw x y hx hy2) ?_
    rw [w64_id (by omega) (by omega), show ((i : Int) + 1) = ((i + 1 : Nat) : Int) by omega]
    exact totRef w hw T l hl hn d (i + 1) (addP w (opn w x) (opn w y)) (by omega) (can_cut hw (can_add w _ _)).2 (by simpa [foldA] using hT)
theorem totNo {w : Int} (hw : ¬ (w = 32 ∨ w = 64)) (l : List Int) (hn : l.length ≤ 100) : ∀ (d i : Nat), i + d = l.length → Ev (fun k => sum_Total.l0 k w 0 l (l.length : Int) ((i : Nat) : Int)) 0
  | 0, i, hi => Ev.step (fun _ => sum_Total.l0.eq_2 ..) (Ev.neg (by omega) (Ev.out rfl))
  | d + 1, i, hi => by
    refine Ev.step (fun _ => sum_Total.l0.eq_2 ..) (Ev.pos (by omega) (Ev.pos (by omega) (Ev.pos (by omega) (Ev.bind (sum_no hw _ _).1 ?_))))
    rw [w64_id (by omega) (by omega), show ((i : Int) + 1) = ((i + 1 : Nat) : Int) by omega]
    exact totNo hw l hn d (i + 1) (by omega)
theorem SumTotalsP : L04_SumTotals.Pure := by
  intro w l hw0 hl1 hl2 hl
  refine Ev.rounds ?_
  unfold L04_SumTotals.f
  refine Ev.bind awake04 (Ev.pos rfl ?_)
  by_cases hlen : (l.length : Int) > 100
  · exact Ev.pos hlen (Ev.out rfl)
  · refine Ev.neg hlen ?_
    by_cases hw : w = 32 ∨ w = 64
    · have hA : Ev (fun k => sum_Total.f k w l) ((foldA w 0 l : Nat) : Int) := by
        unfold sum_Total.f
        refine Ev.bs (shZ w hw false) ?_
        rw [show mkN w 0 false = 0 by simp [mkN]]
        exact totLoop w hw l hl (by omega) l.length 0 0 (by omega) (by decide)
      refine Ev.bind hA (Ev.bs (known_f w) ?_)
      rw [decide_eq_true hw]
      exact Ev.pos rfl (totRef w hw _ l hl (by omega) l.length 0 0 (by omega) (by decide) rfl)
    · have hA : Ev (fun k => sum_Total.f k w l) 0 := by
        unfold sum_Total.f
        exact Ev.bs (zero_no hw false) (totNo hw l (by omega) l.length 0 (by omega))
      refine Ev.bind hA (Ev.bs (known_f w) ?_)
      rw [decide_eq_false hw]
      exact Ev.neg (by decide) (Ev.out rfl)
end Go.Proofs.Ytbpmnmceajmmcaa.Th
end
namespace Go.Proofs.Ytbpmnmceajmmcaa.Pure
theorem SumTotals : Go.Proofs.Ytbpmnmceajmmcaa.PA.L04_SumTotals.Pure := Go.Proofs.Ytbpmnmceajmmcaa.Th.SumTotalsP
end Go.Proofs.Ytbpmnmceajmmcaa.Pure
namespace Go.Proofs.Ytbpmnmceajmmcaa.Facts
abbrev ch (n : Nat) : Char := Char.ofNat n
theorem words_word (w : List Char) (r : List Char) (h : w.all (fun c => c != ch 32) = true) : wordsSigns (w ++ ch 32 :: r) = w :: wordsSigns r := by
  induction w with
  | nil => rfl
  | cons c w ih =>
    rw [List.all_cons, Bool.and_eq_true] at h
    have hc : c ≠ ch 32 := bne_iff_ne.1 h.1
    rw [List.cons_append]
    rw [wordsSigns.eq_3 c _ (fun e => hc e), ih h.2]
def w1 : List Char := [ch 104, ch 97, ch 114, ch 110, ch 101, ch 115, ch 115]
def w2 : List Char := [ch 97, ch 57, ch 99, ch 102, ch 100, ch 53, ch 99, ch 57, ch 100, ch 54, ch 48, ch 56, ch 102, ch 100, ch 52, ch 54, ch 54, ch 52, ch 54, ch 53, ch 57, ch 56, ch 53, ch 100, ch 57, ch 55, ch 54, ch 57, ch 102, ch 102, ch 100, ch 56, ch 53, ch 100, ch 49, ch 56, ch 54, ch 56, ch 53, ch 55, ch 54, ch 97, ch 49, ch 53, ch 100, ch 100, ch 56, ch 49, ch 54, ch 55, ch 99, ch 101, ch 56, ch 52, ch 54, ch 98, ch 102, ch 55, ch 57, ch 48, ch 52, ch 55, ch 56, ch 49]
def w3 : List Char := [ch 99, ch 117, ch 116]
set_option maxRecDepth 100000 in
def tailSigns : List Char := [ch 97, ch 116, ch 32, ch 116, ch 114, ch 117, ch 110, ch 110, ch 105, ch 111, ch 110, ch 47, ch 116, ch 114, ch 117, ch 110, ch 110, ch 105, ch 111, ch 110, ch 108, ch 97, ch 119, ch 48, ch 53, ch 46, ch 80, ch 114, ch 111, ch 100, ch 117, ch 99, ch 116, ch 84, ch 119, ch 105, ch 99, ch 101, ch 32, ch 116, ch 114, ch 117, ch 110, ch 110, ch 105, ch 111, ch 110, ch 47, ch 116, ch 114, ch 117, ch 110, ch 110, ch 105, ch 111, ch 110, ch 108, ch 97, ch 119, ch 48, ch 53, ch 46, ch 80, ch 114, ch 111, ch 100, ch 117, ch 99, ch 116, ch 83, ch 99, ch 97, ch 108, ch 101, ch 115, ch 32, ch 116, ch 114, ch 117, ch 110, ch 110, ch 105, ch 111, ch 110, ch 47, ch 116, ch 114, ch 117, ch 110, ch 110, ch 105, ch 111, ch 110, ch 108, ch 97, ch 119, ch 48, ch 54, ch 46, ch 81, ch 117, ch 111, ch 116, ch 105, ch 101, ch 110, ch 116, ch 68, ch 105, ch 118, ch 115, ch 32, ch 116, ch 114, ch 117, ch 110, ch 110, ch 105, ch 111, ch 110, ch 47, ch 116, ch 114, ch 117, ch 110, ch 110, ch 105, ch 111, ch 110, ch 108, ch 97, ch 119, ch 48, ch 54, ch 46, ch 81, ch 117, ch 111, ch 116, ch 105, ch 101, ch 110, ch 116, ch 75, ch 101, ch 101, ch 112, ch 115, ch 32, ch 116, ch 114, ch 117, ch 110, ch 110, ch 105, ch 111, ch 110, ch 47, ch 116, ch 114, ch 117, ch 110, ch 110, ch 105, ch 111, ch 110, ch 108, ch 97, ch 119, ch 48, ch 54, ch 46, ch 81, ch 117, ch 111, ch 116, ch 105, ch 101, ch 110, ch 116, ch 83, ch 99, ch 97, ch 108, ch 101, ch 32, ch 116, ch 114, ch 117, ch 110, ch 110, ch 105, ch 111, ch 110, ch 47, ch 116, ch 114, ch 117, ch 110, ch 110, ch 105, ch 111, ch 110, ch 108, ch 97, ch 119, ch 48, ch 51, ch 46, ch 82, ch 111, ch 117, ch 110, ch 100, ch 80, ch 97, ch 99, ch 107, ch 115, ch 32, ch 116, ch 114, ch 117, ch 110, ch 110, ch 105, ch 111, ch 110, ch 47, ch 116, ch 114, ch 117, ch 110, ch 110, ch 105, ch 111, ch 110, ch 108, ch 97, ch 119, ch 48, ch 51, ch 46, ch 82, ch 111, ch 117, ch 110, ch 100, ch 82, ch 105, ch 115, ch 101, ch 115, ch 32, ch 116, ch 114, ch 117, ch 110, ch 110, ch 105, ch 111, ch 110, ch 47, ch 116, ch 114, ch 117, ch 110, ch 110, ch 105, ch 111, ch 110, ch 108, ch 97, ch 119, ch 48, ch 51, ch 46, ch 82, ch 111, ch 117, ch 110, ch 100, ch 75, ch 101, ch 101, ch 112, ch 115, ch 32, ch 116, ch 114, ch 117, ch 110, ch 110, ch 105, ch 111, ch 110, ch 47, ch 116, ch 114, ch 117, ch 110, ch 110, ch 105, ch 111, ch 110, ch 108, ch 97, ch 119, ch 48, ch 52, ch 46, ch 83, ch 117, ch 109, ch 65, ch 100, ch 100, ch 115, ch 32, ch 116, ch 114, ch 117, ch 110, ch 110, ch 105, ch 111, ch 110, ch 47, ch 116, ch 114, ch 117, ch 110, ch 110, ch 105, ch 111, ch 110, ch 108, ch 97, ch 119, ch 48, ch 52, ch 46, ch 83, ch 117, ch 109, ch 79, ch 114, ch 100, ch 101, ch 114, ch 32, ch 116, ch 114, ch 117, ch 110, ch 110, ch 105, ch 111, ch 110, ch 47, ch 116, ch 114, ch 117, ch 110, ch 110, ch 105, ch 111, ch 110, ch 108, ch 97, ch 119, ch 48, ch 52, ch 46, ch 83, ch 117, ch 109, ch 67, ch 108, ch 111, ch 115, ch 101, ch 32, ch 116, ch 114, ch 117, ch 110, ch 110, ch 105, ch 111, ch 110, ch 47, ch 116, ch 114, ch 117, ch 110, ch 110, ch 105, ch 111, ch 110, ch 108, ch 97, ch 119, ch 48, ch 52, ch 46, ch 83, ch 117, ch 109, ch 84, ch 111, ch 116, ch 97, ch 108, ch 115]
set_option maxRecDepth 100000 in
theorem head_list : Try.prog.initOrder.toList = w1 ++ ch 32 :: (w2 ++ ch 32 :: (w3 ++ ch 32 :: tailSigns)) :=
  (congrArg String.toList (show Try.prog.initOrder = String.ofList (w1 ++ ch 32 :: (w2 ++ ch 32 :: (w3 ++ ch 32 :: tailSigns))) from rfl)).trans String.toList_ofList
theorem words : ∃ rest, behindMainWord (wordsSigns Try.prog.initOrder.toList) = w3 :: rest := by
  refine ⟨wordsSigns tailSigns, ?_⟩
  rw [head_list, words_word w1 _ (by kernel_rfl), words_word w2 _ (by kernel_rfl), words_word w3 _ (by kernel_rfl)]
  generalize wordsSigns tailSigns = rest
  have e : ((w1 == "harness".toList || w1 == "ownmain".toList) && isSumSigns w2) = true := by kernel_rfl
  show (if ((w1 == "harness".toList || w1 == "ownmain".toList) && isSumSigns w2) = true then w3 :: rest else w1 :: w2 :: w3 :: rest) = w3 :: rest
  rw [if_pos e]
theorem c3 : (w3 == "gc".toList) = false ∧ (w3 == "spec".toList) = false ∧ (w3 == "cut".toList) = true ∧ (w3 == "carried".toList) = false ∧ (w3 == "finals".toList) = false := ⟨by kernel_rfl, by kernel_rfl, by kernel_rfl, by kernel_rfl, by kernel_rfl⟩
theorem strip (rest : List (List Char)) : stripLifts liftWords (w3 :: rest) = ([], w3 :: rest) := by
  have key : ∀ l : List String, l.all (fun o => !(w3 == o.toList)) = true → stripLifts l (w3 :: rest) = ([], w3 :: rest) := by
    intro l
    induction l with
    | nil => intro _; rfl
    | cons o l ih =>
      intro h
      rw [List.all_cons, Bool.and_eq_true] at h
      unfold stripLifts
      rw [if_neg (fun e => by have h1 := h.1; rw [e] at h1; cases h1)]
      exact ih h.2
  exact key liftWords (by kernel_rfl)
theorem make_of (P : Program) (h : ∃ rest, behindMainWord (wordsSigns P.initOrder.toList) = w3 :: rest) : P.make = some .cut := by
  obtain ⟨rest, h⟩ := h
  unfold Program.make
  rw [h]
  show (if (w3 == "gc".toList || w3 == "spec".toList) = true then some Make.whole else if (w3 == "cut".toList || (w3 == "finals".toList && rest.head? == some "cut".toList)) = true then some Make.cut else _) = some Make.cut
  rw [if_neg (by rw [c3.1, c3.2.1]; decide), if_pos (by rw [c3.2.2.1, Bool.true_or])]
set_option maxRecDepth 100000 in
theorem liftsFact : Try.prog.liftsFinal = false := by
  unfold Program.liftsFinal Program.headLifts
  rw [head_list]
  kernel_rfl
theorem doorFact : (!Try.prog.laysLater && !Try.prog.bearsReflect && Try.prog.doorFits []) = true := by kernel_rfl
theorem makeFact : Try.prog.make = some .cut := make_of _ words
theorem enter_of (P : Program) (h : ∃ rest, behindMainWord (wordsSigns P.initOrder.toList) = w3 :: rest) (d : (!P.laysLater && !P.bearsReflect && P.doorFits []) = true) : P.mayEnter = true := by
  obtain ⟨rest, h⟩ := h
  rw [Bool.and_eq_true, Bool.and_eq_true] at d
  have e : ((some w3 == some "cut".toList) : Bool) = true := by kernel_rfl
  unfold Program.mayEnter
  rw [h]
  show ((_ || _) || ((stripLifts liftWords (w3 :: rest)).2.head? == some "cut".toList && ((stripLifts liftWords (w3 :: rest)).1.contains "finals" || !P.laysLater) && ((stripLifts liftWords (w3 :: rest)).1.contains "reflectrows" || !P.bearsReflect) &&
      ((stripLifts liftWords (w3 :: rest)).1.contains "reflectrows" || !(stripLifts liftWords (w3 :: rest)).1.contains "leanrows") && P.doorFits (stripLifts liftWords (w3 :: rest)).1)) = true
  rw [strip, Bool.or_eq_true]
  refine .inr ?_
  rw [Bool.and_eq_true, Bool.and_eq_true, Bool.and_eq_true, Bool.and_eq_true, Bool.or_eq_true, Bool.or_eq_true]
  exact ⟨⟨⟨⟨e, .inr d.1.1⟩, .inr d.1.2⟩, rfl⟩, d.2⟩
theorem enterFact : Try.prog.mayEnter = true := enter_of _ words doorFact
end Go.Proofs.Ytbpmnmceajmmcaa.Facts
