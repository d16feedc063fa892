/- What the Go functions that the statement SumOrder reaches compute, and the mathematics on it, in the order in which one leans on the other; for every input. -/
import Derived.Test.YtbpmnmceajmmcaaVSumOrder0
import Derived.Test.YtbpmnmceajmmcaaMSumOrder12
import Derived.Test.YtbpmnmceajmmcaaMSumOrder8
import Derived.Test.YtbpmnmceajmmcaaMSumOrder0
import Derived.Test.YtbpmnmceajmmcaaMSumOrder6
import Derived.Test.YtbpmnmceajmmcaaMSumOrder7
import Derived.Test.YtbpmnmceajmmcaaMSumOrder1
import Derived.Test.YtbpmnmceajmmcaaMSumOrder5
import Derived.Test.YtbpmnmceajmmcaaMSumOrder9
import Derived.Test.YtbpmnmceajmmcaaMSumOrder11
import Derived.Test.YtbpmnmceajmmcaaRows
import Derived.ProofKit
import Derived.JoinedOf
import Derived.KernelRfl
section
set_option linter.unusedVariables false
set_option linter.unusedSimpArgs false
namespace Go.Proofs.Ytbpmnmceajmmcaa.Th
open Go.RowKit Go.Proofs.YtbpmnmceajmmcaaW.PrintWords Go.Proofs.YtbpmnmceajmmcaaW.PrintLast Go.Proofs.YtbpmnmceajmmcaaW.PrintMore Go.Proofs.Ytbpmnmceajmmcaa.PA Bit Dig Flo
theorem wAdd {A B : Nat} (h : A + B < 340282366920938463463374607431768211456) : wide_Add.f (wH A) (wL A) (wH B) (wL B) = some (wH (A + B), wL (A + B)) := by
  have := addW (A / 18446744073709551616) (A % 18446744073709551616) (B / 18446744073709551616) (B % 18446744073709551616) (hi64 (by omega)) (lo64 A) (hi64 (by omega)) (lo64 B)
  rw [wn_div, wn_div, Nat.mod_eq_of_lt h] at this
  exact this
theorem wSub {A B : Nat} (h : A < 340282366920938463463374607431768211456) (hb : B ≤ A) : wide_Sub.f (wH A) (wL A) (wH B) (wL B) = some (wH (A - B), wL (A - B)) := by
  have := subW (A / 18446744073709551616) (A % 18446744073709551616) (B / 18446744073709551616) (B % 18446744073709551616) (hi64 (by omega)) (lo64 A) (hi64 (by omega)) (lo64 B)
  rw [wn_div, wn_div, show (A + (340282366920938463463374607431768211456 - B)) % 340282366920938463463374607431768211456 = A - B by omega] at this
  exact this
theorem wCmp (A B : Nat) : wide_Cmp.f (wH A) (wL A) (wH B) (wL B) = some (cmpN A B) := by
  have := cmpW (A / 18446744073709551616) (A % 18446744073709551616) (B / 18446744073709551616) (B % 18446744073709551616) (lo64 A) (lo64 B)
  rwa [wn_div, wn_div] at this
theorem wPack (w : Int) (hw : w = 32 ∨ w = 64) (s : Bool) (V : Nat) (hV : V < 340282366920938463463374607431768211456) (e : Int) (m : Bool) : round_Pack.f w s (wH V) (wL V) e m = some ((mkN w (pkm (fmt w) V e m) s : Nat) : Int) := packV w hw s V hV e m
theorem alignE (s t : Bool) (k1 k2 : Int) {g g2 : Nat} {e e2 : Int} (hg : g < 9007199254740992) (hg2 : g2 < 9007199254740992) (h1 : -1100 ≤ e2) (h2 : e2 ≤ e) (h3 : e ≤ 1000) {u d : Nat} (hu : (u : Int) = min (e - e2) 64) (hd : (d : Int) = e - e2 - u) :
    sum_align.f s k1 e g t k2 e2 g2 = some (wH (g * 2 ^ u), wL (g * 2 ^ u), wH (g2 / 2 ^ d), wL (g2 / 2 ^ d), e - u, decide (g2 % 2 ^ d ≠ 0)) := by
  have hp : 2 ^ u ≤ 18446744073709551616 := by
    have := Nat.pow_le_pow_right (show 0 < 2 by decide) (show u ≤ 64 by omega)
    rwa [show (2 : Nat) ^ 64 = 18446744073709551616 by decide] at this
  have hm : g * 2 ^ u < 340282366920938463463374607431768211456 := by
    have := Nat.mul_le_mul (show g ≤ 9007199254740992 by omega) hp
    omega
  unfold sum_align.f
  rw [ofW g, Option.bind_some, w64_id (n := e - e2) (by omega) (by omega)]
  have hmn : mn (e - e2) 64 = (u : Int) := by unfold mn; rw [hu]; split <;> omega
  rw [hmn]
  have hl := wLeft (V := g) (by omega) u (by omega) hm
  have hr := wRight (V := g2) (by omega) d (by omega)
  rw [(wSmall (V := g) (by omega)).1, (wSmall (V := g) (by omega)).2] at hl
  rw [(wSmall (V := g2) (by omega)).1, (wSmall (V := g2) (by omega)).2] at hr
  simp only
  rw [hl, Option.bind_some, ofW g2, Option.bind_some, w64_id (n := e - e2 - u) (by omega) (by omega), ← hd]
  simp only
  rw [hr, Option.bind_some, w64_id (n := e - u) (by omega) (by omega)]
theorem natSub {a b : Nat} (h : b ≤ a) : ((a - b : Nat) : Rat) = (a : Rat) - b := by
  obtain ⟨c, rfl⟩ := Nat.le.dest h
  rw [Nat.add_sub_cancel_left, Rat.natCast_add]; grind
theorem subMul (a b c : Rat) : (a - b) * c = a * c - b * c := by grind
theorem finOrd (w : Int) (hw : w = 32 ∨ w = 64) (s t : Bool) (k1 k2 : Int) {g g2 : Nat} {e e2 : Int} (g0 : 0 < g) (g20 : 0 < g2) (hg : g < 9007199254740992) (hg2 : g2 < 9007199254740992) (h1 : -1100 ≤ e2) (h2 : e2 ≤ e) (h3 : e ≤ 1000) :
    Ev (fun k => sum_finite.j0 k w s k1 e g t k2 e2 g2) ((fx w (pv (s, 1, e, (g : Int)) + pv (t, 1, e2, (g2 : Int))) (s && t) : Nat) : Int) := by
  obtain ⟨u, hu⟩ : ∃ u : Nat, (u : Int) = min (e - e2) 64 := ⟨(min (e - e2) 64).toNat, by omega⟩
  obtain ⟨d, hd⟩ : ∃ d : Nat, (d : Int) = e - e2 - u := ⟨(e - e2 - u).toNat, by omega⟩
  have al := alignE s t k1 k2 hg hg2 h1 h2 h3 hu hd
  obtain ⟨f1, f2, f3, f4, f5⟩ := align_eq (sa := g) (sb := g2) h2 g0 hu hd
  have hp : 2 ^ u ≤ 18446744073709551616 := by
    have := Nat.pow_le_pow_right (show 0 < 2 by decide) (show u ≤ 64 by omega)
    rwa [show (2 : Nat) ^ 64 = 18446744073709551616 by decide] at this
  have hm : g * 2 ^ u < 170141183460469231731687303715884105728 := by
    have := Nat.mul_le_mul (show g ≤ 9007199254740992 by omega) hp
    omega
  have hb : g2 / 2 ^ d ≤ g2 := Nat.div_le_self _ _
  have hA : g2 % 2 ^ d ≠ 0 → 18446744073709551616 ≤ g * 2 ^ u := fun h => by
    have := (f5 h).2
    rw [this, show (2 : Nat) ^ 64 = 18446744073709551616 by decide]
    omega
  have pX := pos_tw g0 e
  have pY := pos_tw g20 e2
  rw [pv1, pv1]
  generalize (g : Rat) * tw e = X at *
  generalize (g2 : Rat) * tw e2 = Y at *
  generalize hAA : g * 2 ^ u = A at *
  generalize hBB : g2 / 2 ^ d = B at *
  generalize hEE : e - (u : Int) = E at *
  have T := tw_pos E
  obtain ⟨lost, hl⟩ : ∃ l : Bool, decide (g2 % 2 ^ d ≠ 0) = l := ⟨_, rfl⟩
  rw [hl] at al
  have c0 : lost = false → Y = (B : Rat) * tw E := fun h => f4 (by rw [h] at hl; simpa using hl)
  have c1 : lost = true → (B : Rat) * tw E < Y ∧ 18446744073709551616 ≤ A := fun h => by
    rw [h] at hl
    have : g2 % 2 ^ d ≠ 0 := by simpa using hl
    exact ⟨(f5 this).1, hA this⟩
  clear f4 f5 hA hl
  have cast1 : ∀ n : Nat, ((n + 1 : Nat) : Rat) = (n : Rat) + 1 := fun n => by push_cast; rfl
  refine Ev.step (fun _ => sum_finite.j0.eq_2 ..) (Ev.bs al ?_)
  simp only
  by_cases hst : s = t
  · subst hst
    refine Ev.pos (by simp) (Ev.bs (wAdd (by omega)) (Ev.bs (wPack w hw s _ (by omega) E lost) (Ev.out ?_)))
    have e1 : (if s then -X else X) + (if s then -Y else Y) = if s then -(X + Y) else X + Y := by cases s <;> simp <;> grind
    rw [e1, fx_sg w (by grind)]
    cases hlo : lost
    · rw [pk_ex w _ _ (by omega), f1, c0 hlo, Rat.natCast_add, Rat.add_mul]
    · rw [pk_mo w (x := X + Y) (by omega) (by have := (c1 hlo).2; omega)]
      · have := (c1 hlo).1
        rw [Rat.natCast_add, Rat.add_mul, f1]; grind
      · rw [cast1, Rat.natCast_add, f1]
        rw [cast1] at f3
        grind
  · refine Ev.neg (by simpa using hst) (Ev.bs (wCmp A B) ?_)
    have e1 : (if s then -X else X) + (if t then -Y else Y) = if s then -(X - Y) else X - Y := by revert hst; cases s <;> cases t <;> simp <;> grind
    have e2' : (if s then -X else X) + (if t then -Y else Y) = if t then -(Y - X) else Y - X := by revert hst; cases s <;> cases t <;> simp <;> grind
    have ez : (s && t) = false := by revert hst; cases s <;> cases t <;> simp
    rcases Nat.lt_trichotomy A B with hc | hc | hc
    · have hlo : lost = false := by
        cases hlo : lost
        · rfl
        · have := (c1 hlo).2; omega
      rw [show cmpN A B = -1 by unfold cmpN; rw [if_pos hc]]
      refine Ev.neg (by decide) (Ev.pos rfl (Ev.bs (wSub (by omega) (by omega)) (Ev.bs (wPack w hw t _ (by omega) E false) (Ev.out ?_))))
      have hlt : (A : Rat) * tw E < (B : Rat) * tw E := mul_lt (nat_lt.2 hc) T
      rw [e2', fx_sg w (by rw [f1, c0 hlo]; grind), pk_ex w _ _ (by omega), f1, c0 hlo]
      rw [show ((B - A : Nat) : Rat) = (B : Rat) - A by rw [natSub (by omega)], subMul]
    · have hlo : lost = false := by
        cases hlo : lost
        · rfl
        · have := (c1 hlo).2; omega
      rw [show cmpN A B = 0 by unfold cmpN; rw [if_neg (by omega), if_neg (by omega)]]
      refine Ev.pos rfl (Ev.bs (shZ w hw false) (Ev.out ?_))
      rw [e1, f1, c0 hlo, hc, show (B : Rat) * tw E - (B : Rat) * tw E = 0 by grind, ez]
      cases s <;> simp [fx_zero]
    · rw [show cmpN A B = 1 by unfold cmpN; rw [if_neg (by omega), if_pos hc]]
      refine Ev.neg (by decide) (Ev.neg (by decide) (Ev.bs (wSub (by omega) (by omega)) ?_))
      cases hlo : lost
      · refine Ev.neg (by decide) (Ev.bs (wPack w hw s _ (by omega) E false) (Ev.out ?_))
        have hlt : (B : Rat) * tw E < (A : Rat) * tw E := mul_lt (nat_lt.2 hc) T
        rw [e1, fx_sg w (by rw [f1, c0 hlo]; grind), pk_ex w _ _ (by omega), f1, c0 hlo]
        rw [show ((A - B : Nat) : Rat) = (A : Rat) - B by rw [natSub (by omega)], subMul]
      · have h64 := (c1 hlo).2
        have hlt := (c1 hlo).1
        have hle : ((B + 1 : Nat) : Rat) * tw E ≤ (A : Rat) * tw E := mul_le (nat_le.2 (by omega)) T
        have w1 : wide_Sub.f (wH (A - B)) (wL (A - B)) 0 1 = some (wH (A - B - 1), wL (A - B - 1)) := by
          have := wSub (A := A - B) (B := 1) (by omega) (by omega)
          rwa [(wSmall (V := 1) (by decide)).1, (wSmall (V := 1) (by decide)).2] at this
        refine Ev.pos rfl (Ev.bs (show wide_Of.f 1 = some (0, 1) from rfl) (Ev.bs w1 (Ev.bs (wPack w hw s _ (by omega) E true) (Ev.out ?_))))
        rw [e1, fx_sg w (by rw [f1]; grind)]
        rw [pk_mo w (x := X - Y) (by omega) (by omega)]
        · rw [f1]
          have : ((A - B - 1 : Nat) : Rat) = (A : Rat) - B - 1 := by rw [natSub (by omega), natSub (by omega)]; rfl
          rw [this]
          rw [cast1] at f3
          grind
        · rw [f1, show A - B - 1 + 1 = A - B by omega, natSub (by omega)]
          grind
theorem pvF (s : Bool) {kd e : Int} {g : Nat} (h : kd = 1 ∨ g = 0) : pv (s, kd, e, (g : Int)) = if s then -((g : Rat) * tw e) else (g : Rat) * tw e := by
  rcases h with rfl | rfl
  · exact pv1 s e g
  · unfold pv
    simp only
    split
    · simp
    · cases s <;> simp
theorem toLow {g : Nat} {e lo : Int} {u : Nat} (h : (u : Int) = e - lo) : (g : Rat) * tw e = ((g * 2 ^ u : Nat) : Rat) * tw lo := by
  rw [show e = (u : Int) + lo by omega, tw_add, tw_nat]
  push_cast
  grind
theorem fx_sgn (w : Int) (n : Nat) (e : Int) (s : Bool) : fx w (if s then -((n : Rat) * tw e) else (n : Rat) * tw e) s = mkN w ((fmt w).rnd ((n : Rat) * tw e)) s := by
  rcases Nat.eq_zero_or_pos n with h | h
  · subst h
    rw [show ((0 : Nat) : Rat) * tw e = 0 by simp, Fmt.rnd_zero]
    cases s <;> simp [fx_zero, Rat.neg_zero]
  · exact fx_sg w (pos_tw h e) s s
theorem exactR (w : Int) (hw : w = 32 ∨ w = 64) (p q : Pt) (hp : PtOk p) (hq : PtOk q) : Ev (fun k => r4_exact.f k w p.1 p.2.1 p.2.2.1 p.2.2.2 q.1 q.2.1 q.2.2.1 q.2.2.2) ((fx w (pv p + pv q) (p.1 && q.1) : Nat) : Int) := by
  obtain ⟨s, kd, e, g⟩ := p
  obtain ⟨t, kd2, e2, g2⟩ := q
  obtain ⟨h1, h2, h0, h3, h4, h5, h6⟩ := hp
  obtain ⟨k1, k2, k0, k3, k4, k5, k6⟩ := hq
  simp only at h1 h2 h0 h3 h4 h5 h6 k1 k2 k0 k3 k4 k5 k6
  obtain ⟨g, rfl⟩ := Int.eq_ofNat_of_zero_le h3
  obtain ⟨g2, rfl⟩ := Int.eq_ofNat_of_zero_le k3
  simp only
  have f1 : kd = 1 ∨ g = 0 := by
    by_cases h : kd = 1
    · exact .inl h
    · have := (h0 h).1; exact .inr (by omega)
  have f2 : kd2 = 1 ∨ g2 = 0 := by
    by_cases h : kd2 = 1
    · exact .inl h
    · have := (k0 h).1; exact .inr (by omega)
  obtain ⟨lo, hlo⟩ : ∃ lo, mn e e2 = lo := ⟨_, rfl⟩
  have hl : lo ≤ e ∧ lo ≤ e2 ∧ (lo = e ∨ lo = e2) := by unfold mn at hlo; split at hlo <;> omega
  obtain ⟨u, hu⟩ := Int.eq_ofNat_of_zero_le (show 0 ≤ e - lo by omega)
  obtain ⟨v, hv⟩ := Int.eq_ofNat_of_zero_le (show 0 ≤ e2 - lo by omega)
  rw [pvF s f1, pvF t f2, toLow (g := g) hu.symm, toLow (g := g2) hv.symm]
  have b1 := bl53 (show g < 9007199254740992 by omega)
  have b2 := bl53 (show g2 < 9007199254740992 by omega)
  have b3 := bl_shl g u
  have b4 := bl_shl g2 v
  unfold r4_exact.f
  rw [hlo, w64_id (n := e - lo) (by omega) (by omega), w64_id (n := e2 - lo) (by omega) (by omega), hu, hv]
  refine Ev.bind (of_dg g (by omega)) (Ev.bind (shl_bl g u (by omega) (by omega)) (Ev.bind (of_dg g2 (by omega)) (Ev.bind (shl_bl g2 v (by omega) (by omega)) ?_)))
  generalize g * 2 ^ u = X at *
  generalize g2 * 2 ^ v = Y at *
  have b5 := bl_add X Y
  by_cases c1 : s = t
  · subst c1
    refine Ev.pos (by simp) (Ev.bind (add_bl X Y (by omega) (by omega)) (Ev.bind (exactS w hw s (X + Y) lo (by omega)) (Ev.out ?_)))
    rw [Bool.and_self, ← fx_sgn]
    congr 2
    push_cast
    cases s <;> simp <;> grind
  · refine Ev.neg (by simpa using c1) (Ev.bind (cmp_bl X Y (by omega) (by omega)) ?_)
    have hst : (s && t) = false := by cases s <;> cases t <;> simp at c1 ⊢
    rw [hst]
    unfold cmpN
    rcases Nat.lt_trichotomy X Y with c2 | c2 | c2
    · rw [if_pos c2]
      have b6 : bl (Y - X) ≤ bl Y := bl_mono (Nat.sub_le _ _)
      refine Ev.neg (by decide) (Ev.pos (by decide) (Ev.bind (sub_bl Y X (by omega) (by omega)) (Ev.bind (exactS w hw t (Y - X) lo (by omega)) (Ev.out ?_))))
      have P := pos_tw (show 0 < Y - X by omega) lo
      rw [← fx_sg w P t false]
      congr 2
      have e1 : ((Y - X : Nat) : Rat) = (Y : Rat) - (X : Rat) := by
        have : ((Y - X : Nat) : Rat) + (X : Rat) = (Y : Rat) := by exact_mod_cast congrArg (Nat.cast (R := Rat)) (show Y - X + X = Y by omega)
        grind
      rw [e1]
      cases s <;> cases t <;> simp at c1 ⊢ <;> grind
    · subst c2
      rw [if_neg (Nat.lt_irrefl _), if_neg (Nat.lt_irrefl _)]
      refine Ev.pos rfl (Ev.out ?_)
      rw [show (if s = true then -((X : Rat) * tw lo) else (X : Rat) * tw lo) + (if t = true then -((X : Rat) * tw lo) else (X : Rat) * tw lo) = 0 by cases s <;> cases t <;> simp at c1 ⊢ <;> grind, fx_zero]
      simp [mkN]
    · rw [if_neg (by omega), if_pos c2]
      have b6 : bl (X - Y) ≤ bl X := bl_mono (Nat.sub_le _ _)
      refine Ev.neg (by decide) (Ev.neg (by decide) (Ev.bind (sub_bl X Y (by omega) (by omega)) (Ev.bind (exactS w hw s (X - Y) lo (by omega)) (Ev.out ?_))))
      have P := pos_tw (show 0 < X - Y by omega) lo
      rw [← fx_sg w P s false]
      congr 2
      have e1 : ((X - Y : Nat) : Rat) = (X : Rat) - (Y : Rat) := by
        have : ((X - Y : Nat) : Rat) + (Y : Rat) = (X : Rat) := by exact_mod_cast congrArg (Nat.cast (R := Rat)) (show X - Y + Y = X by omega)
        grind
      rw [e1]
      cases s <;> cases t <;> simp at c1 ⊢ <;> grind
theorem partsR (w : Int) (hw : w = 32 ∨ w = 64) (p q : Pt) (hp : PtOk p) (hq : PtOk q) : Ev (fun k => r4_parts.f k w p.1 p.2.1 p.2.2.1 p.2.2.2 q.1 q.2.1 q.2.2.1 q.2.2.2) ((addP w p q : Nat) : Int) := by
  have ex := exactR w hw p q hp hq
  obtain ⟨s, kd, e, g⟩ := p
  obtain ⟨t, kd2, e2, g2⟩ := q
  simp only at ex ⊢
  unfold r4_parts.f
  by_cases n1 : kd = 3
  · subst n1
    refine Ev.pos rfl (Ev.step (fun _ => r4_parts.j0.eq_2 ..) (Ev.pos rfl (Ev.bind (r2Nanw w hw) (Ev.out ?_))))
    simp [addP]
  refine Ev.neg n1 ?_
  by_cases n2 : kd2 = 3
  · subst n2
    refine Ev.pos rfl (Ev.step (fun _ => r4_parts.j0.eq_2 ..) (Ev.pos rfl (Ev.bind (r2Nanw w hw) (Ev.out ?_))))
    simp [addP]
  refine Ev.neg n2 ?_
  by_cases i1 : kd = 2
  · subst i1
    refine Ev.pos rfl ?_
    by_cases i2 : kd2 = 2
    · subst i2
      refine Ev.pos rfl (Ev.step (fun _ => r4_parts.j0.eq_2 ..) ?_)
      by_cases c : s = t
      · subst c
        exact Ev.neg (by simp) (Ev.pos rfl (Ev.bind (r2Infw w hw s) (Ev.out (by simp [addP]))))
      · exact Ev.pos (by simpa using c) (Ev.bind (r2Nanw w hw) (Ev.out (by simp [addP, c])))
    · exact Ev.neg i2 (Ev.step (fun _ => r4_parts.j0.eq_2 ..) (Ev.neg (by decide) (Ev.pos rfl (Ev.bind (r2Infw w hw s) (Ev.out (by simp [addP, n2, i2]))))))
  · refine Ev.neg i1 (Ev.step (fun _ => r4_parts.j0.eq_2 ..) (Ev.neg (by decide) (Ev.neg i1 ?_)))
    by_cases i2 : kd2 = 2
    · subst i2
      exact Ev.pos rfl (Ev.bind (r2Infw w hw t) (Ev.out (by simp [addP, n1, i1])))
    · refine Ev.neg i2 (Ev.bind ex (Ev.out ?_))
      simp [addP, n1, n2, i1, i2]
theorem subR (w : Int) (hw : w = 32 ∨ w = 64) (a b : Nat) (ha : a < 18446744073709551616) (hb : b < 18446744073709551616) : Ev (fun k => r4_Sub.f k w a b) ((addP w (opn w a) (!(opn w b).1, (opn w b).2) : Nat) : Int) := by
  unfold r4_Sub.f
  exact Ev.bind (r2Open w hw b hb) (Ev.bind (r2Open w hw a ha) (Ev.bind (partsR w hw (opn w a) (!(opn w b).1, (opn w b).2) (opn_ok w hw a) (opn_ok w hw b)) (Ev.out rfl)))
set_option maxRecDepth 20000 in
theorem partsE (w : Int) (hw : w = 32 ∨ w = 64) (p q : Pt) (hp : PtOk p) (hq : PtOk q) : Ev (fun k => sum_parts.f k w p.1 p.2.1 p.2.2.1 p.2.2.2 q.1 q.2.1 q.2.2.1 q.2.2.2) ((addP w p q : Nat) : Int) := by
  obtain ⟨s, kd, e, g⟩ := p
  obtain ⟨t, kd2, e2, g2⟩ := q
  obtain ⟨h1, h2, h0, h3, h4, h5, h6⟩ := hp
  obtain ⟨k1, k2, k0, k3, k4, k5, k6⟩ := hq
  simp only at h1 h2 h0 h3 h4 h5 h6 k1 k2 k0 k3 k4 k5 k6
  obtain ⟨g, rfl⟩ := Int.eq_ofNat_of_zero_le h3
  obtain ⟨g2, rfl⟩ := Int.eq_ofNat_of_zero_le k3
  simp only
  have nar1 : kd = 1 → round_Narrow.f w s kd e g = some ((fx w (pv (s, 1, e, (g : Int))) true : Nat) : Int) := fun h => by
    rw [narrowG w hw s kd e g (by omega)]
    unfold narG
    rw [if_neg (by omega), if_pos h, pv1, fx_sg w (pos_tw (by have := h2 h; omega) _)]
  have nar2 : kd2 = 1 → round_Narrow.f w t kd2 e2 g2 = some ((fx w (pv (t, 1, e2, (g2 : Int))) true : Nat) : Int) := fun h => by
    rw [narrowG w hw t kd2 e2 g2 (by omega)]
    unfold narG
    rw [if_neg (by omega), if_pos h, pv1, fx_sg w (pos_tw (by have := k2 h; omega) _)]
  have fz : ∀ x z z', x ≠ 0 → fx w x z = fx w x z' := fun x z z' h => by unfold fx; rw [if_neg h, if_neg h]
  have nz1 : kd = 1 → pv (s, 1, e, (g : Int)) ≠ 0 := fun h => by
    have := pos_tw (show 0 < g by have := h2 h; omega) e
    rw [pv1]; cases s <;> simp <;> grind
  have nz2 : kd2 = 1 → pv (t, 1, e2, (g2 : Int)) ≠ 0 := fun h => by
    have := pos_tw (show 0 < g2 by have := k2 h; omega) e2
    rw [pv1]; cases t <;> simp <;> grind
  have fin : kd = 1 → kd2 = 1 → Ev (fun k => sum_finite.f k w s kd e g t kd2 e2 g2) ((fx w (pv (s, 1, e, (g : Int)) + pv (t, 1, e2, (g2 : Int))) (s && t) : Nat) : Int) := fun ha hb => by
    unfold sum_finite.f
    by_cases hlt : e < e2
    · have := finOrd w hw t s kd2 kd (g := g2) (g2 := g) (e := e2) (e2 := e) (by have := k2 hb; omega) (by have := h2 ha; omega) (by omega) (by omega) h5 (by omega) k6
      rw [Rat.add_comm, Bool.and_comm]
      exact Ev.pos hlt this
    · exact Ev.neg hlt (finOrd w hw s t kd kd2 (g := g) (g2 := g2) (e := e) (e2 := e2) (by have := h2 ha; omega) (by have := k2 hb; omega) (by omega) (by omega) k5 (by omega) h6)
  unfold sum_parts.f
  by_cases n1 : kd = 3
  · subst n1
    refine Ev.pos rfl (Ev.step (fun _ => sum_parts.j0.eq_2 ..) (Ev.pos rfl (Ev.bs (shN w hw) (Ev.out ?_))))
    simp [addP]
  refine Ev.neg n1 (Ev.step (fun _ => sum_parts.j0.eq_2 ..) ?_)
  by_cases n2 : kd2 = 3
  · subst n2
    refine Ev.pos rfl (Ev.bs (shN w hw) (Ev.out ?_))
    simp [addP]
  refine Ev.neg (by simpa using n2) ?_
  by_cases i1 : kd = 2
  · subst i1
    refine Ev.pos rfl (Ev.step (fun _ => sum_parts.j1.eq_2 ..) (Ev.pos rfl (Ev.bind (r := ((addP w (s, 2, e, (g : Int)) (t, kd2, e2, (g2 : Int)) : Nat) : Int)) ?_ (Ev.out rfl))))
    unfold sum_infinite.f
    refine Ev.pos rfl ?_
    by_cases i2 : kd2 = 2
    · subst i2
      refine Ev.pos rfl (Ev.step (fun _ => sum_infinite.j0.eq_2 ..) ?_)
      by_cases hst : s = t
      · exact Ev.neg (by simpa using hst) (Ev.bs (shI w hw s) (Ev.out (by simp [addP, hst])))
      · exact Ev.pos (by simpa using hst) (Ev.bs (shN w hw) (Ev.out (by simp [addP, hst])))
    · exact Ev.neg i2 (Ev.step (fun _ => sum_infinite.j0.eq_2 ..) (Ev.neg (by decide) (Ev.bs (shI w hw s) (Ev.out (by simp [addP, n2, i2])))))
  refine Ev.neg i1 (Ev.step (fun _ => sum_parts.j1.eq_2 ..) ?_)
  by_cases i2 : kd2 = 2
  · subst i2
    refine Ev.pos rfl (Ev.bind (r := ((addP w (s, kd, e, (g : Int)) (t, 2, e2, (g2 : Int)) : Nat) : Int)) ?_ (Ev.out rfl))
    unfold sum_infinite.f
    exact Ev.neg i1 (Ev.bs (shI w hw t) (Ev.out (by simp [addP, n1, i1])))
  refine Ev.neg (by simpa using i2) ?_
  have hA : addP w (s, kd, e, (g : Int)) (t, kd2, e2, (g2 : Int)) = fx w (pv (s, kd, e, (g : Int)) + pv (t, kd2, e2, (g2 : Int))) (s && t) := by simp [addP, n1, n2, i1, i2]
  rw [hA]
  by_cases z1 : kd = 0
  · subst z1
    refine Ev.pos rfl (Ev.step (fun _ => sum_parts.j2.eq_2 ..) ?_)
    rw [pv0 (p := (s, 0, e, (g : Int))) (by simp), Rat.zero_add]
    by_cases z2 : kd2 = 0
    · subst z2
      rw [pv0 (p := (t, 0, e2, (g2 : Int))) (by simp), fx_zero]
      refine Ev.pos rfl ?_
      cases s
      · exact Ev.neg (by decide) (Ev.bs (shZ w hw false) (Ev.out (by simp)))
      · exact Ev.pos rfl (Ev.bs (shZ w hw t) (Ev.out (by simp)))
    · have o2 : kd2 = 1 := by omega
      refine Ev.neg (by simpa using z2) (Ev.pos rfl (Ev.bs (nar2 o2) (Ev.out ?_)))
      rw [o2, fz _ true (s && t) (nz2 o2)]
  · have o1 : kd = 1 := by omega
    refine Ev.neg z1 (Ev.step (fun _ => sum_parts.j2.eq_2 ..) (Ev.neg (by decide) (Ev.neg z1 ?_)))
    by_cases z2 : kd2 = 0
    · refine Ev.pos z2 (Ev.bs (nar1 o1) (Ev.out ?_))
      rw [o1, z2, pv0 (p := (t, 0, e2, (g2 : Int))) (by simp), Rat.add_zero, fz _ true (s && t) (nz1 o1)]
    · have o2 : kd2 = 1 := by omega
      refine Ev.neg z2 (Ev.bind (fin o1 o2) (Ev.out ?_))
      rw [o1, o2]
def fl (p : Pt) : Pt := (!p.1, p.2)
theorem sumE (w : Int) (hw : w = 32 ∨ w = 64) (a b : Nat) (ha : a < 18446744073709551616) (hb : b < 18446744073709551616) : Ev (fun k => sum_Add.f k w a b) ((addP w (opn w a) (opn w b) : Nat) : Int) := by
  unfold sum_Add.f
  refine Ev.bs (show sum_known.f w = some true by rcases hw with rfl | rfl <;> rfl) (Ev.pos rfl (Ev.bind (openS w hw a ha) (Ev.bind (openS w hw b hb) ?_)))
  exact Ev.bind (partsE w hw _ _ (opn_ok w hw a) (opn_ok w hw b)) (Ev.out rfl)
theorem can_add (w : Int) (p q : Pt) : Can w (addP w p q) := by
  unfold addP
  split
  · exact .inl rfl
  · split
    · split
      · exact .inl rfl
      · exact .inr ⟨_, _, Nat.le_refl _, rfl⟩
    · split
      · exact .inr ⟨_, _, Nat.le_refl _, rfl⟩
      · exact can_fx ..
noncomputable def ev (p : Pt) : Rat := if p.2.1 = 2 then (if p.1 then -tw 5000 else tw 5000) else pv p
noncomputable def vl (w : Int) (m : Nat) : Rat := if m = (fmt w).inf then tw 5000 else (fmt w).val m
noncomputable def rd' (w : Int) (x : Rat) : Rat := if x = 0 then 0 else if x < 0 then -vl w ((fmt w).rnd (-x)) else vl w ((fmt w).rnd x)
theorem mag_bd {g : Nat} (h : g < 9007199254740992) {e : Int} (he : e ≤ 1000) : (g : Rat) * tw e < tw 5000 := by
  have h1 : (g : Rat) * tw e < ((2 ^ 53 : Nat) : Rat) * tw e := mul_lt (nat_lt.2 (by omega)) (tw_pos e)
  rw [show ((2 ^ 53 : Nat) : Rat) = tw 53 from (tw_nat 53).symm, ← tw_add] at h1
  have h2 : tw (53 + e) ≤ tw 5000 := tw_le (by omega)
  grind
theorem pv_bd {p : Pt} (hp : PtOk p) : -tw 5000 < pv p ∧ pv p < tw 5000 := by
  obtain ⟨s, kd, e, g⟩ := p
  obtain ⟨h1, h2, h0, h3, h4, h5, h6⟩ := hp
  simp only at h1 h2 h0 h3 h4 h5 h6
  obtain ⟨g, rfl⟩ := Int.eq_ofNat_of_zero_le h3
  have T := tw_pos 5000
  have b := mag_bd (show g < 9007199254740992 by omega) h6
  have n : 0 ≤ (g : Rat) * tw e := Rat.mul_nonneg (by exact_mod_cast Nat.zero_le g) (Rat.le_of_lt (tw_pos e))
  by_cases hk : kd = 1
  · subst hk
    rw [pv1]
    cases s <;> simp <;> constructor <;> grind
  · rw [pv0 (by simpa using hk)]; constructor <;> grind
theorem vl_val (w : Int) {m : Nat} (h : m < (fmt w).inf) : vl w m = (fmt w).val m := by unfold vl; rw [if_neg (by omega)]
theorem vl_lt (w : Int) (hw : w = 32 ∨ w = 64) {m : Nat} (h : m < (fmt w).inf) : (fmt w).val m < tw 5000 := by
  have h1 := ex_bd w hw m h
  have h2 := sg_64 w hw m
  exact mag_bd h2 (by omega)
theorem vl_nn (w : Int) (m : Nat) : 0 ≤ vl w m := by
  unfold vl; split
  · exact Rat.le_of_lt (tw_pos _)
  · exact (fmt w).val_nonneg m
theorem vl_mono (w : Int) (hw : w = 32 ∨ w = 64) {a b : Nat} (h : a ≤ b) (hb : b ≤ (fmt w).inf) : vl w a ≤ vl w b := by
  unfold vl
  by_cases h1 : b = (fmt w).inf
  · rw [if_pos h1]
    split
    · exact Rat.le_refl
    · exact Rat.le_of_lt (vl_lt w hw (by omega))
  · rw [if_neg h1, if_neg (by omega)]
    exact (fmt w).val_mono h
theorem rd_mono (w : Int) (hw : w = 32 ∨ w = 64) {x y : Rat} (h : x ≤ y) : rd' w x ≤ rd' w y := by
  have n := fun z => vl_nn w ((fmt w).rnd z)
  have n1 := n (-x)
  have n2 := n y
  unfold rd'
  by_cases hx : x = 0
  · rw [if_pos hx]
    split
    · exact Rat.le_refl
    · split
      · grind
      · exact n2
  · rw [if_neg hx]
    by_cases hx2 : x < 0
    · rw [if_pos hx2]
      split
      · grind
      · split
        · have := vl_mono w hw ((fmt w).rnd_mono (show -y ≤ -x by grind)) ((fmt w).rnd_le _)
          grind
        · grind
    · rw [if_neg hx2, if_neg (by grind), if_neg (by grind)]
      exact vl_mono w hw ((fmt w).rnd_mono h) ((fmt w).rnd_le _)
theorem ev_mk (w : Int) (hw : w = 32 ∨ w = 64) {m : Nat} (s : Bool) (hm : m ≤ (fmt w).inf) : ev (opn w (mkN w m s)) = (if s then -vl w m else vl w m) ∧ (opn w (mkN w m s)).2.1 ≠ 3 ∧ ((opn w (mkN w m s)).2.1 = 2 ↔ m = (fmt w).inf) := by
  have hi := inf_sb w hw
  have ip := (fmt w).inf_pos
  rw [opn_mk w hw m s (by omega)]
  by_cases h0 : m = 0
  · rw [if_pos h0]
    subst h0
    refine ⟨?_, by simp, by simp; omega⟩
    unfold ev
    rw [vl_val w ip, (fmt w).val_zero]
    simp [pv0]
  · rw [if_neg h0]
    by_cases h1 : m < (fmt w).inf
    · rw [if_pos h1]
      refine ⟨?_, by simp, by simp; omega⟩
      unfold ev
      rw [vl_val w h1]
      simp only
      rw [if_neg (by decide), pv1]
      rfl
    · rw [if_neg h1, if_pos (by omega)]
      refine ⟨?_, by simp, by simp; omega⟩
      unfold ev vl
      rw [if_pos (by omega : m = (fmt w).inf)]
      simp
theorem ev_fx (w : Int) (hw : w = 32 ∨ w = 64) (x : Rat) (z : Bool) : ev (opn w (fx w x z)) = rd' w x ∧ (opn w (fx w x z)).2.1 ≠ 3 := by
  unfold fx rd'
  by_cases h0 : x = 0
  · rw [if_pos h0, if_pos h0]
    obtain ⟨e1, e2, _⟩ := ev_mk w hw z (Nat.zero_le _)
    refine ⟨?_, e2⟩
    rw [e1, vl_val w (fmt w).inf_pos, (fmt w).val_zero]
    cases z <;> simp [Rat.neg_zero]
  · rw [if_neg h0, if_neg h0]
    by_cases h1 : x < 0
    · rw [if_pos h1, if_pos h1]
      obtain ⟨e1, e2, _⟩ := ev_mk w hw true ((fmt w).rnd_le (-x))
      exact ⟨by rw [e1]; simp, e2⟩
    · rw [if_neg h1, if_neg h1]
      obtain ⟨e1, e2, _⟩ := ev_mk w hw false ((fmt w).rnd_le x)
      exact ⟨by rw [e1]; simp, e2⟩
theorem grid (w : Int) (hw : w = 32 ∨ w = 64) (a : Nat) : ∃ N : Int, pv (opn w a) = (N : Rat) * tw (fmt w).low := by
  have hval : ∀ m, ∃ N : Nat, (fmt w).val m = (N : Rat) * tw (fmt w).low := fun m => ⟨_, (fmt w).val_over ((fmt w).low_ex m)⟩
  rcases kinds w hw a with ⟨_, h⟩ | ⟨h1, h2, h⟩ | ⟨_, h⟩ | ⟨_, h⟩
  · exact ⟨0, by rw [h, pv0 (by simp)]; simp⟩
  · obtain ⟨N, hN⟩ := hval (magN w a)
    unfold Fmt.val at hN
    rw [h, pv1, hN]
    cases sgB w a
    · exact ⟨(N : Int), by push_cast; simp⟩
    · exact ⟨-N, by push_cast; simp; grind⟩
  · exact ⟨0, by rw [h, pv0 (by simp)]; simp⟩
  · exact ⟨0, by rw [h, pv0 (by simp)]; simp⟩
theorem sub_pos (w : Int) (hw : w = 32 ∨ w = 64) (a b : Nat) (h : 0 < pv (opn w a) - pv (opn w b)) : 0 < (fmt w).rnd (pv (opn w a) - pv (opn w b)) := by
  obtain ⟨N, hN⟩ := grid w hw a
  obtain ⟨M, hM⟩ := grid w hw b
  have T := tw_pos (fmt w).low
  refine (fmt w).rnd_pos ?_
  have e : pv (opn w a) - pv (opn w b) = ((N - M : Int) : Rat) * tw (fmt w).low := by rw [hN, hM]; push_cast; grind
  rw [e] at h ⊢
  have h1 : 0 < N - M := by
    have : (0 : Rat) * tw (fmt w).low < ((N - M : Int) : Rat) * tw (fmt w).low := by rw [Rat.zero_mul]; exact h
    have := lt_of_mul this T
    exact_mod_cast this
  have h2 : ((1 : Int) : Rat) ≤ ((N - M : Int) : Rat) := by exact_mod_cast h1
  have h3 := mul_le h2 T
  have h4 : ((1 : Int) : Rat) * tw (fmt w).low = tw (fmt w).low := by simp
  rw [h4] at h3
  exact h3
noncomputable def cmpE (p q : Pt) : Int := if p.2.1 = 3 ∨ q.2.1 = 3 then 2 else if ev p < ev q then -1 else if ev q < ev p then 1 else 0
theorem j1E (w : Int) (hw : w = 32 ∨ w = 64) (a b : Nat) (ha : a < 18446744073709551616) (hb : b < 18446744073709551616) {m : Nat} {s : Bool} (h : addP w (opn w a) (fl (opn w b)) = mkN w m s) (hm : m ≤ (fmt w).inf) :
    Ev (fun k => r4_Cmp.j1 k w a b false) (if m = 0 then 0 else if s then -1 else 1) := by
  have hi := inf_sb w hw
  have e1 := subR w hw a b ha hb
  rw [show ((!(opn w b).1, (opn w b).2) : Pt) = fl (opn w b) from rfl, h] at e1
  have hlt : mkN w m s < 18446744073709551616 := h ▸ (can_cut hw (can_add w (opn w a) (fl (opn w b)))).2
  refine Ev.step (fun _ => r4_Cmp.j1.eq_2 ..) (Ev.neg (by decide) (Ev.bind e1 (Ev.bind (r2Open w hw _ hlt) ?_)))
  rw [opn_mk w hw m s (by omega)]
  by_cases h0 : m = 0
  · rw [if_pos h0, if_pos h0]
    exact Ev.pos rfl (Ev.out rfl)
  · rw [if_neg h0, if_neg h0]
    by_cases h1 : m < (fmt w).inf
    · rw [if_pos h1]
      refine Ev.neg (by simp) ?_
      cases s
      · exact Ev.neg (by simp) (Ev.out rfl)
      · exact Ev.pos rfl (Ev.out rfl)
    · rw [if_neg h1, if_pos (show m = (fmt w).inf by omega)]
      refine Ev.neg (by simp) ?_
      cases s
      · exact Ev.neg (by simp) (Ev.out rfl)
      · exact Ev.pos rfl (Ev.out rfl)
theorem pv_fl (p : Pt) : pv (fl p) = -pv p := by
  unfold fl pv
  simp only
  split
  · cases p.1 <;> simp [Rat.neg_neg]
  · rw [Rat.neg_zero]
theorem j1V (w : Int) (hw : w = 32 ∨ w = 64) (a b : Nat) (ha : a < 18446744073709551616) (hb : b < 18446744073709551616) (n1 : (opn w a).2.1 ≠ 3) (n2 : (opn w b).2.1 ≠ 3) (hi : ¬ ((opn w a).2.1 = 2 ∧ (opn w b).2.1 = 2 ∧ (opn w a).1 = (opn w b).1)) :
    Ev (fun k => r4_Cmp.j1 k w a b false) (cmpE (opn w a) (opn w b)) := by
  have T := tw_pos 5000
  have ip := (fmt w).inf_pos
  have ba := pv_bd (opn_ok w hw a)
  have bb := pv_bd (opn_ok w hw b)
  have sp := sub_pos w hw a b
  have sq := sub_pos w hw b a
  have key := fun {m s} => @j1E w hw a b ha hb m s
  unfold cmpE
  rw [if_neg (by omega)]
  generalize opn w a = p at *
  generalize opn w b = q at *
  have hf3 : (fl q).2.1 = q.2.1 := rfl
  by_cases i1 : p.2.1 = 2
  · have hA : addP w p (fl q) = mkN w (fmt w).inf p.1 := by
      unfold addP
      rw [if_neg (by rw [hf3]; omega), if_pos i1]
      by_cases i2 : q.2.1 = 2
      · have hne : p.1 ≠ q.1 := fun e => hi ⟨i1, i2, e⟩
        have : p.1 = (fl q).1 := by unfold fl; simp only; cases hp : p.1 <;> cases hq : q.1 <;> simp_all
        rw [if_neg (fun x => x.2 this)]
      · rw [if_neg (fun x => i2 x.1)]
    have := key hA (Nat.le_refl _)
    rw [if_neg (by omega)] at this
    have e1 : ev p = if p.1 then -tw 5000 else tw 5000 := by unfold ev; rw [if_pos i1]
    have hq : p.1 = true → -tw 5000 < ev q := fun h => by
      unfold ev
      split
      · rename_i i2
        have : q.1 = false := by cases hq : q.1; rfl; exact absurd ⟨i1, i2, by rw [h, hq]⟩ hi
        rw [this]; simp; grind
      · exact bb.1
    have hq2 : p.1 = false → ev q < tw 5000 := fun h => by
      unfold ev
      split
      · rename_i i2
        have : q.1 = true := by cases hq : q.1; exact absurd ⟨i1, i2, by rw [h, hq]⟩ hi; rfl
        rw [this]; simp; grind
      · exact bb.2
    rw [e1]
    cases hs : p.1
    · rw [hs] at this
      have h2 := hq2 hs
      simp only [Bool.false_eq_true, if_false] at this ⊢
      rw [if_neg (by grind), if_pos h2]; exact this
    · rw [hs] at this
      have h2 := hq hs
      simp only [if_true] at this ⊢
      rw [if_pos h2]; exact this
  · have e1 : ev p = pv p := by unfold ev; rw [if_neg i1]
    rw [e1]
    by_cases i2 : q.2.1 = 2
    · have hA : addP w p (fl q) = mkN w (fmt w).inf (!q.1) := by
        unfold addP
        rw [if_neg (by rw [hf3]; omega), if_neg i1, if_pos (show (fl q).2.1 = 2 from i2)]; rfl
      have := key hA (Nat.le_refl _)
      rw [if_neg (by omega)] at this
      have e2 : ev q = if q.1 then -tw 5000 else tw 5000 := by unfold ev; rw [if_pos i2]
      rw [e2]
      cases hs : q.1
      · rw [hs] at this
        simp only [Bool.false_eq_true, if_false, Bool.not_false, if_true] at this ⊢
        rw [if_pos ba.2]; exact this
      · rw [hs] at this
        simp only [Bool.false_eq_true, if_false, Bool.not_true, if_true] at this ⊢
        rw [if_neg (by grind), if_pos ba.1]; exact this
    · have e2 : ev q = pv q := by unfold ev; rw [if_neg i2]
      rw [e2]
      have hA : addP w p (fl q) = fx w (pv p - pv q) (p.1 && (fl q).1) := by
        unfold addP
        rw [if_neg (by rw [hf3]; omega), if_neg i1, if_neg (show ¬ (fl q).2.1 = 2 from i2), pv_fl, show pv p + -pv q = pv p - pv q by grind]
      unfold fx at hA
      by_cases c0 : pv p - pv q = 0
      · rw [if_pos c0] at hA
        have := key hA (Nat.zero_le _)
        rw [if_pos rfl] at this
        rw [if_neg (by grind), if_neg (by grind)]; exact this
      · rw [if_neg c0] at hA
        by_cases c1 : pv p - pv q < 0
        · rw [if_pos c1, show -(pv p - pv q) = pv q - pv p by grind] at hA
          have h0 := sq (by grind)
          have := key hA ((fmt w).rnd_le _)
          rw [if_neg (by omega)] at this
          rw [if_pos (by grind)]; exact this
        · rw [if_neg c1] at hA
          have h0 := sp (by grind)
          have := key hA ((fmt w).rnd_le _)
          rw [if_neg (by omega)] at this
          rw [if_neg (by grind), if_pos (by grind)]; exact this
theorem cmpR (w : Int) (hw : w = 32 ∨ w = 64) (a b : Nat) (ha : a < 18446744073709551616) (hb : b < 18446744073709551616) : Ev (fun k => r4_Cmp.f k w a b) (cmpE (opn w a) (opn w b)) := by
  unfold r4_Cmp.f
  refine Ev.bind (r2Open w hw a ha) (Ev.bind (r2Open w hw b hb) ?_)
  by_cases n1 : (opn w a).2.1 = 3
  · refine Ev.pos n1 (Ev.step (fun _ => r4_Cmp.j0.eq_2 ..) (Ev.pos rfl (Ev.out ?_)))
    unfold cmpE; rw [if_pos (.inl n1)]
  · refine Ev.neg n1 (Ev.step (fun _ => r4_Cmp.j0.eq_2 ..) ?_)
    by_cases n2 : (opn w b).2.1 = 3
    · refine Ev.pos (by simpa using n2) (Ev.out ?_)
      unfold cmpE; rw [if_pos (.inr n2)]
    · refine Ev.neg (by simpa using n2) ?_
      have V := j1V w hw a b ha hb n1 n2
      by_cases i1 : (opn w a).2.1 = 2
      · refine Ev.pos i1 ?_
        by_cases i2 : (opn w b).2.1 = 2
        · refine Ev.pos i2 ?_
          by_cases hs : (opn w a).1 = (opn w b).1
          · rw [show ((opn w a).1 == (opn w b).1) = true by simpa using hs]
            refine Ev.step (fun _ => r4_Cmp.j1.eq_2 ..) (Ev.pos rfl (Ev.out ?_))
            have e : ev (opn w a) = ev (opn w b) := by unfold ev; rw [if_pos i1, if_pos i2, hs]
            unfold cmpE; rw [if_neg (by omega), e, if_neg (by grind), if_neg (by grind)]
          · rw [show ((opn w a).1 == (opn w b).1) = false by simpa using hs]
            exact V (fun x => hs x.2.2)
        · exact Ev.neg i2 (V (fun x => i2 x.2.1))
      · exact Ev.neg i1 (V (fun x => i1 x.1))
theorem nan_kind (w : Int) (hw : w = 32 ∨ w = 64) : (opn w (nanN w)).2.1 = 3 := by
  have := can_nan hw (r := nanN w) (.inl rfl)
  simpa using this
theorem ev_bd {p : Pt} (hp : PtOk p) : -tw 5000 ≤ ev p ∧ ev p ≤ tw 5000 := by
  have T := tw_pos 5000
  have b := pv_bd hp
  unfold ev
  split
  · split <;> constructor <;> grind
  · exact ⟨Rat.le_of_lt b.1, Rat.le_of_lt b.2⟩
theorem ev_add (w : Int) (hw : w = 32 ∨ w = 64) (p r : Pt) (h1 : p.2.1 ≠ 3) (h2 : r.2.1 ≠ 3) (h : (opn w (addP w p r)).2.1 ≠ 3) :
    ev (opn w (addP w p r)) = if p.2.1 = 2 then ev p else if r.2.1 = 2 then ev r else rd' w (pv p + pv r) := by
  have hm := fun s => (ev_mk w hw s (Nat.le_refl (fmt w).inf)).1
  have hv : vl w (fmt w).inf = tw 5000 := by unfold vl; rw [if_pos rfl]
  rw [hv] at hm
  unfold addP at h ⊢
  rw [if_neg (by omega)] at h ⊢
  by_cases i1 : p.2.1 = 2
  · rw [if_pos i1] at h ⊢
    rw [if_pos i1]
    by_cases c : r.2.1 = 2 ∧ p.1 ≠ r.1
    · rw [if_pos c] at h; exact absurd (nan_kind w hw) h
    · rw [if_neg c, hm]
      unfold ev; rw [if_pos i1]
  · rw [if_neg i1] at h ⊢
    rw [if_neg i1]
    by_cases i2 : r.2.1 = 2
    · rw [if_pos i2, if_pos i2, hm]
      unfold ev; rw [if_pos i2]
    · rw [if_neg i2, if_neg i2]
      exact (ev_fx w hw _ _).1
theorem ordA (w : Int) (hw : w = 32 ∨ w = 64) (p q r : Pt) (hp : PtOk p) (hq : PtOk q) (h1 : p.2.1 ≠ 3) (h2 : q.2.1 ≠ 3) (h : ev p ≤ ev q) : cmpE (opn w (addP w p r)) (opn w (addP w q r)) ≠ 1 := by
  have T := tw_pos 5000
  by_cases h3 : r.2.1 = 3
  · have : addP w p r = nanN w := by unfold addP; rw [if_pos (.inr h3)]
    unfold cmpE
    rw [this, if_pos (.inl (nan_kind w hw))]
    decide
  have o1 := ev_bd (opn_ok w hw (addP w p r))
  have o2 := ev_bd (opn_ok w hw (addP w q r))
  have bp := pv_bd hp
  have bq := pv_bd hq
  unfold cmpE
  by_cases n : (opn w (addP w p r)).2.1 = 3 ∨ (opn w (addP w q r)).2.1 = 3
  · rw [if_pos n]; decide
  · rw [if_neg n]
    have a1 := ev_add w hw p r h1 h3 (fun x => n (.inl x))
    have a2 := ev_add w hw q r h2 h3 (fun x => n (.inr x))
    have key : ev (opn w (addP w p r)) ≤ ev (opn w (addP w q r)) := by
      by_cases i1 : p.2.1 = 2
      · rw [if_pos i1] at a1
        have e1 : ev p = if p.1 then -tw 5000 else tw 5000 := by unfold ev; rw [if_pos i1]
        cases hs : p.1
        · rw [hs] at e1
          simp only [Bool.false_eq_true, if_false] at e1
          have i2 : q.2.1 = 2 := by
            rcases Decidable.em (q.2.1 = 2) with i | i
            · exact i
            · exfalso
              have e2 : ev q = pv q := by unfold ev; rw [if_neg i]
              grind
          rw [if_pos i2] at a2
          rw [a1, a2]; exact h
        · rw [hs] at e1
          simp only [if_true] at e1
          rw [a1, e1]; exact o2.1
      · rw [if_neg i1] at a1
        have e1 : ev p = pv p := by unfold ev; rw [if_neg i1]
        by_cases i2 : q.2.1 = 2
        · rw [if_pos i2] at a2
          have e2 : ev q = if q.1 then -tw 5000 else tw 5000 := by unfold ev; rw [if_pos i2]
          cases hs : q.1
          · rw [hs] at e2
            simp only [Bool.false_eq_true, if_false] at e2
            rw [a2, e2]; exact o1.2
          · rw [hs] at e2
            simp only [if_true] at e2
            exfalso; grind
        · rw [if_neg i2] at a2
          have e2 : ev q = pv q := by unfold ev; rw [if_neg i2]
          by_cases i3 : r.2.1 = 2
          · rw [if_pos i3] at a1 a2
            rw [a1, a2]; exact Rat.le_refl
          · rw [if_neg i3] at a1 a2
            rw [a1, a2]
            exact rd_mono w hw (by grind)
    split
    · decide
    · rw [if_neg (by grind)]; decide
theorem awake04O : Ev (fun k => L04_awake.f k) true := Ev.of (fun k => L04_awake.mono k) (k := 12) (by decide +kernel)
theorem SumOrderP : L04_SumOrder.Pure := by
  intro w a b c hw0 ha0 hb0 hc0
  obtain ⟨ha1, ha2⟩ := wf_u64 ha0
  obtain ⟨a, rfl⟩ := Int.eq_ofNat_of_zero_le ha1
  have ha : a < 18446744073709551616 := by omega
  obtain ⟨hb1, hb2⟩ := wf_u64 hb0
  obtain ⟨b, rfl⟩ := Int.eq_ofNat_of_zero_le hb1
  have hb : b < 18446744073709551616 := by omega
  obtain ⟨hc1, hc2⟩ := wf_u64 hc0
  obtain ⟨c, rfl⟩ := Int.eq_ofNat_of_zero_le hc1
  have hc : c < 18446744073709551616 := by omega
  refine Ev.rounds ?_
  unfold L04_SumOrder.f
  refine Ev.bind awake04O (Ev.pos rfl (Ev.bs (known_f w) ?_))
  by_cases hw : w = 32 ∨ w = 64
  · rw [decide_eq_true hw]
    refine Ev.pos rfl (Ev.bind (cmpR w hw a b ha hb) (Ev.step (fun _ => L04_SumOrder.j0.eq_2 ..) ?_))
    by_cases h : cmpE (opn w a) (opn w b) > 0
    · exact Ev.pos (by simpa using h) (Ev.out rfl)
    · have hk : (opn w a).2.1 ≠ 3 ∧ (opn w b).2.1 ≠ 3 ∧ ev (opn w a) ≤ ev (opn w b) := by
        unfold cmpE at h
        by_cases n : (opn w a).2.1 = 3 ∨ (opn w b).2.1 = 3
        · rw [if_pos n] at h; exact absurd (by decide) h
        · rw [if_neg n] at h
          refine ⟨fun x => n (.inl x), fun x => n (.inr x), ?_⟩
          by_cases l : ev (opn w a) < ev (opn w b)
          · exact Rat.le_of_lt l
          · rw [if_neg l] at h
            by_cases l2 : ev (opn w b) < ev (opn w a)
            · rw [if_pos l2] at h; exact absurd (by decide) h
            · grind
      have o := ordA w hw (opn w a) (opn w b) (opn w c) (opn_ok w hw a) (opn_ok w hw b) hk.1 hk.2.1 hk.2.2
      refine Ev.neg (by simpa using h) (Ev.bind (sumE w hw a c ha hc) (Ev.bind (sumE w hw b c hb hc) (Ev.bind (cmpR w hw _ _ (can_cut hw (can_add w _ _)).2 (can_cut hw (can_add w _ _)).2) (Ev.out ?_))))
      congr 1
      simpa using o
  · rw [decide_eq_false hw]
    exact Ev.neg (by decide) (Ev.step (fun _ => L04_SumOrder.j0.eq_2 ..) (Ev.pos rfl (Ev.out rfl)))
end Go.Proofs.Ytbpmnmceajmmcaa.Th
end
namespace Go.Proofs.Ytbpmnmceajmmcaa.Pure
theorem SumOrder : Go.Proofs.Ytbpmnmceajmmcaa.PA.L04_SumOrder.Pure := Go.Proofs.Ytbpmnmceajmmcaa.Th.SumOrderP
end Go.Proofs.Ytbpmnmceajmmcaa.Pure
namespace Go.Proofs.Ytbpmnmceajmmcaa.Facts
abbrev ch (n : Nat) : Char := Char.ofNat n
theorem words_word (w : List Char) (r : List Char) (h : w.all (fun c => c != ch 32) = true) : wordsSigns (w ++ ch 32 :: r) = w :: wordsSigns r := by
  induction w with
  | nil => rfl
  | cons c w ih =>
    rw [List.all_cons, Bool.and_eq_true] at h
    have hc : c ≠ ch 32 := bne_iff_ne.1 h.1
    rw [List.cons_append]
    rw [wordsSigns.eq_3 c _ (fun e => hc e), ih h.2]
def w1 : List Char := [ch 104, ch 97, ch 114, ch 110, ch 101, ch 115, ch 115]
def w2 : List Char := [ch 97, ch 57, ch 99, ch 102, ch 100, ch 53, ch 99, ch 57, ch 100, ch 54, ch 48, ch 56, ch 102, ch 100, ch 52, ch 54, ch 54, ch 52, ch 54, ch 53, ch 57, ch 56, ch 53, ch 100, ch 57, ch 55, ch 54, ch 57, ch 102, ch 102, ch 100, ch 56, ch 53, ch 100, ch 49, ch 56, ch 54, ch 56, ch 53, ch 55, ch 54, ch 97, ch 49, ch 53, ch 100, ch 100, ch 56, ch 49, ch 54, ch 55, ch 99, ch 101, ch 56, ch 52, ch 54, ch 98, ch 102, ch 55, ch 57, ch 48, ch 52, ch 55, ch 56, ch 49]
def w3 : List Char := [ch 99, ch 117, ch 116]
set_option maxRecDepth 100000 in
def tailSigns : List Char := [ch 97, ch 116, ch 32, ch 116, ch 114, ch 117, ch 110, ch 110, ch 105, ch 111, ch 110, ch 47, ch 116, ch 114, ch 117, ch 110, ch 110, ch 105, ch 111, ch 110, ch 108, ch 97, ch 119, ch 48, ch 53, ch 46, ch 80, ch 114, ch 111, ch 100, ch 117, ch 99, ch 116, ch 84, ch 119, ch 105, ch 99, ch 101, ch 32, ch 116, ch 114, ch 117, ch 110, ch 110, ch 105, ch 111, ch 110, ch 47, ch 116, ch 114, ch 117, ch 110, ch 110, ch 105, ch 111, ch 110, ch 108, ch 97, ch 119, ch 48, ch 53, ch 46, ch 80, ch 114, ch 111, ch 100, ch 117, ch 99, ch 116, ch 83, ch 99, ch 97, ch 108, ch 101, ch 115, ch 32, ch 116, ch 114, ch 117, ch 110, ch 110, ch 105, ch 111, ch 110, ch 47, ch 116, ch 114, ch 117, ch 110, ch 110, ch 105, ch 111, ch 110, ch 108, ch 97, ch 119, ch 48, ch 54, ch 46, ch 81, ch 117, ch 111, ch 116, ch 105, ch 101, ch 110, ch 116, ch 68, ch 105, ch 118, ch 115, ch 32, ch 116, ch 114, ch 117, ch 110, ch 110, ch 105, ch 111, ch 110, ch 47, ch 116, ch 114, ch 117, ch 110, ch 110, ch 105, ch 111, ch 110, ch 108, ch 97, ch 119, ch 48, ch 54, ch 46, ch 81, ch 117, ch 111, ch 116, ch 105, ch 101, ch 110, ch 116, ch 75, ch 101, ch 101, ch 112, ch 115, ch 32, ch 116, ch 114, ch 117, ch 110, ch 110, ch 105, ch 111, ch 110, ch 47, ch 116, ch 114, ch 117, ch 110, ch 110, ch 105, ch 111, ch 110, ch 108, ch 97, ch 119, ch 48, ch 54, ch 46, ch 81, ch 117, ch 111, ch 116, ch 105, ch 101, ch 110, ch 116, ch 83, ch 99, ch 97, ch 108, ch 101, ch 32, ch 116, ch 114, ch 117, ch 110, ch 110, ch 105, ch 111, ch 110, ch 47, ch 116, ch 114, ch 117, ch 110, ch 110, ch 105, ch 111, ch 110, ch 108, ch 97, ch 119, ch 48, ch 51, ch 46, ch 82, ch 111, ch 117, ch 110, ch 100, ch 80, ch 97, ch 99, ch 107, ch 115, ch 32, ch 116, ch 114, ch 117, ch 110, ch 110, ch 105, ch 111, ch 110, ch 47, ch 116, ch 114, ch 117, ch 110, ch 110, ch 105, ch 111, ch 110, ch 108, ch 97, ch 119, ch 48, ch 51, ch 46, ch 82, ch 111, ch 117, ch 110, ch 100, ch 82, ch 105, ch 115, ch 101, ch 115, ch 32, ch 116, ch 114, ch 117, ch 110, ch 110, ch 105, ch 111, ch 110, ch 47, ch 116, ch 114, ch 117, ch 110, ch 110, ch 105, ch 111, ch 110, ch 108, ch 97, ch 119, ch 48, ch 51, ch 46, ch 82, ch 111, ch 117, ch 110, ch 100, ch 75, ch 101, ch 101, ch 112, ch 115, ch 32, ch 116, ch 114, ch 117, ch 110, ch 110, ch 105, ch 111, ch 110, ch 47, ch 116, ch 114, ch 117, ch 110, ch 110, ch 105, ch 111, ch 110, ch 108, ch 97, ch 119, ch 48, ch 52, ch 46, ch 83, ch 117, ch 109, ch 65, ch 100, ch 100, ch 115, ch 32, ch 116, ch 114, ch 117, ch 110, ch 110, ch 105, ch 111, ch 110, ch 47, ch 116, ch 114, ch 117, ch 110, ch 110, ch 105, ch 111, ch 110, ch 108, ch 97, ch 119, ch 48, ch 52, ch 46, ch 83, ch 117, ch 109, ch 79, ch 114, ch 100, ch 101, ch 114, ch 32, ch 116, ch 114, ch 117, ch 110, ch 110, ch 105, ch 111, ch 110, ch 47, ch 116, ch 114, ch 117, ch 110, ch 110, ch 105, ch 111, ch 110, ch 108, ch 97, ch 119, ch 48, ch 52, ch 46, ch 83, ch 117, ch 109, ch 67, ch 108, ch 111, ch 115, ch 101, ch 32, ch 116, ch 114, ch 117, ch 110, ch 110, ch 105, ch 111, ch 110, ch 47, ch 116, ch 114, ch 117, ch 110, ch 110, ch 105, ch 111, ch 110, ch 108, ch 97, ch 119, ch 48, ch 52, ch 46, ch 83, ch 117, ch 109, ch 84, ch 111, ch 116, ch 97, ch 108, ch 115]
set_option maxRecDepth 100000 in
theorem head_list : Try.prog.initOrder.toList = w1 ++ ch 32 :: (w2 ++ ch 32 :: (w3 ++ ch 32 :: tailSigns)) :=
  (congrArg String.toList (show Try.prog.initOrder = String.ofList (w1 ++ ch 32 :: (w2 ++ ch 32 :: (w3 ++ ch 32 :: tailSigns))) from rfl)).trans String.toList_ofList
theorem words : ∃ rest, behindMainWord (wordsSigns Try.prog.initOrder.toList) = w3 :: rest := by
  refine ⟨wordsSigns tailSigns, ?_⟩
  rw [head_list, words_word w1 _ (by kernel_rfl), words_word w2 _ (by kernel_rfl), words_word w3 _ (by kernel_rfl)]
  generalize wordsSigns tailSigns = rest
  have e : ((w1 == "harness".toList || w1 == "ownmain".toList) && isSumSigns w2) = true := by kernel_rfl
  show (if ((w1 == "harness".toList || w1 == "ownmain".toList) && isSumSigns w2) = true then w3 :: rest else w1 :: w2 :: w3 :: rest) = w3 :: rest
  rw [if_pos e]
theorem c3 : (w3 == "gc".toList) = false ∧ (w3 == "spec".toList) = false ∧ (w3 == "cut".toList) = true ∧ (w3 == "carried".toList) = false ∧ (w3 == "finals".toList) = false := ⟨by kernel_rfl, by kernel_rfl, by kernel_rfl, by kernel_rfl, by kernel_rfl⟩
theorem strip (rest : List (List Char)) : stripLifts liftWords (w3 :: rest) = ([], w3 :: rest) := by
  have key : ∀ l : List String, l.all (fun o => !(w3 == o.toList)) = true → stripLifts l (w3 :: rest) = ([], w3 :: rest) := by
    intro l
    induction l with
    | nil => intro _; rfl
    | cons o l ih =>
      intro h
      rw [List.all_cons, Bool.and_eq_true] at h
      unfold stripLifts
      rw [if_neg (fun e => by have h1 := h.1; rw [e] at h1; cases h1)]
      exact ih h.2
  exact key liftWords (by kernel_rfl)
theorem make_of (P : Program) (h : ∃ rest, behindMainWord (wordsSigns P.initOrder.toList) = w3 :: rest) : P.make = some .cut := by
  obtain ⟨rest, h⟩ := h
  unfold Program.make
  rw [h]
  show (if (w3 == "gc".toList || w3 == "spec".toList) = true then some Make.whole else if (w3 == "cut".toList || (w3 == "finals".toList && rest.head? == some "cut".toList)) = true then some Make.cut else _) = some Make.cut
  rw [if_neg (by rw [c3.1, c3.2.1]; decide), if_pos (by rw [c3.2.2.1, Bool.true_or])]
set_option maxRecDepth 100000 in
theorem liftsFact : Try.prog.liftsFinal = false := by
  unfold Program.liftsFinal Program.headLifts
  rw [head_list]
  kernel_rfl
theorem doorFact : (!Try.prog.laysLater && !Try.prog.bearsReflect && Try.prog.doorFits []) = true := by kernel_rfl
theorem makeFact : Try.prog.make = some .cut := make_of _ words
theorem enter_of (P : Program) (h : ∃ rest, behindMainWord (wordsSigns P.initOrder.toList) = w3 :: rest) (d : (!P.laysLater && !P.bearsReflect && P.doorFits []) = true) : P.mayEnter = true := by
  obtain ⟨rest, h⟩ := h
  rw [Bool.and_eq_true, Bool.and_eq_true] at d
  have e : ((some w3 == some "cut".toList) : Bool) = true := by kernel_rfl
  unfold Program.mayEnter
  rw [h]
  show ((_ || _) || ((stripLifts liftWords (w3 :: rest)).2.head? == some "cut".toList && ((stripLifts liftWords (w3 :: rest)).1.contains "finals" || !P.laysLater) && ((stripLifts liftWords (w3 :: rest)).1.contains "reflectrows" || !P.bearsReflect) &&
      ((stripLifts liftWords (w3 :: rest)).1.contains "reflectrows" || !(stripLifts liftWords (w3 :: rest)).1.contains "leanrows") && P.doorFits (stripLifts liftWords (w3 :: rest)).1)) = true
  rw [strip, Bool.or_eq_true]
  refine .inr ?_
  rw [Bool.and_eq_true, Bool.and_eq_true, Bool.and_eq_true, Bool.and_eq_true, Bool.or_eq_true, Bool.or_eq_true]
  exact ⟨⟨⟨⟨e, .inr d.1.1⟩, .inr d.1.2⟩, rfl⟩, d.2⟩
theorem enterFact : Try.prog.mayEnter = true := enter_of _ words doorFact
end Go.Proofs.Ytbpmnmceajmmcaa.Facts
