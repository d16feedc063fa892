/- What the Go functions that the statement QuotientKeeps reaches compute, and the mathematics on it, in the order in which one leans on the other; for every input. -/
import Derived.Test.YtbpmnmceajmmcaaVQuotientKeeps0
import Derived.Test.YtbpmnmceajmmcaaMQuotientKeeps8
import Derived.Test.YtbpmnmceajmmcaaMQuotientKeeps7
import Derived.Test.YtbpmnmceajmmcaaMQuotientKeeps0
import Derived.Test.YtbpmnmceajmmcaaRows
import Derived.ProofKit
import Derived.JoinedOf
import Derived.KernelRfl
section
set_option linter.unusedVariables false
set_option linter.unusedSimpArgs false
namespace Go.Proofs.Ytbpmnmceajmmcaa.Th
open Go.RowKit Go.Proofs.YtbpmnmceajmmcaaW.PrintWords Go.Proofs.YtbpmnmceajmmcaaW.PrintLast Go.Proofs.YtbpmnmceajmmcaaW.PrintMore Go.Proofs.Ytbpmnmceajmmcaa.PA Bit Dig Flo
theorem quo_pk (w : Int) {N b : Nat} (hb : 0 < b) (E : Int) (x : Rat) (hx : x * (b : Rat) = (N : Rat) * tw E) (hlt : N / b < 340282366920938463463374607431768211456) (hge : 9007199254740992 ≤ N / b) :
    pkm (fmt w) (N / b) E (decide (N % b ≠ 0)) = (fmt w).rnd x := by
  have T := tw_pos E
  have B0 : (0 : Rat) < (b : Rat) := by exact_mod_cast hb
  have h1 := Nat.div_add_mod N b
  have h2 := Nat.mod_lt N hb
  generalize N / b = q at *
  generalize N % b = r at *
  have e1 : (q : Rat) * tw E * (b : Rat) = ((b * q : Nat) : Rat) * tw E := by push_cast; grind
  have e2 : ((q + 1 : Nat) : Rat) * tw E * (b : Rat) = ((b * q + b : Nat) : Rat) * tw E := by push_cast; grind
  by_cases h0 : r = 0
  · rw [decide_eq_false (by omega), pk_ex w q E hlt]
    have e3 : x * (b : Rat) = (q : Rat) * tw E * (b : Rat) := by
      rw [hx, e1]; congr 2; omega
    have h6 : ¬ ((q : Rat) * tw E) < x := fun h => by have := mul_lt h B0; grind
    have h7 : ¬ x < ((q : Rat) * tw E) := fun h => by have := mul_lt h B0; grind
    congr 1
    grind
  · rw [decide_eq_true (by omega)]
    refine pk_mo w hlt hge ?_ ?_
    · refine lt_of_mul (t := (b : Rat)) ?_ B0
      rw [hx, e1]
      exact mul_lt (nat_lt.2 (by omega)) T
    · refine lt_of_mul (t := (b : Rat)) ?_ B0
      rw [hx, e2]
      exact mul_lt (nat_lt.2 (by omega)) T
theorem quo_x {g g2 n n2 : Nat} (h2 : 0 < g2) (e e2 : Int) : ((g : Rat) * tw e) / ((g2 : Rat) * tw e2) * ((g2 * 2 ^ n2 : Nat) : Rat) = ((g * 2 ^ n * 18446744073709551616 : Nat) : Rat) * tw (e - n - (e2 - n2) - 64) := by
  have T := tw_pos e2
  have G : (0 : Rat) < (g2 : Rat) := by exact_mod_cast h2
  have hne : ((g2 : Rat) * tw e2) ≠ 0 := by have := Rat.mul_pos G T; grind
  have k1 : ((g : Rat) * tw e) / ((g2 : Rat) * tw e2) * ((g2 : Rat) * tw e2) = (g : Rat) * tw e := Rat.div_mul_cancel hne
  generalize ((g : Rat) * tw e) / ((g2 : Rat) * tw e2) = x at *
  have a1 : ((g2 * 2 ^ n2 : Nat) : Rat) = (g2 : Rat) * tw n2 := by rw [tw_nat]; push_cast; rfl
  have a2 : ((g * 2 ^ n * 18446744073709551616 : Nat) : Rat) = (g : Rat) * tw n * tw 64 := by
    rw [show tw 64 = tw ((64 : Nat) : Int) from rfl, tw_nat, tw_nat]; push_cast; rfl
  have a3 : tw (e - n - (e2 - n2) - 64) * tw 64 = tw (e - n - (e2 - n2)) := by rw [← tw_add]; congr 1; omega
  have a4 : tw n * tw (e - n - (e2 - n2)) = tw e * tw (n2 - e2) := by rw [← tw_add, ← tw_add]; congr 1; omega
  have a5 : tw n2 = tw e2 * tw (n2 - e2) := by rw [← tw_add]; congr 1; omega
  rw [a1, a2, a5]
  calc x * ((g2 : Rat) * (tw e2 * tw (n2 - e2))) = (x * ((g2 : Rat) * tw e2)) * tw (n2 - e2) := by grind
    _ = (g : Rat) * (tw e * tw (n2 - e2)) := by rw [k1]; grind
    _ = (g : Rat) * (tw n * (tw (e - n - (e2 - n2) - 64) * tw 64)) := by rw [a3, a4]
    _ = _ := by grind
theorem top64 {g : Nat} (h : 0 < g) (hg : g < 18446744073709551616) : 9223372036854775808 ≤ g * 2 ^ (64 - bl g) ∧ g * 2 ^ (64 - bl g) < 18446744073709551616 ∧ bl g ≤ 64 := by
  have hb := bl64 hg
  have h0 := bl_pos.2 h
  refine ⟨?_, ?_, hb⟩
  · have h1 := Nat.mul_le_mul_right (2 ^ (64 - bl g)) (two_bl_le h)
    rw [← Nat.pow_add, show bl g - 1 + (64 - bl g) = 63 by omega] at h1
    exact h1
  · have h1 := Nat.mul_lt_mul_of_pos_right (lt_two_bl g) (Nat.pow_pos (n := 64 - bl g) (show 0 < 2 by decide))
    rw [← Nat.pow_add, show bl g + (64 - bl g) = 64 by omega] at h1
    exact h1
theorem can_div (w : Int) (p q : Pt) : Can w (divP w p q) := by
  unfold divP
  split
  · exact .inl rfl
  · split
    · exact .inr ⟨_, _, Nat.le_refl _, rfl⟩
    · split
      · exact .inr ⟨_, _, Nat.zero_le _, rfl⟩
      · exact can_fx ..
theorem neg_div' (a b : Rat) : -a / b = -(a / b) := by rw [Rat.div_def, Rat.neg_mul, ← Rat.div_def]
theorem div_neg' {a b : Rat} (h : b ≠ 0) : a / -b = -(a / b) := by
  have h2 : -b ≠ 0 := by grind
  have e1 : a / -b * -b = a := Rat.div_mul_cancel h2
  have e2 : a / b * b = a := Rat.div_mul_cancel h
  have e3 : (a / -b + a / b) * b = 0 := by grind
  rcases Rat.mul_eq_zero.1 e3 with e | e
  · grind
  · exact absurd e h
theorem div_tp (w : Int) (hw : w = 32 ∨ w = 64) (p q : Pt) (h : divP w p q ≠ nanN w) : divP w (tp p) q = tn (divP w p q) w := by
  have hi := inf_sb w hw
  unfold divP at h ⊢
  by_cases h1 : p.2.1 = 3 ∨ q.2.1 = 3 ∨ p.2.1 = 2 ∧ q.2.1 = 2 ∨ p.2.1 = 0 ∧ q.2.1 = 0
  · rw [if_pos h1] at h; exact absurd rfl h
  · rw [if_neg h1] at h
    have e : (tp p).2 = p.2 ∧ (tp p).1 = !p.1 := by unfold tp; rw [if_neg (by omega)]; exact ⟨rfl, rfl⟩
    have e3 : ((!p.1) != q.1) = !(p.1 != q.1) := by cases p.1 <;> cases q.1 <;> rfl
    rw [e.1, e.2, if_neg h1, if_neg h1, e3]
    by_cases h2 : p.2.1 = 2 ∨ q.2.1 = 0
    · rw [if_pos h2, if_pos h2, tn_mk hw _ hi.1]
    · rw [if_neg h2, if_neg h2]
      by_cases h3 : p.2.1 = 0 ∨ q.2.1 = 2
      · rw [if_pos h3, if_pos h3, tn_mk hw _ (by omega)]
      · rw [if_neg h3, if_neg h3, pv_tp, neg_div']
        obtain ⟨m, t, hm, e1, e2⟩ := fx_neg' w (pv p / pv q) (.inr trivial) (p.1 != q.1)
        rw [e1, e2, tn_mk hw _ (by omega)]
theorem pv_ne {p : Pt} (h : p.2.1 = 1) (hp : PtOk p) : pv p ≠ 0 := by
  obtain ⟨s, kd, e, g⟩ := p
  obtain ⟨_, h2, _, h3, _⟩ := hp
  simp only at h h2 h3
  obtain ⟨g, rfl⟩ := Int.eq_ofNat_of_zero_le h3
  subst h
  have := pos_tw (show 0 < g by have := h2 rfl; omega) e
  rw [pv1]; cases s <;> simp <;> grind
theorem div_tq (w : Int) (hw : w = 32 ∨ w = 64) (p q : Pt) (hp : PtOk p) (hq : PtOk q) (h : divP w p q ≠ nanN w) : divP w p (tp q) = tn (divP w p q) w := by
  have hi := inf_sb w hw
  have kq := hq.1
  unfold divP at h ⊢
  by_cases h1 : p.2.1 = 3 ∨ q.2.1 = 3 ∨ p.2.1 = 2 ∧ q.2.1 = 2 ∨ p.2.1 = 0 ∧ q.2.1 = 0
  · rw [if_pos h1] at h; exact absurd rfl h
  · rw [if_neg h1] at h
    have e : (tp q).2 = q.2 ∧ (tp q).1 = !q.1 := by unfold tp; rw [if_neg (by omega)]; exact ⟨rfl, rfl⟩
    have e3 : (p.1 != (!q.1)) = !(p.1 != q.1) := by cases p.1 <;> cases q.1 <;> rfl
    rw [e.1, e.2, if_neg h1, if_neg h1, e3]
    by_cases h2 : p.2.1 = 2 ∨ q.2.1 = 0
    · rw [if_pos h2, if_pos h2, tn_mk hw _ hi.1]
    · rw [if_neg h2, if_neg h2]
      by_cases h3 : p.2.1 = 0 ∨ q.2.1 = 2
      · rw [if_pos h3, if_pos h3, tn_mk hw _ (by omega)]
      · rw [if_neg h3, if_neg h3, pv_tp, div_neg' (pv_ne (by omega) hq)]
        obtain ⟨m, t, hm, e1, e2⟩ := fx_neg' w (pv p / pv q) (.inr trivial) (p.1 != q.1)
        rw [e1, e2, tn_mk hw _ (by omega)]
theorem div_tp_nan (w : Int) (hw : w = 32 ∨ w = 64) (p q : Pt) (h : divP w p q = nanN w) : divP w (tp p) q = nanN w := by
  have hi := inf_sb w hw
  unfold divP at h ⊢
  have e : (tp p).2 = p.2 := by unfold tp; split <;> rfl
  by_cases h1 : p.2.1 = 3 ∨ q.2.1 = 3 ∨ p.2.1 = 2 ∧ q.2.1 = 2 ∨ p.2.1 = 0 ∧ q.2.1 = 0
  · rw [e, if_pos h1]
  · rw [if_neg h1] at h
    exfalso
    have : ∀ m s, m ≤ (fmt w).inf → mkN w m s ≠ nanN w := fun m s hm => by unfold mkN; split <;> omega
    by_cases h2 : p.2.1 = 2 ∨ q.2.1 = 0
    · rw [if_pos h2] at h; exact this _ _ (Nat.le_refl _) h
    · rw [if_neg h2] at h
      by_cases h3 : p.2.1 = 0 ∨ q.2.1 = 2
      · rw [if_pos h3] at h; exact this _ _ (Nat.zero_le _) h
      · rw [if_neg h3] at h
        obtain ⟨m, t, hm, e1, _⟩ := fx_neg' w (pv p / pv q) (.inr trivial) (p.1 != q.1)
        exact this _ _ hm (e1 ▸ h)
theorem div_one' (w : Int) (hw : w = 32 ∨ w = 64) (a : Nat) (ha : a < 18446744073709551616) (h : (opn w a).2.1 ≠ 3) : divP w (opn w a) (opn w (oneN w)) = cutN w a := by
  obtain ⟨e1, e2⟩ := opn_one w hw
  rw [cut_as_mk w hw a ha]
  unfold divP
  rw [e2, show pv (opn w a) / 1 = pv (opn w a) by grind, e1]
  simp only
  rcases kinds w hw a with ⟨h0, hk⟩ | ⟨h1, h2, hk⟩ | ⟨h0, hk⟩ | ⟨_, hk⟩
  · rw [hk]; simp [h0]
  · have hsg : 0 < (fmt w).sg (magN w a) := by
      have := (opn_ok w hw a).2.1
      rw [hk] at this
      have := this rfl
      simp only at this
      omega
    rw [hk, pv1]; simp only
    rw [if_neg (by decide), if_neg (by decide), if_neg (by decide), fx_sg w (pos_tw hsg _)]
    rw [show ((fmt w).sg (magN w a) : Rat) * tw ((fmt w).ex (magN w a)) = (fmt w).val (magN w a) from rfl, (fmt w).rnd_val (by omega)]
  · rw [hk]; simp [h0]
  · rw [hk] at h; exact absurd rfl h
theorem rnd_one (w : Int) (hw : w = 32 ∨ w = 64) (z : Bool) : fx w 1 z = oneN w := by
  have h := val_one w hw
  rw [fx_pos w (by decide), ← h.1, (fmt w).rnd_val (by omega)]
  simp [mkN]
theorem div_self' (w : Int) (hw : w = 32 ∨ w = 64) (p : Pt) (hp : PtOk p) (h : p.2.1 = 1) : divP w p p = oneN w := by
  have hne := pv_ne h hp
  unfold divP
  rw [if_neg (by omega), if_neg (by omega), if_neg (by omega), show pv p / pv p = 1 by grind, rnd_one w hw]
theorem one_lt (w : Int) : oneN w < 18446744073709551616 := by unfold oneN; split <;> decide
theorem div_one_one (w : Int) (hw : w = 32 ∨ w = 64) : divP w (opn w (oneN w)) (opn w (oneN w)) = oneN w := div_self' w hw _ (opn_ok w hw _) (by rw [(opn_one w hw).1])
theorem fullE (s : Bool) (kd : Int) {e : Int} {g : Nat} (h : 0 < g) (hg : g < 9007199254740992) (he : -1100 ≤ e ∧ e ≤ 1000) : quotient_above_full.f s kd e g = some (((g * 2 ^ (64 - bl g) : Nat) : Int), e - ((64 - bl g : Nat) : Int)) := by
  have h0 := bl_pos.2 h
  obtain ⟨t1, t2, t3⟩ := top64 h (by omega)
  unfold quotient_above_full.f bits_LeadingZeros64.f
  rw [if_pos (by omega), Option.bind_some, Int.toNat_natCast, bitLen_bl (by omega), show (64 : Int) - ((bl g : Nat) : Int) = ((64 - bl g : Nat) : Int) by omega, if_pos (by omega), shlN g _ (by omega), Nat.mod_eq_of_lt t2, w64_id (by omega) (by omega)]
theorem valueE (w : Int) (hw : w = 32 ∨ w = 64) (s t : Bool) (kd kd2 : Int) {e e2 : Int} {g g2 : Nat} (h : 0 < g) (h2 : 0 < g2) (hg : g < 9007199254740992) (hg2 : g2 < 9007199254740992) (he : -1100 ≤ e ∧ e ≤ 1000) (he2 : -1100 ≤ e2 ∧ e2 ≤ 1000) :
    Ev (fun k => quotient_fraction_value.f k s kd e g t kd2 e2 g2 w) ((mkN w ((fmt w).rnd (((g : Rat) * tw e) / ((g2 : Rat) * tw e2))) (s != t) : Nat) : Int) := by
  obtain ⟨a1, a2, a3⟩ := top64 h (by omega)
  obtain ⟨b1, b2, b3⟩ := top64 h2 (by omega)
  have X := quo_x (g := g) (n := 64 - bl g) (n2 := 64 - bl g2) h2 e e2
  unfold quotient_fraction_value.f
  refine Ev.bs (fullE s kd h hg he) (Ev.bs (fullE t kd2 h2 hg2 he2) ?_)
  generalize hn : 64 - bl g = n at *
  generalize hn2 : 64 - bl g2 = n2 at *
  generalize hA : g * 2 ^ n = A at *
  generalize hB : g2 * 2 ^ n2 = B at *
  have hl := wLeft (V := A) (by omega) 64 (by decide) (by rw [show (2 : Nat) ^ 64 = 18446744073709551616 by decide]; omega)
  rw [(wSmall a2).1, (wSmall a2).2, show (2 : Nat) ^ 64 = 18446744073709551616 by decide] at hl
  generalize hN : A * 18446744073709551616 = N at *
  have hd := divW (N / 18446744073709551616) (N % 18446744073709551616) B (hi64 (by omega)) (lo64 N) (by omega) b2
  rw [wn_div] at hd
  have hq1 : N / B < 340282366920938463463374607431768211456 := Nat.lt_of_le_of_lt (Nat.div_le_self _ _) (by omega)
  have hq2 : 9007199254740992 ≤ N / B := by rw [Nat.le_div_iff_mul_le (by omega)]; omega
  refine Ev.bs (ofW A) (Ev.bs hl (Ev.bind hd ?_))
  have hm : ((((N % B : Nat) : Int)) != 0) = decide (N % B ≠ 0) := by generalize N % B = m; rw [Bool.eq_iff_iff]; simp
  simp only
  rw [hm, w64_id (n := e - (n : Int) - (e2 - (n2 : Int))) (by omega) (by omega), w64_id (n := e - (n : Int) - (e2 - (n2 : Int)) - 64) (by omega) (by omega)]
  refine Ev.bs (packV w hw (s != t) (N / B) hq1 _ _) (Ev.out ?_)
  rw [quo_pk w (by omega) _ _ X hq1 hq2]
theorem div_fx (w : Int) (s t : Bool) (e e2 : Int) {g g2 : Nat} (h : 0 < g) (h2 : 0 < g2) (z : Bool) : fx w (pv (s, 1, e, (g : Int)) / pv (t, 1, e2, (g2 : Int))) z = mkN w ((fmt w).rnd (((g : Rat) * tw e) / ((g2 : Rat) * tw e2))) (s != t) := by
  have p1 := pos_tw h e
  have p2 := pos_tw h2 e2
  rw [pv1, pv1]
  generalize (g : Rat) * tw e = x at *
  generalize (g2 : Rat) * tw e2 = y at *
  have hne : y ≠ 0 := by grind
  have hp : 0 < x / y := by
    refine lt_of_mul (t := y) ?_ p2
    rw [Rat.zero_mul, Rat.div_mul_cancel hne]; exact p1
  have e1 : (if s = true then -x else x) / (if t = true then -y else y) = if (s != t) = true then -(x / y) else x / y := by
    cases s <;> cases t <;> simp [neg_div', div_neg' hne, Rat.neg_neg]
  rw [e1, fx_sg w hp]
set_option maxRecDepth 20000 in
theorem divProg (w : Int) (hw : w = 32 ∨ w = 64) (p q : Pt) (hp : PtOk p) (hq : PtOk q) : Ev (fun k => quotient_parts.f k w p.1 p.2.1 p.2.2.1 p.2.2.2 q.1 q.2.1 q.2.2.1 q.2.2.2) ((divP w p q : Nat) : Int) := by
  obtain ⟨s, kd, e, g⟩ := p
  obtain ⟨t, kd2, e2, g2⟩ := q
  obtain ⟨h1, h2, h0, h3, h4, h5, h6⟩ := hp
  obtain ⟨k1, k2, k0, k3, k4, k5, k6⟩ := hq
  simp only at h1 h2 h0 h3 h4 h5 h6 k1 k2 k0 k3 k4 k5 k6
  obtain ⟨g, rfl⟩ := Int.eq_ofNat_of_zero_le h3
  obtain ⟨g2, rfl⟩ := Int.eq_ofNat_of_zero_le k3
  simp only
  generalize hR : divP w (s, kd, e, (g : Int)) (t, kd2, e2, (g2 : Int)) = R
  unfold quotient_parts.f
  rcases h1 with rfl | rfl | rfl | rfl <;> rcases k1 with rfl | rfl | rfl | rfl
  all_goals
    simp [divP] at hR
    subst hR
    repeat (first
      | (with_reducible refine Ev.pos (by decide) ?_)
      | (with_reducible refine Ev.neg (by decide) ?_)
      | (with_reducible refine Ev.step (fun _ => quotient_parts.j0.eq_2 ..) ?_)
      | (with_reducible refine Ev.step (fun _ => quotient_parts.j1.eq_2 ..) ?_)
      | (with_reducible refine Ev.step (fun _ => quotient_parts.j2.eq_2 ..) ?_))
  all_goals first
    | (rw [div_fx w s t e e2 (by have := h2 rfl; omega) (by have := k2 rfl; omega)]
       exact Ev.bind (valueE w hw s t 1 1 (by have := h2 rfl; omega) (by have := k2 rfl; omega) (by omega) (by omega) ⟨h5, h6⟩ ⟨k5, k6⟩) (Ev.out rfl))
    | (exact Ev.bs (shN w hw) (Ev.out rfl))
    | (exact Ev.bs (shI w hw _) (Ev.out rfl))
    | (exact Ev.bs (shZ w hw _) (Ev.out rfl))
theorem divE (w : Int) (hw : w = 32 ∨ w = 64) (a b : Nat) (ha : a < 18446744073709551616) (hb : b < 18446744073709551616) : Ev (fun k => quotient_Div.f k w a b) ((divP w (opn w a) (opn w b) : Nat) : Int) := by
  have main : Ev (fun k => quotient_Div.j0 k w a b false) ((divP w (opn w a) (opn w b) : Nat) : Int) := by
    refine Ev.step (fun _ => quotient_Div.j0.eq_2 ..) (Ev.neg (by decide) (Ev.bind (openS w hw a ha) (Ev.bind (openS w hw b hb) ?_)))
    exact Ev.bind (divProg w hw _ _ (opn_ok w hw a) (opn_ok w hw b)) (Ev.out rfl)
  unfold quotient_Div.f
  rcases hw with rfl | rfl
  · exact Ev.pos rfl main
  · exact Ev.neg (by decide) main
theorem invE (w : Int) (hw : w = 32 ∨ w = 64) (a : Nat) (ha : a < 18446744073709551616) : Ev (fun k => quotient_Inverse.f k w a) ((divP w (opn w (oneN w)) (opn w a) : Nat) : Int) := by
  have h := val_one w hw
  have h1 : round_Whole.f w false 1 = some ((oneN w : Nat) : Int) := by
    rw [show (1 : Int) = ((1 : Nat) : Int) from rfl, wholeE w hw false 1 (by decide)]
    rw [show ((1 : Nat) : Rat) = (fmt w).val (oneN w) by rw [h.1]; rfl, (fmt w).rnd_val (by omega)]
    simp [mkN]
  unfold quotient_Inverse.f
  exact Ev.bs h1 (Ev.bind (divE w hw (oneN w) a (by unfold oneN; split <;> decide) ha) (Ev.out rfl))
theorem refOneK (w : Int) (hw : w = 32 ∨ w = 64) : Ev (fun k => r5_One.f k w) ((oneN w : Nat) : Int) := by
  rcases hw with rfl | rfl
  · exact Ev.of (fun k => r5_One.mono _ k) (k := 80) (by decide +kernel)
  · exact Ev.of (fun k => r5_One.mono _ k) (k := 80) (by decide +kernel)
theorem awake06K : Ev (fun k => L06_awake.f k) true := Ev.of (fun k => L06_awake.mono k) (k := 80) (by decide +kernel)
theorem QuotientKeepsP : L06_QuotientKeeps.Pure := by
  intro w a b hw0 ha0 hb0
  obtain ⟨ha1, ha2⟩ := wf_u64 ha0
  obtain ⟨a, rfl⟩ := Int.eq_ofNat_of_zero_le ha1
  have ha : a < 18446744073709551616 := by omega
  obtain ⟨hb1, hb2⟩ := wf_u64 hb0
  obtain ⟨b, rfl⟩ := Int.eq_ofNat_of_zero_le hb1
  have hb : b < 18446744073709551616 := by omega
  refine Ev.rounds ?_
  unfold L06_QuotientKeeps.f
  refine Ev.bind awake06K (Ev.pos rfl ?_)
  by_cases hw : w = 32 ∨ w = 64
  · have main : Ev (fun k => L06_QuotientKeeps.j0 k w a b false) true := by
      refine Ev.step (fun _ => L06_QuotientKeeps.j0.eq_2 ..) (Ev.neg (by decide) ?_)
      obtain ⟨m, hm⟩ : ∃ m, divP w (opn w a) (opn w b) = m := ⟨_, rfl⟩
      have hc : Can w m := hm ▸ can_div w _ _
      obtain ⟨hcut, hlt⟩ := can_cut hw hc
      have e1 := divE w hw a b ha hb
      rw [hm] at e1
      have e0 := invE w hw (oneN w) (one_lt w)
      rw [div_one_one w hw] at e0
      refine Ev.bind (refOneK w hw) (Ev.bind e0 (Ev.bs (shZ w hw true) (Ev.bind e1 (Ev.bind (openS w hw a ha) (Ev.bind (refOneK w hw) (Ev.pos rfl (Ev.bs (shCut w m hlt) ?_)))))))
      rw [hcut, bne_self_eq_false]
      refine Ev.step (fun _ => L06_QuotientKeeps.j1.eq_2 ..) (Ev.neg (by decide) ?_)
      have hN := isnanS w hw m hlt
      rw [can_nan hw hc] at hN
      refine Ev.bind hN ?_
      rw [xor_tn w hw ha, xor_tn w hw hb]
      have e3 := divE w hw (tn a w) b (tn_lt ha) hb
      rw [opn_tn w hw] at e3
      by_cases hnan : m = nanN w
      · rw [div_tp_nan w hw _ _ (hm.trans hnan)] at e3
        rw [decide_eq_true hnan]
        refine Ev.pos rfl (Ev.bs (shN w hw) (Ev.pos (by rw [hnan]) (Ev.bind e3 (Ev.out ?_))))
        rw [hnan]; simp
      · have e4 := divE w hw a (tn b w) ha (tn_lt hb)
        rw [opn_tn w hw, div_tq w hw _ _ (opn_ok w hw a) (opn_ok w hw b) (hm ▸ hnan), hm] at e4
        rw [div_tp w hw _ _ (hm ▸ hnan), hm] at e3
        have h3 : (opn w a).2.1 ≠ 3 := fun h => hnan (by rw [← hm]; unfold divP; rw [if_pos (.inl h)])
        have e5 := divE w hw a (oneN w) ha (one_lt w)
        rw [div_one' w hw a ha h3] at e5
        rw [decide_eq_false hnan, xor_tn w hw hlt]
        refine Ev.neg (by decide) (Ev.bind e3 (Ev.pos rfl (Ev.bind e4 (Ev.pos rfl (Ev.bind e5 (Ev.bs (shCut w a ha) (Ev.pos rfl ?_)))))))
        by_cases h1 : (opn w a).2.1 = 1
        · have e6 := divE w hw a a ha ha
          rw [div_self' w hw _ (opn_ok w hw a) h1] at e6
          exact Ev.pos h1 (Ev.bind e6 (Ev.out (by simp)))
        · exact Ev.neg h1 (Ev.out rfl)
    rcases hw with rfl | rfl
    · exact Ev.pos rfl main
    · exact Ev.neg (by decide) main
  · refine Ev.neg (by omega) (Ev.step (fun _ => L06_QuotientKeeps.j0.eq_2 ..) (Ev.pos ?_ (Ev.out rfl)))
    rw [bne_iff_ne]; omega
end Go.Proofs.Ytbpmnmceajmmcaa.Th
end
namespace Go.Proofs.Ytbpmnmceajmmcaa.Pure
theorem QuotientKeeps : Go.Proofs.Ytbpmnmceajmmcaa.PA.L06_QuotientKeeps.Pure := Go.Proofs.Ytbpmnmceajmmcaa.Th.QuotientKeepsP
end Go.Proofs.Ytbpmnmceajmmcaa.Pure
namespace Go.Proofs.Ytbpmnmceajmmcaa.Facts
abbrev ch (n : Nat) : Char := Char.ofNat n
theorem words_word (w : List Char) (r : List Char) (h : w.all (fun c => c != ch 32) = true) : wordsSigns (w ++ ch 32 :: r) = w :: wordsSigns r := by
  induction w with
  | nil => rfl
  | cons c w ih =>
    rw [List.all_cons, Bool.and_eq_true] at h
    have hc : c ≠ ch 32 := bne_iff_ne.1 h.1
    rw [List.cons_append]
    rw [wordsSigns.eq_3 c _ (fun e => hc e), ih h.2]
def w1 : List Char := [ch 104, ch 97, ch 114, ch 110, ch 101, ch 115, ch 115]
def w2 : List Char := [ch 97, ch 57, ch 99, ch 102, ch 100, ch 53, ch 99, ch 57, ch 100, ch 54, ch 48, ch 56, ch 102, ch 100, ch 52, ch 54, ch 54, ch 52, ch 54, ch 53, ch 57, ch 56, ch 53, ch 100, ch 57, ch 55, ch 54, ch 57, ch 102, ch 102, ch 100, ch 56, ch 53, ch 100, ch 49, ch 56, ch 54, ch 56, ch 53, ch 55, ch 54, ch 97, ch 49, ch 53, ch 100, ch 100, ch 56, ch 49, ch 54, ch 55, ch 99, ch 101, ch 56, ch 52, ch 54, ch 98, ch 102, ch 55, ch 57, ch 48, ch 52, ch 55, ch 56, ch 49]
def w3 : List Char := [ch 99, ch 117, ch 116]
set_option maxRecDepth 100000 in
def tailSigns : List Char := [ch 97, ch 116, ch 32, ch 116, ch 114, ch 117, ch 110, ch 110, ch 105, ch 111, ch 110, ch 47, ch 116, ch 114, ch 117, ch 110, ch 110, ch 105, ch 111, ch 110, ch 108, ch 97, ch 119, ch 48, ch 53, ch 46, ch 80, ch 114, ch 111, ch 100, ch 117, ch 99, ch 116, ch 84, ch 119, ch 105, ch 99, ch 101, ch 32, ch 116, ch 114, ch 117, ch 110, ch 110, ch 105, ch 111, ch 110, ch 47, ch 116, ch 114, ch 117, ch 110, ch 110, ch 105, ch 111, ch 110, ch 108, ch 97, ch 119, ch 48, ch 53, ch 46, ch 80, ch 114, ch 111, ch 100, ch 117, ch 99, ch 116, ch 83, ch 99, ch 97, ch 108, ch 101, ch 115, ch 32, ch 116, ch 114, ch 117, ch 110, ch 110, ch 105, ch 111, ch 110, ch 47, ch 116, ch 114, ch 117, ch 110, ch 110, ch 105, ch 111, ch 110, ch 108, ch 97, ch 119, ch 48, ch 54, ch 46, ch 81, ch 117, ch 111, ch 116, ch 105, ch 101, ch 110, ch 116, ch 68, ch 105, ch 118, ch 115, ch 32, ch 116, ch 114, ch 117, ch 110, ch 110, ch 105, ch 111, ch 110, ch 47, ch 116, ch 114, ch 117, ch 110, ch 110, ch 105, ch 111, ch 110, ch 108, ch 97, ch 119, ch 48, ch 54, ch 46, ch 81, ch 117, ch 111, ch 116, ch 105, ch 101, ch 110, ch 116, ch 75, ch 101, ch 101, ch 112, ch 115, ch 32, ch 116, ch 114, ch 117, ch 110, ch 110, ch 105, ch 111, ch 110, ch 47, ch 116, ch 114, ch 117, ch 110, ch 110, ch 105, ch 111, ch 110, ch 108, ch 97, ch 119, ch 48, ch 54, ch 46, ch 81, ch 117, ch 111, ch 116, ch 105, ch 101, ch 110, ch 116, ch 83, ch 99, ch 97, ch 108, ch 101, ch 32, ch 116, ch 114, ch 117, ch 110, ch 110, ch 105, ch 111, ch 110, ch 47, ch 116, ch 114, ch 117, ch 110, ch 110, ch 105, ch 111, ch 110, ch 108, ch 97, ch 119, ch 48, ch 51, ch 46, ch 82, ch 111, ch 117, ch 110, ch 100, ch 80, ch 97, ch 99, ch 107, ch 115, ch 32, ch 116, ch 114, ch 117, ch 110, ch 110, ch 105, ch 111, ch 110, ch 47, ch 116, ch 114, ch 117, ch 110, ch 110, ch 105, ch 111, ch 110, ch 108, ch 97, ch 119, ch 48, ch 51, ch 46, ch 82, ch 111, ch 117, ch 110, ch 100, ch 82, ch 105, ch 115, ch 101, ch 115, ch 32, ch 116, ch 114, ch 117, ch 110, ch 110, ch 105, ch 111, ch 110, ch 47, ch 116, ch 114, ch 117, ch 110, ch 110, ch 105, ch 111, ch 110, ch 108, ch 97, ch 119, ch 48, ch 51, ch 46, ch 82, ch 111, ch 117, ch 110, ch 100, ch 75, ch 101, ch 101, ch 112, ch 115, ch 32, ch 116, ch 114, ch 117, ch 110, ch 110, ch 105, ch 111, ch 110, ch 47, ch 116, ch 114, ch 117, ch 110, ch 110, ch 105, ch 111, ch 110, ch 108, ch 97, ch 119, ch 48, ch 52, ch 46, ch 83, ch 117, ch 109, ch 65, ch 100, ch 100, ch 115, ch 32, ch 116, ch 114, ch 117, ch 110, ch 110, ch 105, ch 111, ch 110, ch 47, ch 116, ch 114, ch 117, ch 110, ch 110, ch 105, ch 111, ch 110, ch 108, ch 97, ch 119, ch 48, ch 52, ch 46, ch 83, ch 117, ch 109, ch 79, ch 114, ch 100, ch 101, ch 114, ch 32, ch 116, ch 114, ch 117, ch 110, ch 110, ch 105, ch 111, ch 110, ch 47, ch 116, ch 114, ch 117, ch 110, ch 110, ch 105, ch 111, ch 110, ch 108, ch 97, ch 119, ch 48, ch 52, ch 46, ch 83, ch 117, ch 109, ch 67, ch 108, ch 111, ch 115, ch 101, ch 32, ch 116, ch 114, ch 117, ch 110, ch 110, ch 105, ch 111, ch 110, ch 47, ch 116, ch 114, ch 117, ch 110, ch 110, ch 105, ch 111, ch 110, ch 108, ch 97, ch 119, ch 48, ch 52, ch 46, ch 83, ch 117, ch 109, ch 84, ch 111, ch 116, ch 97, ch 108, ch 115]
set_option maxRecDepth 100000 in
theorem head_list : Try.prog.initOrder.toList = w1 ++ ch 32 :: (w2 ++ ch 32 :: (w3 ++ ch 32 :: tailSigns)) :=
  (congrArg String.toList (show Try.prog.initOrder = String.ofList (w1 ++ ch 32 :: (w2 ++ ch 32 :: (w3 ++ ch 32 :: tailSigns))) from rfl)).trans String.toList_ofList
theorem words : ∃ rest, behindMainWord (wordsSigns Try.prog.initOrder.toList) = w3 :: rest := by
  refine ⟨wordsSigns tailSigns, ?_⟩
  rw [head_list, words_word w1 _ (by kernel_rfl), words_word w2 _ (by kernel_rfl), words_word w3 _ (by kernel_rfl)]
  generalize wordsSigns tailSigns = rest
  have e : ((w1 == "harness".toList || w1 == "ownmain".toList) && isSumSigns w2) = true := by kernel_rfl
  show (if ((w1 == "harness".toList || w1 == "ownmain".toList) && isSumSigns w2) = true then w3 :: rest else w1 :: w2 :: w3 :: rest) = w3 :: rest
  rw [if_pos e]
theorem c3 : (w3 == "gc".toList) = false ∧ (w3 == "spec".toList) = false ∧ (w3 == "cut".toList) = true ∧ (w3 == "carried".toList) = false ∧ (w3 == "finals".toList) = false := ⟨by kernel_rfl, by kernel_rfl, by kernel_rfl, by kernel_rfl, by kernel_rfl⟩
theorem strip (rest : List (List Char)) : stripLifts liftWords (w3 :: rest) = ([], w3 :: rest) := by
  have key : ∀ l : List String, l.all (fun o => !(w3 == o.toList)) = true → stripLifts l (w3 :: rest) = ([], w3 :: rest) := by
    intro l
    induction l with
    | nil => intro _; rfl
    | cons o l ih =>
      intro h
      rw [List.all_cons, Bool.and_eq_true] at h
      unfold stripLifts
      rw [if_neg (fun e => by have h1 := h.1; rw [e] at h1; cases h1)]
      exact ih h.2
  exact key liftWords (by kernel_rfl)
theorem make_of (P : Program) (h : ∃ rest, behindMainWord (wordsSigns P.initOrder.toList) = w3 :: rest) : P.make = some .cut := by
  obtain ⟨rest, h⟩ := h
  unfold Program.make
  rw [h]
  show (if (w3 == "gc".toList || w3 == "spec".toList) = true then some Make.whole else if (w3 == "cut".toList || (w3 == "finals".toList && rest.head? == some "cut".toList)) = true then some Make.cut else _) = some Make.cut
  rw [if_neg (by rw [c3.1, c3.2.1]; decide), if_pos (by rw [c3.2.2.1, Bool.true_or])]
set_option maxRecDepth 100000 in
theorem liftsFact : Try.prog.liftsFinal = false := by
  unfold Program.liftsFinal Program.headLifts
  rw [head_list]
  kernel_rfl
theorem doorFact : (!Try.prog.laysLater && !Try.prog.bearsReflect && Try.prog.doorFits []) = true := by kernel_rfl
theorem makeFact : Try.prog.make = some .cut := make_of _ words
theorem enter_of (P : Program) (h : ∃ rest, behindMainWord (wordsSigns P.initOrder.toList) = w3 :: rest) (d : (!P.laysLater && !P.bearsReflect && P.doorFits []) = true) : P.mayEnter = true := by
  obtain ⟨rest, h⟩ := h
  rw [Bool.and_eq_true, Bool.and_eq_true] at d
  have e : ((some w3 == some "cut".toList) : Bool) = true := by kernel_rfl
  unfold Program.mayEnter
  rw [h]
  show ((_ || _) || ((stripLifts liftWords (w3 :: rest)).2.head? == some "cut".toList && ((stripLifts liftWords (w3 :: rest)).1.contains "finals" || !P.laysLater) && ((stripLifts liftWords (w3 :: rest)).1.contains "reflectrows" || !P.bearsReflect) &&
      ((stripLifts liftWords (w3 :: rest)).1.contains "reflectrows" || !(stripLifts liftWords (w3 :: rest)).1.contains "leanrows") && P.doorFits (stripLifts liftWords (w3 :: rest)).1)) = true
  rw [strip, Bool.or_eq_true]
  refine .inr ?_
  rw [Bool.and_eq_true, Bool.and_eq_true, Bool.and_eq_true, Bool.and_eq_true, Bool.or_eq_true, Bool.or_eq_true]
  exact ⟨⟨⟨⟨e, .inr d.1.1⟩, .inr d.1.2⟩, rfl⟩, d.2⟩
theorem enterFact : Try.prog.mayEnter = true := enter_of _ words doorFact
end Go.Proofs.Ytbpmnmceajmmcaa.Facts
