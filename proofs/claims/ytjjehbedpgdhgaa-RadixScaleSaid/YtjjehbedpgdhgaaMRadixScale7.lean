/- What the Go functions that the statement RadixScale reaches compute, and the mathematics on it, in the order in which one leans on the other; for every input. -/
import Derived.Test.YtjjehbedpgdhgaaVRadixScale0
import Derived.Test.YtjjehbedpgdhgaaMRadixScale6
import Derived.Test.YtjjehbedpgdhgaaMRadixScale0
import Derived.Test.YtjjehbedpgdhgaaMRadixScale5
import Derived.Test.YtjjehbedpgdhgaaRows
import Derived.ProofKit
import Derived.JoinedOf
import Derived.KernelRfl
section
set_option linter.unusedVariables false
set_option linter.unusedSimpArgs false
namespace Go.Proofs.Ytjjehbedpgdhgaa.Th
open Go.RowKit Go.Proofs.YtjjehbedpgdhgaaW.PrintWords Go.Proofs.YtjjehbedpgdhgaaW.PrintLast Go.Proofs.YtjjehbedpgdhgaaW.PrintMore Go.Proofs.Ytjjehbedpgdhgaa.PA Bit Dig Flo
theorem shU (F : Fmt) {m j : Nat} (h : 2 ^ F.f ≤ m) : F.sg (m + j * 2 ^ F.f) = F.sg m ∧ F.ex (m + j * 2 ^ F.f) = F.ex m + j := by
  have hp := F.pow_pos
  unfold Fmt.sg Fmt.ex
  rw [if_neg (by omega), if_neg (by omega), if_neg (by omega), if_neg (by omega), Nat.add_mul_mod_self_right, Nat.add_mul_div_right _ _ hp]
  refine ⟨rfl, ?_⟩
  push_cast; omega
theorem shift (F : Fmt) {m m' : Nat} {k : Int} (h : 2 ^ F.f ≤ m) (h' : 2 ^ F.f ≤ m') (e : (m' : Int) = m + k * ((2 ^ F.f : Nat) : Int)) : F.sg m' = F.sg m ∧ F.ex m' = F.ex m + k := by
  rcases Int.le_total 0 k with c | c
  · obtain ⟨j, rfl⟩ := Int.eq_ofNat_of_zero_le c
    obtain rfl : m' = m + j * 2 ^ F.f := by exact_mod_cast e
    exact shU F h
  · obtain ⟨j, hj⟩ := Int.eq_ofNat_of_zero_le (show 0 ≤ -k by omega)
    obtain rfl : k = -(j : Int) := by omega
    obtain rfl : m = m' + j * 2 ^ F.f := by
      have : (m : Int) = m' + (j : Int) * ((2 ^ F.f : Nat) : Int) := by rw [e, Int.neg_mul]; omega
      exact_mod_cast this
    have := shU F (m := m') (j := j) h'
    rw [this.1, this.2]
    exact ⟨rfl, by omega⟩
theorem midSh (F : Fmt) {m m' : Nat} {k : Int} (h : 2 ^ F.f ≤ m) (h' : 2 ^ F.f ≤ m') (e : (m' : Int) = m + k * ((2 ^ F.f : Nat) : Int)) : F.mid m' = F.mid m * tw k := by
  obtain ⟨s1, s2⟩ := shift F h h' e
  unfold Fmt.mid
  rw [s1, s2, show F.ex m + k - 1 = F.ex m - 1 + k by omega, tw_add, Rat.mul_assoc]
theorem valSh (F : Fmt) {m m' : Nat} {k : Int} (h : 2 ^ F.f ≤ m) (h' : 2 ^ F.f ≤ m') (e : (m' : Int) = m + k * ((2 ^ F.f : Nat) : Int)) : F.val m' = F.val m * tw k ∧ F.val m' = (F.sg m : Rat) * tw (F.ex m + k) := by
  obtain ⟨s1, s2⟩ := shift F h h' e
  unfold Fmt.val
  rw [s1, s2]
  exact ⟨by rw [tw_add, Rat.mul_assoc], rfl⟩
theorem fmt_sz (w : Int) : (fmt w).f + (fmt w).low + 2 ≤ 0 ∧ 3 ≤ (fmt w).f + (fmt w).top + (fmt w).low ∧ (fmt w).f % 64 ≠ 0 ∧ 1 ≤ (fmt w).f := by
  unfold fmt; split <;> decide
theorem usqSh (F : Fmt) {m m' : Nat} {k : Int} {x : Rat} (h : 2 ^ F.f ≤ m) (h' : 2 ^ F.f ≤ m') (e : (m' : Int) = m + k * ((2 ^ F.f : Nat) : Int)) (ev : m' % 2 = m % 2) : F.USq (x * tw (2 * k)) m' ↔ F.USq x m := by
  have T := tw_pos (2 * k)
  have e1 : F.mid m' * F.mid m' = F.mid m * F.mid m * tw (2 * k) := by
    rw [midSh F h h' e, show 2 * k = k + k by omega, tw_add]; grind
  unfold Fmt.USq
  rw [e1, ev]
  have a1 : F.mid m * F.mid m * tw (2 * k) < x * tw (2 * k) ↔ F.mid m * F.mid m < x := ⟨fun y => lt_of_mul y T, fun y => mul_lt y T⟩
  have a2 : F.mid m * F.mid m * tw (2 * k) = x * tw (2 * k) ↔ F.mid m * F.mid m = x := by
    constructor
    · intro y
      have b1 : ¬ F.mid m * F.mid m < x := fun c => by have := mul_lt c T; grind
      have b2 : ¬ x < F.mid m * F.mid m := fun c => by have := mul_lt c T; grind
      grind
    · intro y; rw [y]
  rw [a1, a2]
theorem midP (w : Int) {n : Nat} (h : 2 ^ (fmt w).f ≤ n) : (fmt w).mid (2 ^ (fmt w).f) * (fmt w).mid (2 ^ (fmt w).f) < (fmt w).val n := by
  have hp := (fmt w).pow_pos
  have z := fmt_sz w
  have s := Fmt.sg_mk (fmt w) 0 (2 ^ (fmt w).f) (by rw [Nat.pow_succ]; omega) (fun _ => Nat.le_refl _)
  rw [Nat.zero_mul, Nat.zero_add] at s
  have v : tw ((fmt w).f + (fmt w).low) ≤ (fmt w).val n := by
    refine Rat.le_trans ?_ ((fmt w).val_mono h)
    unfold Fmt.val
    rw [s.1, s.2, ← tw_nat, ← tw_add]
    exact tw_le (by omega)
  have m0 : (fmt w).mid (2 ^ (fmt w).f) < tw ((fmt w).f + (fmt w).low + 1) := by
    unfold Fmt.mid
    rw [s.1, s.2, show (fmt w).f + (fmt w).low + 1 = (((fmt w).f + 2 : Nat) : Int) + (((0 : Nat) : Int) + (fmt w).low - 1) by omega, tw_add, tw_nat]
    refine mul_lt (nat_lt.2 ?_) (tw_pos _)
    rw [Nat.pow_add]; omega
  have m1 : 0 ≤ (fmt w).mid (2 ^ (fmt w).f) := Rat.le_of_lt ((fmt w).mid_pos _)
  have m2 := sq_lt m1 m0
  rw [← tw_add] at m2
  have m3 : tw ((fmt w).f + (fmt w).low + 1 + ((fmt w).f + (fmt w).low + 1)) ≤ tw ((fmt w).f + (fmt w).low) := tw_le (by omega)
  grind
theorem rsq_shift (w : Int) (hw : w = 32 ∨ w = 64) {m m' : Nat} {k : Int} (h : 2 ^ (fmt w).f ≤ m) (hi : m < (fmt w).inf) (h' : 2 ^ (fmt w).f ≤ m') (hi' : m' < (fmt w).inf) (e : (m' : Int) = m + 2 * k * ((2 ^ (fmt w).f : Nat) : Int)) :
    ∃ R R' : Nat, (fmt w).rsq ((fmt w).val m) = R ∧ (fmt w).rsq ((fmt w).val m') = R' ∧ (R' : Int) = R + k * ((2 ^ (fmt w).f : Nat) : Int) ∧ 2 ^ (fmt w).f < R ∧ 2 ^ (fmt w).f < R' ∧ R < (fmt w).inf ∧ R' < (fmt w).inf := by
  have hp := (fmt w).pow_pos
  have z := fmt_sz w
  have hx := (valSh (fmt w) h h' e).1
  have l1 := rsq_lt w hw hi
  have l2 := rsq_lt w hw hi'
  obtain ⟨R, hR⟩ : ∃ R, (fmt w).rsq ((fmt w).val m) = R := ⟨_, rfl⟩
  obtain ⟨R2, hR2⟩ : ∃ R2, (fmt w).rsq ((fmt w).val m') = R2 := ⟨_, rfl⟩
  have iff1 := fun n => usq_iff w (m := n) hR (hR ▸ l1)
  have iff2 := fun n => usq_iff w (m := n) hR2 (hR2 ▸ l2)
  have p1 : 2 ^ (fmt w).f < R := (iff1 _).1 (.inl (midP w h))
  have p2 : 2 ^ (fmt w).f < R2 := (iff2 _).1 (.inl (midP w h'))
  have ev : ∀ {a b : Nat} {c : Int}, (b : Int) = a + c * ((2 ^ (fmt w).f : Nat) : Int) → b % 2 = a % 2 := by
    intro a b c hc
    have : 2 ^ (fmt w).f = 2 * 2 ^ ((fmt w).f - 1) := by rw [← Nat.pow_succ']; congr 1; omega
    rw [this] at hc
    push_cast at hc
    have : (b : Int) = a + 2 * (c * 2 ^ ((fmt w).f - 1)) := by rw [hc]; grind
    omega
  rw [hx] at iff2
  -- the root stays a number of full bits below
  have low : ∀ j : Nat, k = -(j : Int) → 2 ^ (fmt w).f + j * 2 ^ (fmt w).f < R := by
    intro j hj
    refine (iff1 _).1 ?_
    have u := (iff2 (2 ^ (fmt w).f)).2 p2
    refine (usqSh (fmt w) (m := 2 ^ (fmt w).f + j * 2 ^ (fmt w).f) (m' := 2 ^ (fmt w).f) (k := k) (by omega) (Nat.le_refl _) ?_ ?_).1 u
    · rw [hj]; push_cast; grind
    · exact (ev (a := 2 ^ (fmt w).f) (b := 2 ^ (fmt w).f + j * 2 ^ (fmt w).f) (c := j) (by push_cast; rfl)).symm
  have high : ∀ j : Nat, k = (j : Int) → R + j * 2 ^ (fmt w).f < (fmt w).inf := by
    intro j hj
    rcases Nat.lt_or_ge (R + j * 2 ^ (fmt w).f) (fmt w).inf with c | c
    · exact c
    · exfalso
      have hI : (fmt w).inf = (fmt w).top * 2 ^ (fmt w).f := rfl
      have em : m' = m + (2 * j) * 2 ^ (fmt w).f := by
        rw [hj] at e
        have : (m' : Int) = ((m + (2 * j) * 2 ^ (fmt w).f : Nat) : Int) := by rw [e]; push_cast; grind
        exact_mod_cast this
      have hj2 : 2 * j + 1 < (fmt w).top + 0 := by
        rcases Nat.lt_or_ge (2 * j + 1) ((fmt w).top) with d | d
        · omega
        · have := Nat.mul_le_mul_right (2 ^ (fmt w).f) d
          rw [Nat.add_mul, Nat.one_mul] at this
          omega
      obtain ⟨t, ht⟩ : ∃ t, (fmt w).top = t + 1 + j := ⟨(fmt w).top - 1 - j, by omega⟩
      have hRt : (t + 1) * 2 ^ (fmt w).f ≤ R := by
        rw [hI, ht, Nat.add_mul] at c; omega
      have hm1 : 0 < (t + 1) * 2 ^ (fmt w).f := Nat.mul_pos (by omega) hp
      obtain ⟨m1, hm1'⟩ : ∃ m1, (t + 1) * 2 ^ (fmt w).f = m1 + 1 := ⟨(t + 1) * 2 ^ (fmt w).f - 1, by omega⟩
      have u := (iff1 m1).2 (by omega)
      have v1 : (fmt w).val (m1 + 1) = tw ((fmt w).f + t + (fmt w).low) := by
        have s := Fmt.sg_mk (fmt w) t (2 ^ (fmt w).f) (by rw [Nat.pow_succ]; omega) (fun _ => Nat.le_refl _)
        rw [← hm1', Nat.add_mul, Nat.one_mul]
        unfold Fmt.val
        rw [s.1, s.2, ← tw_nat, ← tw_add]; congr 1; omega
      have v2 := (fmt w).val_succ m1
      have v3 := (fmt w).mid_eq m1
      have v4 := tw_pred ((fmt w).ex m1)
      have v5 := (fmt w).val_nonneg m1
      have v6 := tw_pred ((fmt w).f + t + (fmt w).low)
      have v7 : tw ((fmt w).f + t + (fmt w).low - 1) ≤ (fmt w).mid m1 := by grind
      have v8 := sq_le (Rat.le_of_lt (tw_pos _)) v7
      rw [← tw_add] at v8
      have v9 : (fmt w).mid m1 * (fmt w).mid m1 ≤ (fmt w).val m := by
        rcases u with u | ⟨u, _⟩
        · exact Rat.le_of_lt u
        · rw [u]; exact Rat.le_refl
      have va : (fmt w).val m' < (fmt w).val (fmt w).inf := (fmt w).val_lt hi'
      rw [(fmt w).val_inf, hx] at va
      have vb : tw ((fmt w).f + t + (fmt w).low - 1 + ((fmt w).f + t + (fmt w).low - 1)) * tw (2 * k) ≤ (fmt w).val m * tw (2 * k) := mul_le (Rat.le_trans v8 v9) (tw_pos _)
      rw [← tw_add] at vb
      have vc : tw (((fmt w).top : Int) - 1 + (fmt w).low + (fmt w).f) ≤ tw ((fmt w).f + t + (fmt w).low - 1 + ((fmt w).f + t + (fmt w).low - 1) + 2 * k) := tw_le (by omega)
      grind
  obtain ⟨R', hR', hP', hI'⟩ : ∃ R' : Nat, (R' : Int) = R + k * ((2 ^ (fmt w).f : Nat) : Int) ∧ 2 ^ (fmt w).f < R' ∧ R' < (fmt w).inf := by
    rcases Int.le_total 0 k with c | c
    · obtain ⟨j, hj⟩ := Int.eq_ofNat_of_zero_le c
      refine ⟨R + j * 2 ^ (fmt w).f, ?_, by omega, high j hj⟩
      rw [hj]; push_cast; rfl
    · obtain ⟨j, hj⟩ := Int.eq_ofNat_of_zero_le (show 0 ≤ -k by omega)
      have hk : k = -(j : Int) := by omega
      have := low j hk
      refine ⟨R - j * 2 ^ (fmt w).f, ?_, by omega, by omega⟩
      rw [hk, Int.neg_mul]
      have hc : ((j * 2 ^ (fmt w).f : Nat) : Int) = (j : Int) * ((2 ^ (fmt w).f : Nat) : Int) := by push_cast; rfl
      rw [← hc]; omega
  refine ⟨R, R', hR, ?_, hR', p1, hP', hR ▸ l1, hI'⟩
  rw [hx]
  refine (fmt w).rsq_of ⟨Nat.le_of_lt hI', ?_, ?_⟩
  · intro n hn
    refine Fmt.USq.down (fmt w) (show n ≤ R' - 1 by omega) ?_
    have e2 : ((R' - 1 : Nat) : Int) = ((R - 1 : Nat) : Int) + k * ((2 ^ (fmt w).f : Nat) : Int) := by omega
    exact (usqSh (fmt w) (m := R - 1) (m' := R' - 1) (k := k) (by omega) (by omega) e2 (ev e2)).2 ((iff1 _).2 (by omega))
  · intro _ u
    have := (usqSh (fmt w) (m := R) (m' := R') (k := k) (by omega) (by omega) hR' (ev hR')).1 u
    have := (iff1 _).1 this
    omega
theorem scaleX (w : Int) (hw : w = 32 ∨ w = 64) (a : Nat) (ha : a < 18446744073709551616) (n : Int) (hn : -5000 ≤ n ∧ n ≤ 5000) :
    Ev (fun k => product_Scale.f k w a n) ((narG w (opn w a).1 (opn w a).2.1 (if (opn w a).2.1 = 1 then (opn w a).2.2.1 + n else (opn w a).2.2.1) (opn w a).2.2.2.toNat : Nat) : Int) := by
  have hp := opn_ok w hw a
  have o1 := openS w hw a ha
  generalize opn w a = p at *
  obtain ⟨s, kd, e, g⟩ := p
  obtain ⟨h1, h2, h0, h3, h4, h5, h6⟩ := hp
  simp only at h1 h2 h0 h3 h4 h5 h6
  obtain ⟨g, rfl⟩ := Int.eq_ofNat_of_zero_le h3
  have hm : mn (mx n (-1048576)) 1048576 = n := by unfold mn mx; (repeat' split) <;> omega
  unfold product_Scale.f
  refine Ev.bs (show product_known.f w = some true by rcases hw with rfl | rfl <;> rfl) (Ev.pos rfl (Ev.bind o1 ?_))
  simp only
  rw [hm, w64_id (n := e + n) (by omega) (by omega), narrowG w hw s kd _ g (by omega)]
  exact Ev.out rfl
theorem expX (w : Int) (hw : w = 32 ∨ w = 64) (a : Nat) (ha : a < 18446744073709551616) : Ev (fun k => r2_Exp.f k w a) ((magN w a / 2 ^ (fmt w).f : Nat) : Int) := by
  rcases hw with rfl | rfl
  · have := r2Exp32 a ha
    rw [show magN 32 a / 2 ^ (fmt 32).f = a / 8388608 % 256 by rw [fmt32, show 2 ^ f32.f = 8388608 by decide]; unfold magN sb; rw [if_pos rfl]; omega]
    exact this
  · have := r2Exp64 a ha
    rw [show magN 64 a / 2 ^ (fmt 64).f = a / 4503599627370496 % 2048 by rw [fmt64, show 2 ^ f64.f = 4503599627370496 by decide]; unfold magN sb; rw [if_neg (by decide)]; omega]
    exact this
theorem opn_pl (w : Int) (hw : w = 32 ∨ w = 64) {m : Nat} (h0 : 0 < m) (h : m < (fmt w).inf) : opn w m = (false, 1, (fmt w).ex m, ((fmt w).sg m : Int)) ∧ m < 18446744073709551616 ∧ magN w m = m := by
  have hi := inf_sb w hw
  have hs2 : 2 * sb w ≤ 18446744073709551616 := by unfold sb; split <;> decide
  have := opn_mk w hw m false (by omega)
  rw [show mkN w m false = m by simp [mkN], if_neg (by omega), if_pos h] at this
  exact ⟨this, by omega, by unfold magN; exact Nat.mod_eq_of_lt (by omega)⟩
theorem scaleSh (w : Int) (hw : w = 32 ∨ w = 64) {m m' : Nat} {n : Int} (a : Nat) (ha : a < 18446744073709551616) (ho : opn w a = (false, 1, (fmt w).ex m, ((fmt w).sg m : Int))) (h : 2 ^ (fmt w).f ≤ m) (h' : 2 ^ (fmt w).f ≤ m') (hi' : m' < (fmt w).inf) (e : (m' : Int) = m + n * ((2 ^ (fmt w).f : Nat) : Int)) (hn : -5000 ≤ n ∧ n ≤ 5000) : Ev (fun k => product_Scale.f k w a n) (m' : Int) := by
  have := scaleX w hw a ha n hn
  rw [ho] at this
  simp only [Int.toNat_natCast] at this
  unfold narG at this
  rw [if_neg (by decide), if_pos rfl, if_pos trivial, ← (valSh (fmt w) h h' e).2, (fmt w).rnd_val (by omega)] at this
  rwa [show mkN w m' false = m' by simp [mkN]] at this
theorem r2TopX (w : Int) (hw : w = 32 ∨ w = 64) : Ev (fun k => r2_Top.f k w) (((fmt w).top : Nat) : Int) := by rcases hw with rfl | rfl; exact r2Top32; exact r2Top64
theorem RadixScaleP : L07_RadixScale.Pure := by
  intro w a n hw0 ha0 hn0
  obtain ⟨ha1, ha2⟩ := wf_u64 ha0
  obtain ⟨a, rfl⟩ := Int.eq_ofNat_of_zero_le ha1
  have ha : a < 18446744073709551616 := by omega
  refine Ev.rounds ?_
  unfold L07_RadixScale.f
  have out0 : Ev (fun k => L07_RadixScale.j0 k w a n true) true := Ev.step (fun _ => L07_RadixScale.j0.eq_2 ..) (Ev.pos rfl (Ev.out rfl))
  have out1 : Ev (fun k => L07_RadixScale.j1 k w a n true) true := Ev.step (fun _ => L07_RadixScale.j1.eq_2 ..) (Ev.pos rfl (Ev.out rfl))
  refine Ev.bind awake07 (Ev.pos rfl (Ev.bs (known_f w) ?_))
  by_cases hw : w = 32 ∨ w = 64
  · rw [decide_eq_true hw]
    refine Ev.pos rfl ?_
    by_cases c1 : n < -1000
    · exact Ev.pos c1 out0
    · refine Ev.neg c1 ?_
      by_cases c2 : n > 1000
      · rw [decide_eq_true c2]; exact out0
      · rw [decide_eq_false c2]
        have bd := fmt_bd w
        have hp := (fmt w).pow_pos
        have hib := inf_sb w hw
        obtain ⟨m, hm⟩ : ∃ m, magN w a = m := ⟨_, rfl⟩
        obtain ⟨E, hE⟩ : ∃ E, m / 2 ^ (fmt w).f = E := ⟨_, rfl⟩
        have he := expX w hw a ha
        rw [hm, hE] at he
        have hdm := Nat.div_add_mod m (2 ^ (fmt w).f)
        have hmod := Nat.mod_lt m hp
        rw [hE, Nat.mul_comm] at hdm
        have hEt : E ≤ (fmt w).top := by
          have h1 : m < sb w := by rw [← hm]; unfold magN; exact Nat.mod_lt _ (by unfold sb; split <;> decide)
          have h2 : sb w = ((fmt w).top + 1) * 2 ^ (fmt w).f := by
            rcases hw with rfl | rfl
            · rw [fmt32]; decide
            · rw [fmt64]; decide
          rw [h2] at h1
          have := Nat.div_lt_of_lt_mul (show m < 2 ^ (fmt w).f * ((fmt w).top + 1) by rw [Nat.mul_comm]; exact h1)
          omega
        refine Ev.step (fun _ => L07_RadixScale.j0.eq_2 ..) (Ev.neg (by decide) (Ev.bind he (Ev.bind (r2Neg w hw a ha) ?_)))
        rw [w64_id (n := 2 * n) (by omega) (by omega), w64_id (n := (E : Int) + 2 * n) (by omega) (by omega)]
        by_cases s1 : sgB w a = true
        · exact Ev.pos s1 out1
        · refine Ev.neg s1 ?_
          by_cases e1 : (E : Int) = 0
          · exact Ev.pos e1 out1
          · refine Ev.neg e1 (Ev.bind (r2TopX w hw) ?_)
            by_cases e2 : (E : Int) = (((fmt w).top : Nat) : Int)
            · exact Ev.pos e2 out1
            · refine Ev.neg e2 ?_
              by_cases e3 : (E : Int) + 2 * n < 1
              · exact Ev.pos e3 out1
              · refine Ev.neg e3 (Ev.bind (r2TopX w hw) ?_)
                by_cases e4 : (E : Int) + 2 * n ≥ (((fmt w).top : Nat) : Int)
                · rw [decide_eq_true e4]; exact out1
                · rw [decide_eq_false e4]
                  refine Ev.step (fun _ => L07_RadixScale.j1.eq_2 ..) (Ev.neg (by decide) ?_)
                  rw [w64_id (n := 2 * n) (by omega) (by omega)]
                  have hI : (fmt w).inf = (fmt w).top * 2 ^ (fmt w).f := rfl
                  obtain ⟨E', hE'⟩ := Int.eq_ofNat_of_zero_le (show 0 ≤ (E : Int) + 2 * n by omega)
                  have up : ∀ q : Nat, 1 ≤ q → q < (fmt w).top → 2 ^ (fmt w).f ≤ q * 2 ^ (fmt w).f + m % 2 ^ (fmt w).f ∧ q * 2 ^ (fmt w).f + m % 2 ^ (fmt w).f < (fmt w).inf := by
                    intro q q1 q2
                    have a1 := Nat.mul_le_mul_right (2 ^ (fmt w).f) q1
                    have a2 := Nat.mul_le_mul_right (2 ^ (fmt w).f) (show q + 1 ≤ (fmt w).top from q2)
                    rw [Nat.add_mul] at a2
                    omega
                  obtain ⟨m1, m2⟩ := up E (by omega) (by omega)
                  rw [hdm] at m1 m2
                  obtain ⟨n1, n2⟩ := up E' (by omega) (by omega)
                  obtain ⟨m', hm'⟩ : ∃ m', E' * 2 ^ (fmt w).f + m % 2 ^ (fmt w).f = m' := ⟨_, rfl⟩
                  rw [hm'] at n1 n2
                  have eq1 : (m' : Int) = m + 2 * n * ((2 ^ (fmt w).f : Nat) : Int) := by
                    have x1 : (m' : Int) = (E' : Int) * ((2 ^ (fmt w).f : Nat) : Int) + ((m % 2 ^ (fmt w).f : Nat) : Int) := by rw [← hm']; push_cast; rfl
                    have x2 : (m : Int) = (E : Int) * ((2 ^ (fmt w).f : Nat) : Int) + ((m % 2 ^ (fmt w).f : Nat) : Int) := by
                      have : ((E * 2 ^ (fmt w).f + m % 2 ^ (fmt w).f : Nat) : Int) = (m : Int) := by rw [hdm]
                      rw [← this]; push_cast; rfl
                    rw [x1, ← hE', x2]
                    generalize ((2 ^ (fmt w).f : Nat) : Int) = p
                    generalize ((m % 2 ^ (fmt w).f : Nat) : Int) = r
                    grind
                  have oa : opn w a = (false, 1, (fmt w).ex m, ((fmt w).sg m : Int)) := by
                    have sg : sgB w a = false := by cases h : sgB w a; rfl; exact absurd h s1
                    rcases kinds w hw a with ⟨h0, hk⟩ | ⟨k1, k2, hk⟩ | ⟨h0, hk⟩ | ⟨h0, hk⟩
                    · omega
                    · rw [hk, hm, sg]
                    · omega
                    · omega
                  obtain ⟨R, R', r1, r2, r3, r4, r5, r6, r7⟩ := rsq_shift w hw m1 m2 n1 n2 eq1
                  have sc1 := scaleSh w hw (n := 2 * n) a ha oa m1 n1 n2 eq1 (by omega)
                  obtain ⟨om, lm, gm⟩ := opn_pl w hw (show 0 < m' by omega) n2
                  obtain ⟨oR, lR, gR⟩ := opn_pl w hw (show 0 < R by omega) r6
                  have q1 := sqrtE w hw m' lm
                  have q2 := sqrtE w hw a ha
                  rw [(sqP_mag w hw m' (by rw [om]; simp) (by rw [om])).1, gm] at q1
                  rw [(sqP_mag w hw a (by rw [oa]; simp) (by rw [oa])).1, hm] at q2
                  unfold sqm at q1 q2
                  rw [if_pos n2, r2] at q1
                  rw [if_pos m2, r1] at q2
                  have sc2 := scaleSh w hw (m := R) (m' := R') (n := n) R lR oR (by omega) (by omega) r7 r3 (by omega)
                  exact Ev.bind sc1 (Ev.bind q1 (Ev.bind q2 (Ev.bind sc2 (Ev.out (by simp)))))
  · rw [decide_eq_false hw]
    exact Ev.neg (by decide) out0
end Go.Proofs.Ytjjehbedpgdhgaa.Th
end
namespace Go.Proofs.Ytjjehbedpgdhgaa.Pure
theorem RadixScale : Go.Proofs.Ytjjehbedpgdhgaa.PA.L07_RadixScale.Pure := Go.Proofs.Ytjjehbedpgdhgaa.Th.RadixScaleP
end Go.Proofs.Ytjjehbedpgdhgaa.Pure
namespace Go.Proofs.Ytjjehbedpgdhgaa.Facts
abbrev ch (n : Nat) : Char := Char.ofNat n
theorem words_word (w : List Char) (r : List Char) (h : w.all (fun c => c != ch 32) = true) : wordsSigns (w ++ ch 32 :: r) = w :: wordsSigns r := by
  induction w with
  | nil => rfl
  | cons c w ih =>
    rw [List.all_cons, Bool.and_eq_true] at h
    have hc : c ≠ ch 32 := bne_iff_ne.1 h.1
    rw [List.cons_append]
    rw [wordsSigns.eq_3 c _ (fun e => hc e), ih h.2]
def w1 : List Char := [ch 104, ch 97, ch 114, ch 110, ch 101, ch 115, ch 115]
def w2 : List Char := [ch 51, ch 52, ch 101, ch 53, ch 102, ch 48, ch 55, ch 101, ch 100, ch 56, ch 100, ch 53, ch 49, ch 98, ch 54, ch 101, ch 48, ch 51, ch 57, ch 99, ch 100, ch 54, ch 51, ch 49, ch 100, ch 101, ch 55, ch 50, ch 100, ch 101, ch 48, ch 52, ch 53, ch 100, ch 99, ch 49, ch 49, ch 53, ch 100, ch 98, ch 56, ch 51, ch 51, ch 55, ch 52, ch 57, ch 98, ch 51, ch 101, ch 57, ch 50, ch 51, ch 54, ch 99, ch 56, ch 51, ch 100, ch 101, ch 54, ch 53, ch 57, ch 52, ch 101, ch 97]
def w3 : List Char := [ch 99, ch 117, ch 116]
set_option maxRecDepth 100000 in
def tailSigns : List Char := [ch 97, ch 116, ch 32, ch 116, ch 114, ch 117, ch 110, ch 110, ch 105, ch 111, ch 110, ch 47, ch 116, ch 114, ch 117, ch 110, ch 110, ch 105, ch 111, ch 110, ch 108, ch 97, ch 119, ch 48, ch 55, ch 46, ch 82, ch 97, ch 100, ch 105, ch 120, ch 82, ch 111, ch 111, ch 116, ch 115, ch 32, ch 116, ch 114, ch 117, ch 110, ch 110, ch 105, ch 111, ch 110, ch 47, ch 116, ch 114, ch 117, ch 110, ch 110, ch 105, ch 111, ch 110, ch 108, ch 97, ch 119, ch 48, ch 55, ch 46, ch 82, ch 97, ch 100, ch 105, ch 120, ch 75, ch 101, ch 101, ch 112, ch 115, ch 32, ch 116, ch 114, ch 117, ch 110, ch 110, ch 105, ch 111, ch 110, ch 47, ch 116, ch 114, ch 117, ch 110, ch 110, ch 105, ch 111, ch 110, ch 108, ch 97, ch 119, ch 48, ch 55, ch 46, ch 82, ch 97, ch 100, ch 105, ch 120, ch 83, ch 99, ch 97, ch 108, ch 101, ch 32, ch 116, ch 114, ch 117, ch 110, ch 110, ch 105, ch 111, ch 110, ch 47, ch 116, ch 114, ch 117, ch 110, ch 110, ch 105, ch 111, ch 110, ch 108, ch 97, ch 119, ch 49, ch 50, ch 46, ch 67, ch 104, ch 111, ch 112, ch 84, ch 114, ch 97, ch 112, ch 115, ch 32, ch 116, ch 114, ch 117, ch 110, ch 110, ch 105, ch 111, ch 110, ch 47, ch 116, ch 114, ch 117, ch 110, ch 110, ch 105, ch 111, ch 110, ch 108, ch 97, ch 119, ch 48, ch 49, ch 46, ch 87, ch 105, ch 100, ch 101, ch 83, ch 117, ch 109, ch 115]
set_option maxRecDepth 100000 in
theorem head_list : Try.prog.initOrder.toList = w1 ++ ch 32 :: (w2 ++ ch 32 :: (w3 ++ ch 32 :: tailSigns)) :=
  (congrArg String.toList (show Try.prog.initOrder = String.ofList (w1 ++ ch 32 :: (w2 ++ ch 32 :: (w3 ++ ch 32 :: tailSigns))) from rfl)).trans String.toList_ofList
theorem words : ∃ rest, behindMainWord (wordsSigns Try.prog.initOrder.toList) = w3 :: rest := by
  refine ⟨wordsSigns tailSigns, ?_⟩
  rw [head_list, words_word w1 _ (by kernel_rfl), words_word w2 _ (by kernel_rfl), words_word w3 _ (by kernel_rfl)]
  generalize wordsSigns tailSigns = rest
  have e : ((w1 == "harness".toList || w1 == "ownmain".toList) && isSumSigns w2) = true := by kernel_rfl
  show (if ((w1 == "harness".toList || w1 == "ownmain".toList) && isSumSigns w2) = true then w3 :: rest else w1 :: w2 :: w3 :: rest) = w3 :: rest
  rw [if_pos e]
theorem c3 : (w3 == "gc".toList) = false ∧ (w3 == "spec".toList) = false ∧ (w3 == "cut".toList) = true ∧ (w3 == "carried".toList) = false ∧ (w3 == "finals".toList) = false := ⟨by kernel_rfl, by kernel_rfl, by kernel_rfl, by kernel_rfl, by kernel_rfl⟩
theorem strip (rest : List (List Char)) : stripLifts liftWords (w3 :: rest) = ([], w3 :: rest) := by
  have key : ∀ l : List String, l.all (fun o => !(w3 == o.toList)) = true → stripLifts l (w3 :: rest) = ([], w3 :: rest) := by
    intro l
    induction l with
    | nil => intro _; rfl
    | cons o l ih =>
      intro h
      rw [List.all_cons, Bool.and_eq_true] at h
      unfold stripLifts
      rw [if_neg (fun e => by have h1 := h.1; rw [e] at h1; cases h1)]
      exact ih h.2
  exact key liftWords (by kernel_rfl)
theorem make_of (P : Program) (h : ∃ rest, behindMainWord (wordsSigns P.initOrder.toList) = w3 :: rest) : P.make = some .cut := by
  obtain ⟨rest, h⟩ := h
  unfold Program.make
  rw [h]
  show (if (w3 == "gc".toList || w3 == "spec".toList) = true then some Make.whole else if (w3 == "cut".toList || (w3 == "finals".toList && rest.head? == some "cut".toList)) = true then some Make.cut else _) = some Make.cut
  rw [if_neg (by rw [c3.1, c3.2.1]; decide), if_pos (by rw [c3.2.2.1, Bool.true_or])]
set_option maxRecDepth 100000 in
theorem liftsFact : Try.prog.liftsFinal = false := by
  unfold Program.liftsFinal Program.headLifts
  rw [head_list]
  kernel_rfl
theorem doorFact : (!Try.prog.laysLater && !Try.prog.bearsReflect && Try.prog.doorFits []) = true := by kernel_rfl
theorem makeFact : Try.prog.make = some .cut := make_of _ words
theorem enter_of (P : Program) (h : ∃ rest, behindMainWord (wordsSigns P.initOrder.toList) = w3 :: rest) (d : (!P.laysLater && !P.bearsReflect && P.doorFits []) = true) : P.mayEnter = true := by
  obtain ⟨rest, h⟩ := h
  rw [Bool.and_eq_true, Bool.and_eq_true] at d
  have e : ((some w3 == some "cut".toList) : Bool) = true := by kernel_rfl
  unfold Program.mayEnter
  rw [h]
  show ((_ || _) || ((stripLifts liftWords (w3 :: rest)).2.head? == some "cut".toList && ((stripLifts liftWords (w3 :: rest)).1.contains "finals" || !P.laysLater) && ((stripLifts liftWords (w3 :: rest)).1.contains "reflectrows" || !P.bearsReflect) &&
      ((stripLifts liftWords (w3 :: rest)).1.contains "reflectrows" || !(stripLifts liftWords (w3 :: rest)).1.contains "leanrows") && P.doorFits (stripLifts liftWords (w3 :: rest)).1)) = true
  rw [strip, Bool.or_eq_true]
  refine .inr ?_
  rw [Bool.and_eq_true, Bool.and_eq_true, Bool.and_eq_true, Bool.and_eq_true, Bool.or_eq_true, Bool.or_eq_true]
  exact ⟨⟨⟨⟨e, .inr d.1.1⟩, .inr d.1.2⟩, rfl⟩, d.2⟩
theorem enterFact : Try.prog.mayEnter = true := enter_of _ words doorFact
end Go.Proofs.Ytjjehbedpgdhgaa.Facts
