/- What the Go functions that the statement WholeKeeps reaches compute, and the mathematics on it, in the order in which one leans on the other; for every input. -/
import Derived.Test.YthdeeoallfbjmaaVWholeKeeps1
import Derived.Test.YthdeeoallfbjmaaMWholeKeeps7
import Derived.Test.YthdeeoallfbjmaaMWholeKeeps0
import Derived.Test.YthdeeoallfbjmaaRows
import Derived.ProofKit
import Derived.JoinedOf
import Derived.KernelRfl
section
set_option linter.unusedVariables false
set_option linter.unusedSimpArgs false
namespace Go.Proofs.Ythdeeoallfbjmaa.Th
open Go.RowKit Go.Proofs.YthdeeoallfbjmaaW.PrintWords Go.Proofs.YthdeeoallfbjmaaW.PrintLast Go.Proofs.YthdeeoallfbjmaaW.PrintMore Go.Proofs.Ythdeeoallfbjmaa.PA Bit Dig Flo
theorem whInt (w : Int) (hw : w = 32 ∨ w = 64) (q : Nat) (h : q ≤ 2 ^ ((fmt w).f + 1)) : (fmt w).val ((fmt w).rnd (q : Rat)) = (q : Rat) ∧ (fmt w).rnd (q : Rat) < (fmt w).inf := by
  obtain ⟨m, hm⟩ := (fmt w).val_repr (n := q) (e := 0) h (by have := fmt_bd w; omega)
  rw [tw_zero, Rat.mul_one] at hm
  have lt : m < (fmt w).inf := by
    refine (fmt w).val_lt_iff.1 ?_
    rw [hm, (fmt w).val_inf]
    have h2 : ((2 ^ ((fmt w).f + 1) : Nat) : Rat) < tw ((fmt w).top - 1 + (fmt w).low + (fmt w).f) := by
      rw [← tw_nat]
      refine tw_lt ?_
      rcases hw with rfl | rfl <;> decide
    have h3 : (q : Rat) ≤ ((2 ^ ((fmt w).f + 1) : Nat) : Rat) := nat_le.2 h
    grind
  rw [← hm, (fmt w).rnd_val (by omega)]
  exact ⟨rfl, lt⟩
theorem whVal (w : Int) (hw : w = 32 ∨ w = 64) (m q : Nat) (s : Bool) (hm : m < (fmt w).inf) (h : (fmt w).val m = (q : Rat)) : isWh w (mkN w m s) = true := by
  have hb := sb_inf w hw
  have o := opn_mk w hw m s (by omega)
  have g := mag_mk w hw m s (by omega)
  unfold isWh
  rw [o, g]
  by_cases h0 : m = 0
  · rw [if_pos h0]; simp
  · rw [if_neg h0, if_pos hm]
    dsimp only
    by_cases c : 0 ≤ (fmt w).ex m
    · simp [c]
    · obtain ⟨n, hn⟩ := Int.eq_ofNat_of_zero_le (show 0 ≤ -(fmt w).ex m by omega)
      rw [hn, Int.toNat_natCast]
      have e : (fmt w).sg m = q * 2 ^ n := by
        have h1 : ((fmt w).sg m : Rat) * tw ((fmt w).ex m) = (q : Rat) := h
        have h2 : tw ((fmt w).ex m) * tw n = 1 := by rw [← tw_add, show (fmt w).ex m + (n : Int) = 0 by omega, tw_zero]
        have h3 : ((fmt w).sg m : Rat) = (q : Rat) * tw n := by
          rw [← h1, Rat.mul_assoc, h2, Rat.mul_one]
        rw [tw_nat] at h3
        have h4 : (((fmt w).sg m : Nat) : Rat) = ((q * 2 ^ n : Nat) : Rat) := by rw [h3]; push_cast; rfl
        exact_mod_cast h4
      rw [e, Nat.mul_mod_left]
      simp
theorem WholeKeepsP : L09_WholeKeeps.Pure := by
  intro w a hw0 ha0
  obtain ⟨ha1, ha2⟩ := wf_u64 ha0
  obtain ⟨a, rfl⟩ := Int.eq_ofNat_of_zero_le ha1
  have ha : a < 18446744073709551616 := by omega
  refine Ev.rounds ?_
  unfold L09_WholeKeeps.f
  refine Ev.bind awake09 (Ev.pos rfl ?_)
  by_cases hw : w = 32 ∨ w = 64
  · have main : Ev (fun k => L09_WholeKeeps.j0 k w a false) true := by
      refine Ev.step (fun _ => L09_WholeKeeps.j0.eq_2 ..) (Ev.neg (by decide) (Ev.bind (ceilE w hw a ha) (Ev.bind (floorE w hw a ha) (Ev.bind (truncE w hw a ha) (Ev.bind (nearE w hw a ha) (Ev.bind (openS w hw a ha) ?_))))))
      have j1t : ∀ (b : Nat) (x : Bool) (p : Int × Int × Int), cutN w a = b → Ev (fun k => L09_WholeKeeps.j1 k w a (b : Int) (b : Int) (b : Int) (b : Int) true x p.1 p.2.1 p.2.2) true := by
        intro b x p hb
        refine Ev.step (fun _ => L09_WholeKeeps.j1.eq_2 ..) (Ev.pos rfl (Ev.bs (shCut w a ha) ?_))
        rw [hb]
        exact Ev.pos rfl (Ev.pos rfl (Ev.pos rfl (Ev.out (by simp))))
      by_cases k3 : (opn w a).2.1 = 3
      · have m : ∀ way, mkW way w a = nanN w := fun way => by unfold mkW; rw [if_pos k3]
        rw [m, m, m, m]
        refine Ev.pos k3 ?_
        rw [shN w hw]
        exact Ev.bs rfl (Ev.pos rfl (Ev.pos rfl (Ev.pos rfl (Ev.out (by simp)))))
      · refine Ev.neg k3 (Ev.bind (isEh w hw a ha) ?_)
        have plain : (¬ ((opn w a).2.1 = 1 ∧ (opn w a).2.2.1 < 0)) → ∀ way, mkW way w a = cutN w a := fun h way => by unfold mkW; rw [if_neg k3, if_neg h]
        by_cases c : (opn w a).2.1 = 1 ∧ (opn w a).2.2.1 < 0
        · rcases kinds w hw a with ⟨k1, k2⟩ | ⟨k0, k1, k2⟩ | ⟨k1, k2⟩ | ⟨k1, k2⟩
          · rw [k2] at c; exact absurd c.1 (by simp)
          · have he := ex_bd w hw _ k1
            have hg := (fmt w).sg_lt (magN w a)
            have hv : (fmt w).val (magN w a) = ((fmt w).sg (magN w a) : Rat) * tw ((fmt w).ex (magN w a)) := rfl
            have hgf := fmt_f w
            rw [k2] at c
            have c2 : (fmt w).ex (magN w a) < 0 := c.2
            obtain ⟨n, hn⟩ := Int.eq_ofNat_of_zero_le (show 0 ≤ -(fmt w).ex (magN w a) by omega)
            have h0 : 0 < n := by omega
            have mW : ∀ way, mkW way w a = mkN w ((fmt w).rnd (((fmt w).sg (magN w a) / 2 ^ n + (if upB way (sgB w a) ((fmt w).sg (magN w a)) n then 1 else 0) : Nat) : Rat)) (sgB w a) := by
              intro way
              unfold mkW
              rw [if_neg k3, k2, if_pos c]
              dsimp only
              rw [hn, Int.toNat_natCast]
            have iW : isWh w a = decide ((fmt w).sg (magN w a) % 2 ^ n = 0) := by
              unfold isWh
              rw [k2]
              dsimp only
              rw [hn, Int.toNat_natCast, decide_eq_false (show ¬ 0 ≤ (fmt w).ex (magN w a) by omega)]
              simp
            rw [k2]
            dsimp only
            have hp : 0 < 2 ^ n := Nat.pow_pos (by decide)
            have hdm := Nat.div_add_mod ((fmt w).sg (magN w a)) (2 ^ n)
            have hml := Nat.mod_lt ((fmt w).sg (magN w a)) hp
            have hq1 : (fmt w).sg (magN w a) / 2 ^ n ≤ (fmt w).sg (magN w a) / 2 := Nat.div_le_div_left (by have : 2 ^ 1 ≤ 2 ^ n := Nat.pow_le_pow_right (by decide) h0; omega) (by decide)
            have t2 : tw ((fmt w).ex (magN w a)) * tw n = 1 := by rw [← tw_add, show (fmt w).ex (magN w a) + (n : Int) = 0 by omega, tw_zero]
            have tp := tw_pos ((fmt w).ex (magN w a))
            have val_q : ∀ x : Nat, ((x * 2 ^ n : Nat) : Rat) * tw ((fmt w).ex (magN w a)) = (x : Rat) := by
              intro x
              have : ((x * 2 ^ n : Nat) : Rat) = (x : Rat) * tw n := by rw [tw_nat]; push_cast; rfl
              rw [this, Rat.mul_assoc, Rat.mul_comm (tw n), t2, Rat.mul_one]
            have pf : 2 ^ ((fmt w).f + 1) = 2 * 2 ^ (fmt w).f := by rw [Nat.pow_succ]; omega
            have I0 := whInt w hw ((fmt w).sg (magN w a) / 2 ^ n) (by omega)
            have I1 := whInt w hw ((fmt w).sg (magN w a) / 2 ^ n + 1) (by have := Nat.pow_pos (n := (fmt w).f) (show 0 < 2 by decide); omega)
            by_cases z : (fmt w).sg (magN w a) % 2 ^ n = 0
            · -- it is whole
              have u : ∀ way, upB way (sgB w a) ((fmt w).sg (magN w a)) n = false := by
                intro way; unfold upB; rw [z]
                have : ¬ (2 * 0 = 2 ^ n) := by omega
                split
                · simp
                · split
                  · simp
                  · split
                    · simp; omega
                    · rfl
              have r0 : (fmt w).rnd (((fmt w).sg (magN w a) / 2 ^ n + (if false = true then 1 else 0) : Nat) : Rat) = magN w a := by
                have e : (((fmt w).sg (magN w a) / 2 ^ n : Nat) : Rat) = (fmt w).val (magN w a) := by
                  rw [hv, ← val_q, Nat.div_mul_cancel (Nat.dvd_of_mod_eq_zero z)]
                simp only [Bool.false_eq_true, if_false, Nat.add_zero]
                rw [e, (fmt w).rnd_val (by omega)]
              have m : ∀ way, mkW way w a = cutN w a := by
                intro way; rw [mW, u, r0, cut_as_mk w hw a ha]
              rw [m, m, m, m, iW, decide_eq_true z]
              exact Ev.pos rfl (j1t _ _ (_, _, _) rfl)
            · -- it is not
              rw [iW, decide_eq_false z]
              refine Ev.neg (by decide) ?_
              have m1 := mW 1
              have m2 := mW 2
              have m3 := mW 3
              have m4 := mW 4
              generalize hB : (fmt w).sg (magN w a) / 2 ^ n = q at *
              have lo : (fmt w).val ((fmt w).rnd (q : Rat)) < (fmt w).val (magN w a) := by
                rw [I0.1, hv, ← val_q q]
                exact mul_lt (nat_lt.2 (show q * 2 ^ n < (fmt w).sg (magN w a) by rw [Nat.mul_comm q]; omega)) tp
              have hi : (fmt w).val (magN w a) < (fmt w).val ((fmt w).rnd ((q + 1 : Nat) : Rat)) := by
                rw [I1.1, hv, ← val_q (q + 1)]
                exact mul_lt (nat_lt.2 (show (fmt w).sg (magN w a) < (q + 1) * 2 ^ n by rw [Nat.add_mul, Nat.one_mul, Nat.mul_comm q]; omega)) tp
              replace lo := (fmt w).val_lt_iff.1 lo
              replace hi := (fmt w).val_lt_iff.1 hi
              have w0 : ∀ s, isWh w (mkN w ((fmt w).rnd (q : Rat)) s) = true := fun s => whVal w hw _ q s I0.2 I0.1
              have w1 : ∀ s, isWh w (mkN w ((fmt w).rnd ((q + 1 : Nat) : Rat)) s) = true := fun s => whVal w hw _ (q + 1) s I1.2 I1.1
              have e1 : upB 1 (sgB w a) ((fmt w).sg (magN w a)) n = !sgB w a := by unfold upB; simp [z]
              have e2 : upB 2 (sgB w a) ((fmt w).sg (magN w a)) n = sgB w a := by unfold upB; simp [z]
              have e3 : upB 3 (sgB w a) ((fmt w).sg (magN w a)) n = false := rfl
              rw [e1] at m1
              rw [e2] at m2
              rw [e3] at m3
              obtain ⟨u4, h4⟩ : ∃ u, upB 4 (sgB w a) ((fmt w).sg (magN w a)) n = u := ⟨_, rfl⟩
              rw [h4] at m4
              generalize hm0 : (fmt w).rnd (q : Rat) = M0 at *
              generalize hm1 : (fmt w).rnd ((q + 1 : Nat) : Rat) = M1 at *
              have hb := sb_inf w hw
              have g0 : M0 < sb w := by have := I0.2; omega
              have g1 : M1 < sb w := by have := I1.2; omega
              have l0 : ∀ s, mkN w M0 s < 18446744073709551616 := fun s => mkN_lt w hw _ _ g0
              have l1 : ∀ s, mkN w M1 s < 18446744073709551616 := fun s => mkN_lt w hw _ _ g1
              have na : nn w a = false := by rw [nn_eq w hw]; exact decide_eq_false (by omega)
              have n0 : ∀ s, nn w (mkN w M0 s) = false := fun s => by rw [nn_eq w hw, mag_mk w hw _ _ g0]; exact decide_eq_false (by have := I0.2; omega)
              have n1 : ∀ s, nn w (mkN w M1 s) = false := fun s => by rw [nn_eq w hw, mag_mk w hw _ _ g1]; exact decide_eq_false (by have := I1.2; omega)
              have j2 : ∀ (x5 x6 x7 : Int) (s : Bool) (p1 p2 p3 : Int), x7 = (if s then x5 else x6) → Ev (fun k => L09_WholeKeeps.j2 k x5 x6 x7 false s p1 p2 p3) true := by
                intro x5 x6 x7 s p1 p2 p3 h
                refine Ev.step (fun _ => L09_WholeKeeps.j2.eq_2 ..) (Ev.neg (by decide) ?_)
                cases s
                · exact Ev.neg (by decide) (Ev.out (by simp [h]))
                · exact Ev.pos rfl (Ev.out (by simp [h]))
              have fin : ∀ (U D T Nn : Nat) (p1 p2 p3 : Int), U < 18446744073709551616 → D < 18446744073709551616 → nn w U = false → nn w D = false → rk w D < rk w a → rk w a < rk w U → isWh w U = true → isWh w D = true → (Nn = U ∨ Nn = D) → T = (if sgB w a then U else D) →
                  Ev (fun k => L09_WholeKeeps.j1 k w a U D T Nn false (sgB w a) p1 p2 p3) true := by
                intro U D T Nn p1 p2 p3 hU hD nU nD r1 r2 i1 i2 hN hT
                have L1 := ltS w hw D a hD ha
                have L2 := ltS w hw a U ha hU
                rw [nD, na, decide_eq_true r1] at L1
                rw [nU, na, decide_eq_true r2] at L2
                have I1 := isEh w hw U hU
                have I2 := isEh w hw D hD
                rw [i1] at I1
                rw [i2] at I2
                refine Ev.step (fun _ => L09_WholeKeeps.j1.eq_2 ..) (Ev.neg (by decide) (Ev.bind L1 (Ev.pos rfl (Ev.bind L2 (Ev.pos rfl (Ev.bind I1 (Ev.pos rfl (Ev.bind I2 (Ev.pos rfl ?_)))))))))
                have jj := fun p1 p2 p3 => j2 (U : Int) (D : Int) (T : Int) (sgB w a) p1 p2 p3 (by rw [hT]; cases sgB w a <;> rfl)
                by_cases c1 : Nn = U
                · exact Ev.pos (by rw [c1]) (jj _ _ _)
                · refine Ev.neg (by omega) ?_
                  have : (((Nn : Nat) : Int) != (D : Int)) = false := by
                    rcases hN with h | h
                    · exact absurd h c1
                    · rw [h]; simp
                  rw [this]
                  exact jj _ _ _
              rw [m1, m2, m3, m4]
              cases hs : sgB w a
              · rw [hs] at fin
                simp only [Bool.not_false, Bool.false_eq_true, if_true, if_false, Nat.add_zero]
                rw [hm0, hm1]
                have f := fin (mkN w M1 false) (mkN w M0 false) (mkN w M0 false) (mkN w (if u4 = true then M1 else M0) false) 1 ((fmt w).ex (magN w a)) ((fmt w).sg (magN w a) : Int) (l1 _) (l0 _) (n1 _) (n0 _)
                  (by unfold rk; rw [sg_mk w hw _ _ g0, mag_mk w hw _ _ g0, hs]; simp; omega) (by unfold rk; rw [sg_mk w hw _ _ g1, mag_mk w hw _ _ g1, hs]; simp; omega) (w1 _) (w0 _) (by cases u4; exact .inr rfl; exact .inl rfl) (by simp)
                cases u4
                · simp only [Bool.false_eq_true, if_false, Nat.add_zero] at f ⊢
                  rw [hm0]; exact f
                · simp only [if_true] at f ⊢
                  rw [hm1]; exact f
              · rw [hs] at fin
                simp only [Bool.not_true, Bool.false_eq_true, if_true, if_false, Nat.add_zero]
                rw [hm0, hm1]
                have f := fin (mkN w M0 true) (mkN w M1 true) (mkN w M0 true) (mkN w (if u4 = true then M1 else M0) true) 1 ((fmt w).ex (magN w a)) ((fmt w).sg (magN w a) : Int) (l0 _) (l1 _) (n0 _) (n1 _)
                  (by unfold rk; rw [sg_mk w hw _ _ g1, mag_mk w hw _ _ g1, hs]; simp; omega) (by unfold rk; rw [sg_mk w hw _ _ g0, mag_mk w hw _ _ g0, hs]; simp; omega) (w0 _) (w1 _) (by cases u4; exact .inl rfl; exact .inr rfl) (by simp)
                cases u4
                · simp only [Bool.false_eq_true, if_false, Nat.add_zero] at f ⊢
                  rw [hm0]; exact f
                · simp only [if_true] at f ⊢
                  rw [hm1]; exact f
          · rw [k2] at c; exact absurd c.1 (by simp)
          · rw [k2] at c; exact absurd c.1 (by simp)
        · have m := plain c
          rw [m, m, m, m]
          have jt := fun x => j1t (cutN w a) x ((opn w a).2.1, (opn w a).2.2.1, (opn w a).2.2.2) rfl
          rcases kinds w hw a with ⟨k1, k2⟩ | ⟨k0, k1, k2⟩ | ⟨k1, k2⟩ | ⟨k1, k2⟩
          · have : isWh w a = true := by unfold isWh; rw [k2]; simp
            rw [this]; exact Ev.pos rfl (jt _)
          · have : isWh w a = true := by
              rw [k2] at c
              unfold isWh; rw [k2]; simp at c ⊢; simp [c]
            rw [this]; exact Ev.pos rfl (jt _)
          · have : isWh w a = false := by unfold isWh; rw [k2]; simp
            rw [this]
            refine Ev.neg (by decide) ?_
            have e : ((opn w a).2.1 == 2) = true := by rw [k2]; rfl
            rw [e]
            exact jt _
          · rw [k2] at k3; exact absurd rfl k3
    rcases hw with rfl | rfl
    · exact Ev.pos rfl main
    · exact Ev.neg (by decide) main
  · refine Ev.neg (by omega) (Ev.step (fun _ => L09_WholeKeeps.j0.eq_2 ..) (Ev.pos ?_ (Ev.out rfl)))
    rw [bne_iff_ne]; omega
end Go.Proofs.Ythdeeoallfbjmaa.Th
end
namespace Go.Proofs.Ythdeeoallfbjmaa.Pure
theorem WholeKeeps : Go.Proofs.Ythdeeoallfbjmaa.PA.L09_WholeKeeps.Pure := Go.Proofs.Ythdeeoallfbjmaa.Th.WholeKeepsP
end Go.Proofs.Ythdeeoallfbjmaa.Pure
namespace Go.Proofs.Ythdeeoallfbjmaa.Facts
abbrev ch (n : Nat) : Char := Char.ofNat n
theorem words_word (w : List Char) (r : List Char) (h : w.all (fun c => c != ch 32) = true) : wordsSigns (w ++ ch 32 :: r) = w :: wordsSigns r := by
  induction w with
  | nil => rfl
  | cons c w ih =>
    rw [List.all_cons, Bool.and_eq_true] at h
    have hc : c ≠ ch 32 := bne_iff_ne.1 h.1
    rw [List.cons_append]
    rw [wordsSigns.eq_3 c _ (fun e => hc e), ih h.2]
def w1 : List Char := [ch 104, ch 97, ch 114, ch 110, ch 101, ch 115, ch 115]
def w2 : List Char := [ch 51, ch 57, ch 100, ch 53, ch 55, ch 99, ch 97, ch 57, ch 56, ch 97, ch 51, ch 53, ch 50, ch 57, ch 55, ch 99, ch 50, ch 97, ch 99, ch 101, ch 55, ch 101, ch 97, ch 48, ch 53, ch 101, ch 99, ch 102, ch 97, ch 51, ch 53, ch 50, ch 97, ch 54, ch 54, ch 98, ch 102, ch 53, ch 56, ch 48, ch 54, ch 99, ch 98, ch 55, ch 49, ch 48, ch 100, ch 57, ch 49, ch 49, ch 99, ch 48, ch 50, ch 53, ch 57, ch 97, ch 49, ch 55, ch 55, ch 55, ch 97, ch 48, ch 101, ch 50]
def w3 : List Char := [ch 99, ch 117, ch 116]
set_option maxRecDepth 100000 in
def tailSigns : List Char := [ch 97, ch 116, ch 32, ch 116, ch 114, ch 117, ch 110, ch 110, ch 105, ch 111, ch 110, ch 47, ch 116, ch 114, ch 117, ch 110, ch 110, ch 105, ch 111, ch 110, ch 108, ch 97, ch 119, ch 48, ch 57, ch 46, ch 87, ch 104, ch 111, ch 108, ch 101, ch 77, ch 97, ch 107, ch 101, ch 115, ch 32, ch 116, ch 114, ch 117, ch 110, ch 110, ch 105, ch 111, ch 110, ch 47, ch 116, ch 114, ch 117, ch 110, ch 110, ch 105, ch 111, ch 110, ch 108, ch 97, ch 119, ch 48, ch 57, ch 46, ch 87, ch 104, ch 111, ch 108, ch 101, ch 75, ch 101, ch 101, ch 112, ch 115, ch 32, ch 116, ch 114, ch 117, ch 110, ch 110, ch 105, ch 111, ch 110, ch 47, ch 116, ch 114, ch 117, ch 110, ch 110, ch 105, ch 111, ch 110, ch 108, ch 97, ch 119, ch 48, ch 57, ch 46, ch 87, ch 104, ch 111, ch 108, ch 101, ch 72, ch 97, ch 108, ch 102]
set_option maxRecDepth 100000 in
theorem head_list : Try.prog.initOrder.toList = w1 ++ ch 32 :: (w2 ++ ch 32 :: (w3 ++ ch 32 :: tailSigns)) :=
  (congrArg String.toList (show Try.prog.initOrder = String.ofList (w1 ++ ch 32 :: (w2 ++ ch 32 :: (w3 ++ ch 32 :: tailSigns))) from rfl)).trans String.toList_ofList
theorem words : ∃ rest, behindMainWord (wordsSigns Try.prog.initOrder.toList) = w3 :: rest := by
  refine ⟨wordsSigns tailSigns, ?_⟩
  rw [head_list, words_word w1 _ (by kernel_rfl), words_word w2 _ (by kernel_rfl), words_word w3 _ (by kernel_rfl)]
  generalize wordsSigns tailSigns = rest
  have e : ((w1 == "harness".toList || w1 == "ownmain".toList) && isSumSigns w2) = true := by kernel_rfl
  show (if ((w1 == "harness".toList || w1 == "ownmain".toList) && isSumSigns w2) = true then w3 :: rest else w1 :: w2 :: w3 :: rest) = w3 :: rest
  rw [if_pos e]
theorem c3 : (w3 == "gc".toList) = false ∧ (w3 == "spec".toList) = false ∧ (w3 == "cut".toList) = true ∧ (w3 == "carried".toList) = false ∧ (w3 == "finals".toList) = false := ⟨by kernel_rfl, by kernel_rfl, by kernel_rfl, by kernel_rfl, by kernel_rfl⟩
theorem strip (rest : List (List Char)) : stripLifts liftWords (w3 :: rest) = ([], w3 :: rest) := by
  have key : ∀ l : List String, l.all (fun o => !(w3 == o.toList)) = true → stripLifts l (w3 :: rest) = ([], w3 :: rest) := by
    intro l
    induction l with
    | nil => intro _; rfl
    | cons o l ih =>
      intro h
      rw [List.all_cons, Bool.and_eq_true] at h
      unfold stripLifts
      rw [if_neg (fun e => by have h1 := h.1; rw [e] at h1; cases h1)]
      exact ih h.2
  exact key liftWords (by kernel_rfl)
theorem make_of (P : Program) (h : ∃ rest, behindMainWord (wordsSigns P.initOrder.toList) = w3 :: rest) : P.make = some .cut := by
  obtain ⟨rest, h⟩ := h
  unfold Program.make
  rw [h]
  show (if (w3 == "gc".toList || w3 == "spec".toList) = true then some Make.whole else if (w3 == "cut".toList || (w3 == "finals".toList && rest.head? == some "cut".toList)) = true then some Make.cut else _) = some Make.cut
  rw [if_neg (by rw [c3.1, c3.2.1]; decide), if_pos (by rw [c3.2.2.1, Bool.true_or])]
set_option maxRecDepth 100000 in
theorem liftsFact : Try.prog.liftsFinal = false := by
  unfold Program.liftsFinal Program.headLifts
  rw [head_list]
  kernel_rfl
theorem doorFact : (!Try.prog.laysLater && !Try.prog.bearsReflect && Try.prog.doorFits []) = true := by kernel_rfl
theorem makeFact : Try.prog.make = some .cut := make_of _ words
theorem enter_of (P : Program) (h : ∃ rest, behindMainWord (wordsSigns P.initOrder.toList) = w3 :: rest) (d : (!P.laysLater && !P.bearsReflect && P.doorFits []) = true) : P.mayEnter = true := by
  obtain ⟨rest, h⟩ := h
  rw [Bool.and_eq_true, Bool.and_eq_true] at d
  have e : ((some w3 == some "cut".toList) : Bool) = true := by kernel_rfl
  unfold Program.mayEnter
  rw [h]
  show ((_ || _) || ((stripLifts liftWords (w3 :: rest)).2.head? == some "cut".toList && ((stripLifts liftWords (w3 :: rest)).1.contains "finals" || !P.laysLater) && ((stripLifts liftWords (w3 :: rest)).1.contains "reflectrows" || !P.bearsReflect) &&
      ((stripLifts liftWords (w3 :: rest)).1.contains "reflectrows" || !(stripLifts liftWords (w3 :: rest)).1.contains "leanrows") && P.doorFits (stripLifts liftWords (w3 :: rest)).1)) = true
  rw [strip, Bool.or_eq_true]
  refine .inr ?_
  rw [Bool.and_eq_true, Bool.and_eq_true, Bool.and_eq_true, Bool.and_eq_true, Bool.or_eq_true, Bool.or_eq_true]
  exact ⟨⟨⟨⟨e, .inr d.1.1⟩, .inr d.1.2⟩, rfl⟩, d.2⟩
theorem enterFact : Try.prog.mayEnter = true := enter_of _ words doorFact
end Go.Proofs.Ythdeeoallfbjmaa.Facts
