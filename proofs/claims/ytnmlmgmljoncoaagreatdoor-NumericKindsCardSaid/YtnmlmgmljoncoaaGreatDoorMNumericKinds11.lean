/- What the Go functions that the statement NumericKinds reaches compute, and the mathematics on it, in the order in which one leans on the other; for every input. -/
import Derived.Test.YtnmlmgmljoncoaaGreatDoorVNumericKinds0
import Derived.Test.YtnmlmgmljoncoaaGreatDoorMNumericKinds0
import Derived.Test.YtnmlmgmljoncoaaGreatDoorMNumericKinds10
namespace Go.Proofs.YtnmlmgmljoncoaaGreatDoor.PA
open Go.RowKit Go.Proofs.YtnmlmgmljoncoaaGreatDoorW.PrintWords Go.Proofs.YtnmlmgmljoncoaaGreatDoorW.PrintLast Go.Proofs.YtnmlmgmljoncoaaGreatDoorW.PrintMore
attribute [local go_sem] max2_int min2_int max_two min_two max_three min_three max_four min_four   -- for this text's walks alone
set_option linter.unusedVariables false
set_option linter.unusedSimpArgs false
set_option maxHeartbeats 8000000
set_option maxRecDepth 100000
mutual
def trunnionref14_Name.j0 : Nat → Int → Bool → Option (ByteArray)
 | 0, _, _ => none
 | k + 1, x0, x12 => if x12 = true then ((trunnionref14_sats.f).bind fun t634 => (if 0 ≤ (wrap64 (x0 - 64512)) then (if (wrap64 (x0 - 64512)) < (t634.length : Int) then (some (rdOf ByteArray.empty t634 (wrap64 (x0 - 64512)))) else (none)) else (none))) else (if x0 < 69 then (trunnionref14_Name.j1 k x0 true) else (trunnionref14_Name.j1 k x0 (decide (x0 > 191))))
def trunnionref14_Name.j1 : Nat → Int → Bool → Option (ByteArray)
 | 0, _, _ => none
 | k + 1, x0, x23 => if x23 = true then (some (⟨#[]⟩ : ByteArray)) else (trunnionref14_Name.l0 k (wrap64 (x0 - 69)) 0)
def trunnionref14_Name.l0 : Nat → Int → Int → Option (ByteArray)
 | 0, _, _ => none
 | k + 1, x3, x4 => if x4 < 9 then ((trunnionref14_group.f k x4).bind fun bt638 => (if x3 < (bt638.2.length : Int) then (if 0 ≤ x3 then (if bt638.1.size + (rdOf ByteArray.empty bt638.2 x3).size ≤ 9223372036854775807 then (some (bt638.1 ++ (rdOf ByteArray.empty bt638.2 x3))) else (none)) else (none)) else (trunnionref14_Name.l0 k (wrap64 (x3 - (bt638.2.length : Int))) (wrap64 (x4 + 1))))) else (some (⟨#[]⟩ : ByteArray))
end
def trunnionref14_Name.f (k : Nat) (a0 : Int) : Option (ByteArray) := if a0 ≥ 64512 then (trunnionref14_Name.j0 k a0 (decide (a0 < 64520))) else (trunnionref14_Name.j0 k a0 false)
theorem trunnionref14_Name.mono_l : ∀ k, (∀ y0 y1, LeO (trunnionref14_Name.j0 k y0 y1) (trunnionref14_Name.j0 (k + 1) y0 y1)) ∧ (∀ y0 y1, LeO (trunnionref14_Name.j1 k y0 y1) (trunnionref14_Name.j1 (k + 1) y0 y1)) ∧ (∀ y0 y1, LeO (trunnionref14_Name.l0 k y0 y1) (trunnionref14_Name.l0 (k + 1) y0 y1))
 | 0 => ⟨fun _ _ r h => by simp [trunnionref14_Name.j0] at h, fun _ _ r h => by simp [trunnionref14_Name.j1] at h, fun _ _ r h => by simp [trunnionref14_Name.l0] at h⟩
 | k + 1 => by
  obtain ⟨ih0, ih1, ih2⟩ := trunnionref14_Name.mono_l k
  refine ⟨?_, ?_, ?_⟩
  ·intro y0 y1
   unfold trunnionref14_Name.j0
   repeat' first
   | (with_reducible exact ih0 _ _)
   | (with_reducible exact ih1 _ _)
   | (with_reducible exact ih2 _ _)
   | (with_reducible exact trunnionref14_group.mono _ _)
   | (with_reducible exact LeO.refl _)
   | (with_reducible exact LeO.none _)
   | (with_reducible refine LeO.ite ?_ ?_)
   | (with_reducible refine LeO.bind ?_ (fun _ => ?_))
   | exact ih0 _ _
   | exact ih1 _ _
   | exact ih2 _ _
   | exact trunnionref14_group.mono _ _
   | exact LeO.none _
   | refine LeO.ite ?_ ?_
   | refine LeO.bind ?_ (fun _ => ?_)
  ·intro y0 y1
   unfold trunnionref14_Name.j1
   repeat' first
   | (with_reducible exact ih0 _ _)
   | (with_reducible exact ih1 _ _)
   | (with_reducible exact ih2 _ _)
   | (with_reducible exact trunnionref14_group.mono _ _)
   | (with_reducible exact LeO.refl _)
   | (with_reducible exact LeO.none _)
   | (with_reducible refine LeO.ite ?_ ?_)
   | (with_reducible refine LeO.bind ?_ (fun _ => ?_))
   | exact ih0 _ _
   | exact ih1 _ _
   | exact ih2 _ _
   | exact trunnionref14_group.mono _ _
   | exact LeO.none _
   | refine LeO.ite ?_ ?_
   | refine LeO.bind ?_ (fun _ => ?_)
  ·intro y0 y1
   unfold trunnionref14_Name.l0
   repeat' first
   | (with_reducible exact ih0 _ _)
   | (with_reducible exact ih1 _ _)
   | (with_reducible exact ih2 _ _)
   | (with_reducible exact trunnionref14_group.mono _ _)
   | (with_reducible exact LeO.refl _)
   | (with_reducible exact LeO.none _)
   | (with_reducible refine LeO.ite ?_ ?_)
   | (with_reducible refine LeO.bind ?_ (fun _ => ?_))
   | exact ih0 _ _
   | exact ih1 _ _
   | exact ih2 _ _
   | exact trunnionref14_group.mono _ _
   | exact LeO.none _
   | refine LeO.ite ?_ ?_
   | refine LeO.bind ?_ (fun _ => ?_)
theorem trunnionref14_Name.mono : ∀ a0 k, LeO (trunnionref14_Name.f k a0) (trunnionref14_Name.f (k + 1) a0) := by
 intro a0 k
 obtain ⟨ih0, ih1, ih2⟩ := trunnionref14_Name.mono_l k
 unfold trunnionref14_Name.f
 repeat' first
   | (with_reducible exact ih0 _ _)
   | (with_reducible exact ih1 _ _)
   | (with_reducible exact ih2 _ _)
   | (with_reducible exact trunnionref14_group.mono _ _)
   | (with_reducible exact LeO.refl _)
   | (with_reducible exact LeO.none _)
   | (with_reducible refine LeO.ite ?_ ?_)
   | (with_reducible refine LeO.bind ?_ (fun _ => ?_))
   | exact ih0 _ _
   | exact ih1 _ _
   | exact ih2 _ _
   | exact trunnionref14_group.mono _ _
   | exact LeO.none _
   | refine LeO.ite ?_ ?_
   | refine LeO.bind ?_ (fun _ => ?_)
theorem trunnionref14_Name.calls (k : Nat) (a0 : Int) (r : ByteArray) (w : World) (h : trunnionref14_Name.f k a0 = some r) :
  Calls Tryz.prog 45 #[.int .i64 a0] w fun e w' => e = .returned (.string r) ∧ Below w.heap.size w w' := by
 have HB := A_ (Below.refl w.heap.size w)
 have H : (if a0 ≥ 64512 then (trunnionref14_Name.j0 k a0 (decide (a0 < 64520))) else (trunnionref14_Name.j0 k a0 false)) = some r := h
 clear h;have HC2 := A_ H;clear H
 go_enter Tryz.func45, Tryz.ntmps45
 go_upto_region 1 with (fail)
 go_cut [12] (fun v12 wc => ∃ (kq : Nat) (x12_1 : Bool), v12 = .bool x12_1 ∧ Aside0 (trunnionref14_Name.j0 kq a0 x12_1 = some r) ∧ Aside0 (kq ≤ k) ∧ Aside0 (Below w.heap.size w wc))
 case first =>
  have H := HC2.out
  clear HC2
  by_cases c3 : a0 ≥ 64512
  ·rw [if_pos c3] at H
   have c3b0 : decide (64512 ≤ a0) = true := decide_eq_true c3
   clear c3
   (first | rw [c3b0] | (simp only [i64_w, i32_w]; rw [c3b0]) | skip)
   have H' := A_ H
   clear H
   go_wp2
   go_meet
   case rel => exact ⟨_, (decide (a0 < 64520)), sm_, H', ⟨by first | omega | exact Nat.le_refl _⟩, ⟨hb_ HB.out⟩⟩
  ·rw [if_neg c3] at H
   have c3b0 : decide (64512 ≤ a0) = false := decide_eq_false c3
   clear c3
   (first | rw [c3b0] | (simp only [i64_w, i32_w]; rw [c3b0]) | skip)
   have H' := A_ H
   clear H
   go_wp2
   go_meet
   case rel => exact ⟨_, (false), sm_, H', ⟨by first | omega | exact Nat.le_refl _⟩, ⟨hb_ HB.out⟩⟩
 case rest =>
  clear HC2
  try clear p2
  try clear c3
  try clear c3b0
  obtain ⟨kq, x12_1, rfl, HA, HJ1, HB⟩ := hcut
  cases kq with
  | zero => exact absurd HA.out (by simp [trunnionref14_Name.j0])
  | succ kj1 =>
   have H := HA.out
   clear HA
   simp only [trunnionref14_Name.j0] at H
   by_cases c4 : x12_1 = true
   ·subst c4
    have H1 : ((trunnionref14_sats.f).bind fun t634 => (if 0 ≤ (wrap64 (a0 - 64512)) then (if (wrap64 (a0 - 64512)) < (t634.length : Int) then (some (rdOf ByteArray.empty t634 (wrap64 (a0 - 64512)))) else (none)) else (none))) = some r := by rw [if_pos rfl] at H; exact H
    clear H;have H := H1;clear H1
    replace H := ob_ H
    obtain ⟨t634, A50, H⟩ := H
    replace H : (if 0 ≤ (wrap64 (a0 - 64512)) then (if (wrap64 (a0 - 64512)) < (t634.length : Int) then (some (rdOf ByteArray.empty t634 (wrap64 (a0 - 64512)))) else (none)) else (none)) = some r := H
    have A5 := A_ A50;clear A50
    obtain ⟨ji6, hji6⟩ : ∃ j_ : Int, (wrap64 (a0 - 64512)) = j_ := ⟨_, rfl⟩
    replace H : (if 0 ≤ (ji6) then (if (ji6) < (t634.length : Int) then (some (rdOf ByteArray.empty t634 (ji6))) else (none)) else (none)) = some r := by first | (rw [hji6] at H; exact H) | (simp only [hji6] at H ⊢; exact H)
    (try rw [hji6] at A5)
    have hji6w : (IntKind.i64.wrap (a0 - 64512)) = ji6 := (i64_w _).trans hji6
    by_cases c7 : 0 ≤ (ji6)
    ·rw [if_pos c7] at H
     have c7b0 : decide (0 ≤ (ji6)) = true := decide_eq_true c7
     clear c7
     by_cases c8 : (ji6) < (t634.length : Int)
     ·rw [if_pos c8] at H
      have c8b0 : decide ((ji6) < (t634.length : Int)) = true := decide_eq_true c8
      clear c8
      obtain rfl := Option.some.inj H
      go_wp2_with (first | ((with_reducible refine gate_callee (f := 100) rfl ?_); refine goesL_ (some 13) rfl rfl Tryz.func100 (by kernel_rfl) rfl #[] rfl mp_ ?_; (with_reducible refine (trunnionref14_sats.calls  t634 _ A5.out).mono ?_); rintro e w9 ⟨v635, rfl, ho0, hb⟩; refine ⟨_, rfl, ?_⟩; have HO636 := A_ (Kd.R_lower ho0 (below_size (hb_ HB.out))); replace HB := A_ (below_step (hb_ HB.out) hb); (try clear hb); (try clear hb2); (try clear hk); (try clear hi); (try clear ho0); obtain ⟨Ao10, co10, eo10⟩ := Kd.R_slice HO636.out; subst eo10; have p637 : 0 ≤ ((ji6) : Int) := of_decide_eq_true (by first | (with_reducible assumption) | assumption); have q637 : (ji6) < (t634.length : Int) := of_decide_eq_true (by first | (with_reducible assumption) | assumption); obtain ⟨ad637, e637, hx637_0⟩ := Kd.at_string (Kd.R_reads' HO636.out).2.2 (ji6) p637 q637; cases e637; replace p637 := eq_true p637; replace q637 := eq_true q637))
      go_ret
      exact ⟨by first | rfl | (simp [errW_none, errW_some] <;> rfl) | (simp only [← hji6]; first | rfl | (simp [errW_none, errW_some] <;> rfl)) | (simp [*, errW_none, errW_some] <;> rfl), hb_ HB.out⟩
     ·rw [if_neg c8] at H
      exact absurd H (by simp)
    ·rw [if_neg c7] at H
     exact absurd H (by simp)
   ·replace c4 := Bool.eq_false_iff.mpr c4
    subst c4
    have H1 : (if a0 < 69 then (trunnionref14_Name.j1 kj1 a0 true) else (trunnionref14_Name.j1 kj1 a0 (decide (a0 > 191)))) = some r := by rw [if_neg (show ¬ (false = true) by decide)] at H; exact H
    clear H;have H := H1;clear H1;have HC11 := A_ H;clear H
    go_upto_region 3 with (fail)
    go_cut [23] (fun v23 wc => ∃ (kq : Nat) (x23_10 : Bool), v23 = .bool x23_10 ∧ Aside0 (trunnionref14_Name.j1 kq a0 x23_10 = some r) ∧ Aside0 (kq ≤ kj1) ∧ Aside0 (Below w.heap.size w wc))
    case first =>
     have H := HC11.out
     clear HC11
     by_cases c12 : a0 < 69
     ·rw [if_pos c12] at H
      have c12b0 : decide (a0 < 69) = true := decide_eq_true c12
      clear c12
      (first | rw [c12b0] | (simp only [i64_w, i32_w]; rw [c12b0]) | skip)
      have H' := A_ H
      clear H
      go_wp2
      go_meet
      case rel => exact ⟨_, (true), sm_, H', ⟨by have := HJ1.out; first | omega | exact Nat.le_refl _⟩, ⟨hb_ HB.out⟩⟩
     ·rw [if_neg c12] at H
      have c12b0 : decide (a0 < 69) = false := decide_eq_false c12
      clear c12
      (first | rw [c12b0] | (simp only [i64_w, i32_w]; rw [c12b0]) | skip)
      have H' := A_ H
      clear H
      go_wp2
      go_meet
      case rel => exact ⟨_, (decide (a0 > 191)), sm_, H', ⟨by have := HJ1.out; first | omega | exact Nat.le_refl _⟩, ⟨hb_ HB.out⟩⟩
    case rest =>
     clear HC11
     try clear c1
     try clear p2
     try clear c3
     try clear c3b0
     try clear c4
     try clear p6
     try clear q6
     try clear hx6
     try clear c7
     try clear c7b0
     try clear c8
     try clear c8b0
     try clear c10
     try clear c12
     try clear c12b0
     try clear hx637_0
     try clear p2
     try clear p637
     try clear q637
     obtain ⟨kq, x23_10, rfl, HA, HJ10, HB⟩ := hcut
     cases kq with
     | zero => exact absurd HA.out (by simp [trunnionref14_Name.j1])
     | succ kj10 =>
      have H := HA.out
      clear HA
      simp only [trunnionref14_Name.j1] at H
      by_cases c13 : x23_10 = true
      ·subst c13
       have H1 : (some (⟨#[]⟩ : ByteArray)) = some r := by rw [if_pos rfl] at H; exact H
       clear H;have H := H1;clear H1
       obtain rfl := Option.some.inj H
       go_wp2
       go_ret
       exact ⟨er_, hb_ HB.out⟩
      ·replace c13 := Bool.eq_false_iff.mpr c13
       subst c13
       have H1 : (trunnionref14_Name.l0 kj10 (wrap64 (a0 - 69)) 0) = some r := by rw [if_neg (show ¬ (false = true) by decide)] at H; exact H
       clear H;have H := H1;clear H1
       have H' := A_ H
       clear H
       go_wp2
       go_loopg [3, 4] kj10 (fun kq v3 v4 w' => ∃ (x3_3 : Int) (x4_3 : Int), v3 = .int .i64 x3_3 ∧ v4 = .int .i64 x4_3 ∧ Aside0 (trunnionref14_Name.l0 kq x3_3 x4_3 = some r) ∧ Aside0 (kq ≤ kj10) ∧ Aside0 (Below w.heap.size w w'))
       case atStart => exact ⟨(wrap64 (a0 - 69)), (0), sm_, sm_, H', ⟨Nat.le_refl _⟩, ⟨hb_ HB.out⟩⟩
       case round =>
        clear H'
        try clear c1
        try clear p2
        try clear c3
        try clear c3b0
        try clear c4
        try clear p6
        try clear q6
        try clear hx6
        try clear c7
        try clear c7b0
        try clear c8
        try clear c8b0
        try clear c10
        try clear c12
        try clear c12b0
        try clear c13
        try clear hx637_0
        try clear p2
        try clear p6
        try clear p637
        try clear q6
        try clear q637
        obtain ⟨x3_3, x4_3, rfl, rfl, HA, HK3, HB⟩ := hrel
        cases gk with
        | zero => exact absurd HA.out (by simp [trunnionref14_Name.l0])
        | succ k3 =>
         have H := HA.out
         clear HA
         simp only [trunnionref14_Name.l0] at H
         by_cases c14 : x4_3 < 9
         ·rw [if_pos c14] at H
          have c14b0 : decide (x4_3 < 9) = true := decide_eq_true c14
          clear c14
          replace H := ob_ H
          obtain ⟨⟨t638, t639⟩, A150, H⟩ := H
          replace H : (if x3_3 < (t639.length : Int) then (if 0 ≤ x3_3 then (if t638.size + (rdOf ByteArray.empty t639 x3_3).size ≤ 9223372036854775807 then (some (t638 ++ (rdOf ByteArray.empty t639 x3_3))) else (none)) else (none)) else (trunnionref14_Name.l0 k3 (wrap64 (x3_3 - (t639.length : Int))) (wrap64 (x4_3 + 1)))) = some r := H
          have A15 := A_ A150;clear A150
          by_cases c16 : x3_3 < (t639.length : Int)
          ·rw [if_pos c16] at H
           have c16b0 : decide (x3_3 < (t639.length : Int)) = true := decide_eq_true c16
           clear c16
           by_cases c17 : 0 ≤ x3_3
           ·rw [if_pos c17] at H
            have c17b0 : decide (0 ≤ x3_3) = true := decide_eq_true c17
            clear c17
            by_cases c18 : t638.size + (rdOf ByteArray.empty t639 x3_3).size ≤ 9223372036854775807
            ·rw [if_pos c18] at H
             have c18b0 := eq_true c18
             have c18b1 : decide (t638.size + (rdOf ByteArray.empty t639 x3_3).size ≤ 9223372036854775807) = true := decide_eq_true c18
             try have c18b2 : (9223372036854775807 < t638.size + (rdOf ByteArray.empty t639 x3_3).size) = False := eq_false (Nat.not_lt.2 c18)
             obtain rfl := Option.some.inj H
             go_wp2_with (first | ((with_reducible refine gate_callee (f := 101) rfl ?_); refine goesL_ (some 32) rfl rfl Tryz.func101 (by kernel_rfl) rfl #[.int .i64 x4_3] rfl mp_ ?_; (with_reducible refine (trunnionref14_group.calls k3 x4_3 t638 t639 _ A15.out).mono ?_); rintro e w19 ⟨v640, rfl, ho0, hb⟩; refine ⟨_, rfl, ?_⟩; have HO641 := A_ (Kd.R_lower ho0 (below_size (hb_ HB.out))); replace HB := A_ (below_step (hb_ HB.out) hb); (try clear hb); (try clear hb2); (try clear hk); (try clear hi); (try clear ho0); obtain ⟨Ao20, co20, eo20⟩ := Kd.R_slice HO641.out; subst eo20; have p642 : 0 ≤ (x3_3 : Int) := of_decide_eq_true (by first | (with_reducible assumption) | assumption); have q642 : x3_3 < (t639.length : Int) := of_decide_eq_true (by first | (with_reducible assumption) | assumption); obtain ⟨ad642, e642, hx642_0⟩ := Kd.at_string (Kd.R_reads' HO641.out).2.2 x3_3 p642 q642; cases e642; replace p642 := eq_true p642; replace q642 := eq_true q642))
             go_ret
             exact ⟨er_, hb_ HB.out⟩
            ·rw [if_neg c18] at H
             exact absurd H (by simp)
           ·rw [if_neg c17] at H
            exact absurd H (by simp)
          ·rw [if_neg c16] at H
           have c16b0 : decide (x3_3 < (t639.length : Int)) = false := decide_eq_false c16
           clear c16
           have H' := A_ H
           clear H
           go_wp2_with (first | ((with_reducible refine gate_callee (f := 101) rfl ?_); refine goesL_ (some 32) rfl rfl Tryz.func101 (by kernel_rfl) rfl #[.int .i64 x4_3] rfl mp_ ?_; (with_reducible refine (trunnionref14_group.calls k3 x4_3 t638 t639 _ A15.out).mono ?_); rintro e w21 ⟨v640, rfl, ho0, hb⟩; refine ⟨_, rfl, ?_⟩; have HO641 := A_ (Kd.R_lower ho0 (below_size (hb_ HB.out))); replace HB := A_ (below_step (hb_ HB.out) hb); (try clear hb); (try clear hb2); (try clear hk); (try clear hi); (try clear ho0); obtain ⟨Ao22, co22, eo22⟩ := Kd.R_slice HO641.out; subst eo22))
           go_roundg k3
           case measure => have := HJ1.out; have := HJ10.out; have := HK3.out; omega
           case rel => exact ⟨(wrap64 (x3_3 - (t639.length : Int))), (wrap64 (x4_3 + 1)), sm_, sm_, H', ⟨by have := HJ1.out; have := HJ10.out; have := HK3.out; omega⟩, ⟨hb_ HB.out⟩⟩
         ·rw [if_neg c14] at H
          have c14b0 : decide (x4_3 < 9) = false := decide_eq_false c14
          clear c14
          obtain rfl := Option.some.inj H
          go_wp2
          go_ret
          exact ⟨er_, hb_ HB.out⟩
def trunnionref14_Operand.j0 : Nat → ByteArray → Int → Bool → Option (ByteArray)
 | 0, _, _, _ => none
 | k + 1, x0, x3, x21 => if x21 = true then (if (wrap64 (x3 - 2)) > 4 then (if 0 ≤ (wrap64 ((wrap64 (x3 - 2)) - 4)) then (if (wrap64 ((wrap64 (x3 - 2)) - 4)) < (x0.size : Int) then (if (bt x0 (wrap64 ((wrap64 (x3 - 2)) - 4))) = 95 then (if 0 ≤ (wrap64 ((wrap64 (x3 - 2)) - 3)) then (if (wrap64 ((wrap64 (x3 - 2)) - 3)) < (x0.size : Int) then (if (bt x0 (wrap64 ((wrap64 (x3 - 2)) - 3))) = 105 then (if (wrap64 ((wrap64 (x3 - 2)) - 3)) ≤ (wrap64 (x3 - 2)) then (if (wrap64 (x3 - 2)) ≤ (x0.size : Int) then (some (x0.extract ((wrap64 ((wrap64 (x3 - 2)) - 3)) : Int).toNat ((wrap64 (x3 - 2)) : Int).toNat)) else (none)) else (none)) else (if (bt x0 (wrap64 ((wrap64 (x3 - 2)) - 3))) = 102 then (if (wrap64 ((wrap64 (x3 - 2)) - 3)) ≤ (wrap64 (x3 - 2)) then (if (wrap64 (x3 - 2)) ≤ (x0.size : Int) then (some (x0.extract ((wrap64 ((wrap64 (x3 - 2)) - 3)) : Int).toNat ((wrap64 (x3 - 2)) : Int).toNat)) else (none)) else (none)) else (if 0 ≤ 3 then (if 3 ≤ (x0.size : Int) then (some (x0.extract 0 3)) else (none)) else (none)))) else (none)) else (none)) else (if 0 ≤ 3 then (if 3 ≤ (x0.size : Int) then (some (x0.extract 0 3)) else (none)) else (none))) else (none)) else (none)) else (if 0 ≤ 3 then (if 3 ≤ (x0.size : Int) then (some (x0.extract 0 3)) else (none)) else (none))) else (if x3 > 4 then (if 0 ≤ (wrap64 (x3 - 4)) then (if (wrap64 (x3 - 4)) < (x0.size : Int) then (if (bt x0 (wrap64 (x3 - 4))) = 95 then (if 0 ≤ (wrap64 (x3 - 3)) then (if (wrap64 (x3 - 3)) < (x0.size : Int) then (if (bt x0 (wrap64 (x3 - 3))) = 105 then (if (wrap64 (x3 - 3)) ≤ x3 then (if x3 ≤ (x0.size : Int) then (some (x0.extract ((wrap64 (x3 - 3)) : Int).toNat (x3 : Int).toNat)) else (none)) else (none)) else (if (bt x0 (wrap64 (x3 - 3))) = 102 then (if (wrap64 (x3 - 3)) ≤ x3 then (if x3 ≤ (x0.size : Int) then (some (x0.extract ((wrap64 (x3 - 3)) : Int).toNat (x3 : Int).toNat)) else (none)) else (none)) else (if 0 ≤ 3 then (if 3 ≤ (x0.size : Int) then (some (x0.extract 0 3)) else (none)) else (none)))) else (none)) else (none)) else (if 0 ≤ 3 then (if 3 ≤ (x0.size : Int) then (some (x0.extract 0 3)) else (none)) else (none))) else (none)) else (none)) else (if 0 ≤ 3 then (if 3 ≤ (x0.size : Int) then (some (x0.extract 0 3)) else (none)) else (none)))
def trunnionref14_Operand.f (k : Nat) (a0 : ByteArray) : Option (ByteArray) := if (a0.size : Int) > 2 then (if 0 ≤ (wrap64 ((a0.size : Int) - 2)) then (if (wrap64 ((a0.size : Int) - 2)) ≤ (a0.size : Int) then (if (a0.extract ((wrap64 ((a0.size : Int) - 2)) : Int).toNat a0.size).toList = ([95, 115] : List UInt8) then (trunnionref14_Operand.j0 k a0 (a0.size : Int) true) else (trunnionref14_Operand.j0 k a0 (a0.size : Int) ((a0.extract ((wrap64 ((a0.size : Int) - 2)) : Int).toNat a0.size).toList == ([95, 117] : List UInt8)))) else (none)) else (none)) else (trunnionref14_Operand.j0 k a0 (a0.size : Int) false)
theorem trunnionref14_Operand.mono_l : ∀ k, (∀ y0 y1 y2, LeO (trunnionref14_Operand.j0 k y0 y1 y2) (trunnionref14_Operand.j0 (k + 1) y0 y1 y2))
 | 0 => fun _ _ _ r h => by simp [trunnionref14_Operand.j0] at h
 | k + 1 => by
  have ih0 := trunnionref14_Operand.mono_l k
  ·intro y0 y1 y2
   unfold trunnionref14_Operand.j0
   repeat' first
   | (with_reducible exact ih0 _ _ _)
   | (with_reducible exact LeO.refl _)
   | (with_reducible exact LeO.none _)
   | (with_reducible refine LeO.ite ?_ ?_)
   | (with_reducible refine LeO.bind ?_ (fun _ => ?_))
   | exact ih0 _ _ _
   | exact LeO.none _
   | refine LeO.ite ?_ ?_
   | refine LeO.bind ?_ (fun _ => ?_)
theorem trunnionref14_Operand.mono : ∀ a0 k, LeO (trunnionref14_Operand.f k a0) (trunnionref14_Operand.f (k + 1) a0) := by
 intro a0 k
 have ih0 := trunnionref14_Operand.mono_l k
 unfold trunnionref14_Operand.f
 repeat' first
   | (with_reducible exact ih0 _ _ _)
   | (with_reducible exact LeO.refl _)
   | (with_reducible exact LeO.none _)
   | (with_reducible refine LeO.ite ?_ ?_)
   | (with_reducible refine LeO.bind ?_ (fun _ => ?_))
   | exact ih0 _ _ _
   | exact LeO.none _
   | refine LeO.ite ?_ ?_
   | refine LeO.bind ?_ (fun _ => ?_)
theorem trunnionref14_Operand.calls (k : Nat) (a0 : ByteArray) (r : ByteArray) (w : World) (h : trunnionref14_Operand.f k a0 = some r) :
  Calls Tryz.prog 46 #[.string a0] w fun e w' => e = .returned (.string r) ∧ Drawn0 w w' := by
 have H : (if (a0.size : Int) > 2 then (if 0 ≤ (wrap64 ((a0.size : Int) - 2)) then (if (wrap64 ((a0.size : Int) - 2)) ≤ (a0.size : Int) then (if (a0.extract ((wrap64 ((a0.size : Int) - 2)) : Int).toNat a0.size).toList = ([95, 115] : List UInt8) then (trunnionref14_Operand.j0 k a0 (a0.size : Int) true) else (trunnionref14_Operand.j0 k a0 (a0.size : Int) ((a0.extract ((wrap64 ((a0.size : Int) - 2)) : Int).toNat a0.size).toList == ([95, 117] : List UInt8)))) else (none)) else (none)) else (trunnionref14_Operand.j0 k a0 (a0.size : Int) false)) = some r := h
 clear h;have HC2 := A_ H;clear H
 go_enter Tryz.func46, Tryz.ntmps46
 go_upto_region 2 with (fail)
 go_cut [21] (fun v21 wc => ∃ (kq : Nat) (x21_1 : Bool), v21 = .bool x21_1 ∧ Aside0 (trunnionref14_Operand.j0 kq a0 (a0.size : Int) x21_1 = some r) ∧ Aside0 (kq ≤ k) ∧ Drawn0 w wc)
 case first =>
  have H := HC2.out
  clear HC2
  by_cases c3 : (a0.size : Int) > 2
  ·rw [if_pos c3] at H
   have c3b0 : decide (2 < (a0.size : Int)) = true := decide_eq_true c3
   have c3b1 : decide (2 < a0.size) = true := decide_eq_true (by omega)
   clear c3
   (first | rw [c3b0] | (simp only [i64_w, i32_w]; rw [c3b0]) | skip)
   obtain ⟨ji4, hji4⟩ : ∃ j_ : Int, (wrap64 ((a0.size : Int) - 2)) = j_ := ⟨_, rfl⟩
   replace H : (if 0 ≤ (ji4) then (if (ji4) ≤ (a0.size : Int) then (if (a0.extract ((ji4) : Int).toNat a0.size).toList = ([95, 115] : List UInt8) then (trunnionref14_Operand.j0 k a0 (a0.size : Int) true) else (trunnionref14_Operand.j0 k a0 (a0.size : Int) ((a0.extract ((ji4) : Int).toNat a0.size).toList == ([95, 117] : List UInt8)))) else (none)) else (none)) = some r := by first | (rw [hji4] at H; exact H) | (simp only [hji4] at H ⊢; exact H)
   have hji4w : (IntKind.i64.wrap ((a0.size : Int) - 2)) = ji4 := (i64_w _).trans hji4
   by_cases c5 : 0 ≤ (ji4)
   ·rw [if_pos c5] at H
    have c5b0 := eq_true c5
    have c5b1 : decide (0 ≤ (ji4)) = true := decide_eq_true c5
    clear c5
    by_cases c6 : (ji4) ≤ (a0.size : Int)
    ·rw [if_pos c6] at H
     have c6b0 := eq_true c6
     have c6b1 : decide ((ji4) ≤ (a0.size : Int)) = true := decide_eq_true c6
     clear c6
     by_cases c7 : (a0.extract ((ji4) : Int).toNat a0.size).toList = ([95, 115] : List UInt8)
     ·rw [if_pos c7] at H
      have c7b0 : ((a0.extract ((ji4) : Int).toNat a0.size).toList == ([95, 115] : List UInt8)) = true := beq_iff_eq.mpr c7
      have c7b1 : ((a0.extract ((ji4) : Int).toNat a0.size).toList != ([95, 115] : List UInt8)) = false := bne_eq_false_iff_eq.mpr c7
      clear c7
      have H' := A_ H
      clear H
      go_wp2
      go_meet
      case rel => exact ⟨_, (true), sm_, H', ⟨by first | omega | exact Nat.le_refl _⟩, by repeat (first | exact Drawn0.refl _ | apply Drawn0.step)⟩
     ·rw [if_neg c7] at H
      have c7b0 : ((a0.extract ((ji4) : Int).toNat a0.size).toList == ([95, 115] : List UInt8)) = false := beq_eq_false_iff_ne.mpr c7
      have c7b1 : ((a0.extract ((ji4) : Int).toNat a0.size).toList != ([95, 115] : List UInt8)) = true := bne_iff_ne.mpr c7
      have c8b0 := eq_true (of_decide_eq_true (by first | (with_reducible assumption) | assumption) : 0 ≤ (ji4))
      have c9b0 := eq_true (of_decide_eq_true (by first | (with_reducible assumption) | assumption) : (ji4) ≤ (a0.size : Int))
      have H' := A_ H
      clear H
      go_wp2
      go_meet
      case rel => exact ⟨_, (((a0.extract ((ji4) : Int).toNat a0.size).toList == ([95, 117] : List UInt8))), (by first | rfl | (simp; done) | (simp only [← hji4] <;> (first | rfl | simp)) | (simp [*]; done)), H', ⟨by first | omega | exact Nat.le_refl _⟩, by repeat (first | exact Drawn0.refl _ | apply Drawn0.step)⟩
    ·rw [if_neg c6] at H
     exact absurd H (by simp)
   ·rw [if_neg c5] at H
    exact absurd H (by simp)
  ·rw [if_neg c3] at H
   have c3b0 : decide (2 < (a0.size : Int)) = false := decide_eq_false c3
   have c3b1 : decide (2 < a0.size) = false := decide_eq_false (by omega)
   clear c3
   (first | rw [c3b0] | (simp only [i64_w, i32_w]; rw [c3b0]) | skip)
   have H' := A_ H
   clear H
   go_wp2
   go_meet
   case rel => exact ⟨_, (false), sm_, H', ⟨by first | omega | exact Nat.le_refl _⟩, by repeat (first | exact Drawn0.refl _ | apply Drawn0.step)⟩
 case rest =>
  clear HC2
  try clear p2
  try clear c3
  try clear c3b0
  try clear c3b1
  try clear c4
  try clear c5
  try clear c5b0
  try clear c5b1
  try clear c6
  try clear c6b0
  try clear c6b1
  try clear p6
  try clear c7
  try clear c7b0
  try clear c7b1
  try clear c8
  try clear c8b0
  try clear c9
  try clear c9b0
  obtain ⟨kq, x21_1, rfl, HA, HJ1, ⟨mc1, rfl⟩⟩ := hcut
  cases kq with
  | zero => exact absurd HA.out (by simp [trunnionref14_Operand.j0])
  | succ kj1 =>
   have H := HA.out
   clear HA
   simp only [trunnionref14_Operand.j0] at H
   by_cases c10 : x21_1 = true
   ·subst c10
    have H1 : (if (wrap64 ((a0.size : Int) - 2)) > 4 then (if 0 ≤ (wrap64 ((wrap64 ((a0.size : Int) - 2)) - 4)) then (if (wrap64 ((wrap64 ((a0.size : Int) - 2)) - 4)) < (a0.size : Int) then (if (bt a0 (wrap64 ((wrap64 ((a0.size : Int) - 2)) - 4))) = 95 then (if 0 ≤ (wrap64 ((wrap64 ((a0.size : Int) - 2)) - 3)) then (if (wrap64 ((wrap64 ((a0.size : Int) - 2)) - 3)) < (a0.size : Int) then (if (bt a0 (wrap64 ((wrap64 ((a0.size : Int) - 2)) - 3))) = 105 then (if (wrap64 ((wrap64 ((a0.size : Int) - 2)) - 3)) ≤ (wrap64 ((a0.size : Int) - 2)) then (if (wrap64 ((a0.size : Int) - 2)) ≤ (a0.size : Int) then (some (a0.extract ((wrap64 ((wrap64 ((a0.size : Int) - 2)) - 3)) : Int).toNat ((wrap64 ((a0.size : Int) - 2)) : Int).toNat)) else (none)) else (none)) else (if (bt a0 (wrap64 ((wrap64 ((a0.size : Int) - 2)) - 3))) = 102 then (if (wrap64 ((wrap64 ((a0.size : Int) - 2)) - 3)) ≤ (wrap64 ((a0.size : Int) - 2)) then (if (wrap64 ((a0.size : Int) - 2)) ≤ (a0.size : Int) then (some (a0.extract ((wrap64 ((wrap64 ((a0.size : Int) - 2)) - 3)) : Int).toNat ((wrap64 ((a0.size : Int) - 2)) : Int).toNat)) else (none)) else (none)) else (if 0 ≤ 3 then (if 3 ≤ (a0.size : Int) then (some (a0.extract 0 3)) else (none)) else (none)))) else (none)) else (none)) else (if 0 ≤ 3 then (if 3 ≤ (a0.size : Int) then (some (a0.extract 0 3)) else (none)) else (none))) else (none)) else (none)) else (if 0 ≤ 3 then (if 3 ≤ (a0.size : Int) then (some (a0.extract 0 3)) else (none)) else (none))) = some r := by rw [if_pos rfl] at H; exact H
    clear H;have H := H1;clear H1
    by_cases c11 : (wrap64 ((a0.size : Int) - 2)) > 4
    ·rw [if_pos c11] at H
     have c11b0 : decide (4 < (wrap64 ((a0.size : Int) - 2))) = true := decide_eq_true c11
     clear c11
     obtain ⟨ji12, hji12⟩ : ∃ j_ : Int, (wrap64 ((wrap64 ((a0.size : Int) - 2)) - 4)) = j_ := ⟨_, rfl⟩
     replace H : (if 0 ≤ (ji12) then (if (ji12) < (a0.size : Int) then (if (bt a0 (ji12)) = 95 then (if 0 ≤ (wrap64 ((wrap64 ((a0.size : Int) - 2)) - 3)) then (if (wrap64 ((wrap64 ((a0.size : Int) - 2)) - 3)) < (a0.size : Int) then (if (bt a0 (wrap64 ((wrap64 ((a0.size : Int) - 2)) - 3))) = 105 then (if (wrap64 ((wrap64 ((a0.size : Int) - 2)) - 3)) ≤ (wrap64 ((a0.size : Int) - 2)) then (if (wrap64 ((a0.size : Int) - 2)) ≤ (a0.size : Int) then (some (a0.extract ((wrap64 ((wrap64 ((a0.size : Int) - 2)) - 3)) : Int).toNat ((wrap64 ((a0.size : Int) - 2)) : Int).toNat)) else (none)) else (none)) else (if (bt a0 (wrap64 ((wrap64 ((a0.size : Int) - 2)) - 3))) = 102 then (if (wrap64 ((wrap64 ((a0.size : Int) - 2)) - 3)) ≤ (wrap64 ((a0.size : Int) - 2)) then (if (wrap64 ((a0.size : Int) - 2)) ≤ (a0.size : Int) then (some (a0.extract ((wrap64 ((wrap64 ((a0.size : Int) - 2)) - 3)) : Int).toNat ((wrap64 ((a0.size : Int) - 2)) : Int).toNat)) else (none)) else (none)) else (if 0 ≤ 3 then (if 3 ≤ (a0.size : Int) then (some (a0.extract 0 3)) else (none)) else (none)))) else (none)) else (none)) else (if 0 ≤ 3 then (if 3 ≤ (a0.size : Int) then (some (a0.extract 0 3)) else (none)) else (none))) else (none)) else (none)) = some r := by first | (rw [hji12] at H; exact H) | (simp only [hji12] at H ⊢; exact H)
     have hji12w : (IntKind.i64.wrap ((wrap64 ((a0.size : Int) - 2)) - 4)) = ji12 := (i64_w _).trans hji12
     by_cases c13 : 0 ≤ (ji12)
     ·rw [if_pos c13] at H
      have c13b0 : decide (0 ≤ (ji12)) = true := decide_eq_true c13
      clear c13
      by_cases c14 : (ji12) < (a0.size : Int)
      ·rw [if_pos c14] at H
       have c14b0 : decide ((ji12) < (a0.size : Int)) = true := decide_eq_true c14
       clear c14
       by_cases c16 : (bt a0 (ji12)) = 95
       ·rw [if_pos c16] at H
        have c16b0 : ((bt a0 (ji12)) == 95) = true := beq_iff_eq.mpr c16
        have c16b1 : ((bt a0 (ji12)) != 95) = false := bne_eq_false_iff_eq.mpr c16
        clear c16
        obtain ⟨ji17, hji17⟩ : ∃ j_ : Int, (wrap64 ((wrap64 ((a0.size : Int) - 2)) - 3)) = j_ := ⟨_, rfl⟩
        replace H : (if 0 ≤ (ji17) then (if (ji17) < (a0.size : Int) then (if (bt a0 (ji17)) = 105 then (if (ji17) ≤ (wrap64 ((a0.size : Int) - 2)) then (if (wrap64 ((a0.size : Int) - 2)) ≤ (a0.size : Int) then (some (a0.extract ((ji17) : Int).toNat ((wrap64 ((a0.size : Int) - 2)) : Int).toNat)) else (none)) else (none)) else (if (bt a0 (ji17)) = 102 then (if (ji17) ≤ (wrap64 ((a0.size : Int) - 2)) then (if (wrap64 ((a0.size : Int) - 2)) ≤ (a0.size : Int) then (some (a0.extract ((ji17) : Int).toNat ((wrap64 ((a0.size : Int) - 2)) : Int).toNat)) else (none)) else (none)) else (if 0 ≤ 3 then (if 3 ≤ (a0.size : Int) then (some (a0.extract 0 3)) else (none)) else (none)))) else (none)) else (none)) = some r := by first | (rw [hji17] at H; exact H) | (simp only [hji17] at H ⊢; exact H)
        have hji17w : (IntKind.i64.wrap ((wrap64 ((a0.size : Int) - 2)) - 3)) = ji17 := (i64_w _).trans hji17
        by_cases c18 : 0 ≤ (ji17)
        ·rw [if_pos c18] at H
         have c18b0 : decide (0 ≤ (ji17)) = true := decide_eq_true c18
         clear c18
         by_cases c19 : (ji17) < (a0.size : Int)
         ·rw [if_pos c19] at H
          have c19b0 : decide ((ji17) < (a0.size : Int)) = true := decide_eq_true c19
          clear c19
          by_cases c21 : (bt a0 (ji17)) = 105
          ·rw [if_pos c21] at H
           have c21b0 : ((bt a0 (ji17)) == 105) = true := beq_iff_eq.mpr c21
           have c21b1 : ((bt a0 (ji17)) != 105) = false := bne_eq_false_iff_eq.mpr c21
           clear c21
           have c22b0 := eq_true (of_decide_eq_true (by first | (with_reducible assumption) | assumption) : 0 ≤ (ji17))
           by_cases c23 : (ji17) ≤ (wrap64 ((a0.size : Int) - 2))
           ·rw [if_pos c23] at H
            have c23b0 := eq_true c23
            have c23b1 : decide ((ji17) ≤ (wrap64 ((a0.size : Int) - 2))) = true := decide_eq_true c23
            clear c23
            by_cases c24 : (wrap64 ((a0.size : Int) - 2)) ≤ (a0.size : Int)
            ·rw [if_pos c24] at H
             have c24b0 := eq_true c24
             have c24b1 : decide ((wrap64 ((a0.size : Int) - 2)) ≤ (a0.size : Int)) = true := decide_eq_true c24
             clear c24
             obtain rfl := Option.some.inj H
             have p15 : 0 ≤ ((ji12) : Int) := of_decide_eq_true (by first | (with_reducible assumption) | assumption)
             have q15 : (ji12) < (a0.size : Int) := of_decide_eq_true (by first | (with_reducible assumption) | assumption)
             have hx15 := bt_at a0 (ji12)
             replace p15 := eq_true p15
             replace q15 := eq_true q15
             have p20 : 0 ≤ ((ji17) : Int) := of_decide_eq_true (by first | (with_reducible assumption) | assumption)
             have q20 : (ji17) < (a0.size : Int) := of_decide_eq_true (by first | (with_reducible assumption) | assumption)
             have hx20 := bt_at a0 (ji17)
             replace p20 := eq_true p20
             replace q20 := eq_true q20
             go_wp2
             go_ret
             exact ⟨by first | rfl | (simp; done) | (simp only [← hji12, ← hji17] <;> (first | rfl | simp)) | (simp [*]; done), by repeat (first | exact Drawn0.refl _ | apply Drawn0.step)⟩
            ·rw [if_neg c24] at H
             exact absurd H (by simp)
           ·rw [if_neg c23] at H
            exact absurd H (by simp)
          ·rw [if_neg c21] at H
           have c21b0 : ((bt a0 (ji17)) == 105) = false := beq_eq_false_iff_ne.mpr c21
           have c21b1 : ((bt a0 (ji17)) != 105) = true := bne_iff_ne.mpr c21
           by_cases c26 : (bt a0 (ji17)) = 102
           ·rw [if_pos c26] at H
            have c26b0 : ((bt a0 (ji17)) == 102) = true := beq_iff_eq.mpr c26
            have c26b1 : ((bt a0 (ji17)) != 102) = false := bne_eq_false_iff_eq.mpr c26
            clear c26
            have c27b0 := eq_true (of_decide_eq_true (by first | (with_reducible assumption) | assumption) : 0 ≤ (ji17))
            by_cases c28 : (ji17) ≤ (wrap64 ((a0.size : Int) - 2))
            ·rw [if_pos c28] at H
             have c28b0 := eq_true c28
             have c28b1 : decide ((ji17) ≤ (wrap64 ((a0.size : Int) - 2))) = true := decide_eq_true c28
             clear c28
             by_cases c29 : (wrap64 ((a0.size : Int) - 2)) ≤ (a0.size : Int)
             ·rw [if_pos c29] at H
              have c29b0 := eq_true c29
              have c29b1 : decide ((wrap64 ((a0.size : Int) - 2)) ≤ (a0.size : Int)) = true := decide_eq_true c29
              clear c29
              obtain rfl := Option.some.inj H
              have p15 : 0 ≤ ((ji12) : Int) := of_decide_eq_true (by first | (with_reducible assumption) | assumption)
              have q15 : (ji12) < (a0.size : Int) := of_decide_eq_true (by first | (with_reducible assumption) | assumption)
              have hx15 := bt_at a0 (ji12)
              replace p15 := eq_true p15
              replace q15 := eq_true q15
              have p20 : 0 ≤ ((ji17) : Int) := of_decide_eq_true (by first | (with_reducible assumption) | assumption)
              have q20 : (ji17) < (a0.size : Int) := of_decide_eq_true (by first | (with_reducible assumption) | assumption)
              have hx20 := bt_at a0 (ji17)
              replace p20 := eq_true p20
              replace q20 := eq_true q20
              have p25 : 0 ≤ ((ji17) : Int) := of_decide_eq_true (by first | (with_reducible assumption) | assumption)
              have q25 : (ji17) < (a0.size : Int) := of_decide_eq_true (by first | (with_reducible assumption) | assumption)
              have hx25 := bt_at a0 (ji17)
              replace p25 := eq_true p25
              replace q25 := eq_true q25
              go_wp2
              go_ret
              exact ⟨by first | rfl | (simp; done) | (simp only [← hji12, ← hji17] <;> (first | rfl | simp)) | (simp [*]; done), by repeat (first | exact Drawn0.refl _ | apply Drawn0.step)⟩
             ·rw [if_neg c29] at H
              exact absurd H (by simp)
            ·rw [if_neg c28] at H
             exact absurd H (by simp)
           ·rw [if_neg c26] at H
            have c26b0 : ((bt a0 (ji17)) == 102) = false := beq_eq_false_iff_ne.mpr c26
            have c26b1 : ((bt a0 (ji17)) != 102) = true := bne_iff_ne.mpr c26
            by_cases c30 : 0 ≤ 3
            ·rw [if_pos c30] at H
             have c30b0 := eq_true c30
             have c30b1 : decide (0 ≤ 3) = true := decide_eq_true c30
             clear c30
             by_cases c31 : 3 ≤ (a0.size : Int)
             ·rw [if_pos c31] at H
              have c31b0 := eq_true c31
              have c31b1 : decide (3 ≤ (a0.size : Int)) = true := decide_eq_true c31
              clear c31
              obtain rfl := Option.some.inj H
              have p15 : 0 ≤ ((ji12) : Int) := of_decide_eq_true (by first | (with_reducible assumption) | assumption)
              have q15 : (ji12) < (a0.size : Int) := of_decide_eq_true (by first | (with_reducible assumption) | assumption)
              have hx15 := bt_at a0 (ji12)
              replace p15 := eq_true p15
              replace q15 := eq_true q15
              have p20 : 0 ≤ ((ji17) : Int) := of_decide_eq_true (by first | (with_reducible assumption) | assumption)
              have q20 : (ji17) < (a0.size : Int) := of_decide_eq_true (by first | (with_reducible assumption) | assumption)
              have hx20 := bt_at a0 (ji17)
              replace p20 := eq_true p20
              replace q20 := eq_true q20
              have p25 : 0 ≤ ((ji17) : Int) := of_decide_eq_true (by first | (with_reducible assumption) | assumption)
              have q25 : (ji17) < (a0.size : Int) := of_decide_eq_true (by first | (with_reducible assumption) | assumption)
              have hx25 := bt_at a0 (ji17)
              replace p25 := eq_true p25
              replace q25 := eq_true q25
              go_wp2
              go_ret
              exact ⟨by first | rfl | (simp; done) | (simp only [← hji12, ← hji17] <;> (first | rfl | simp)) | (simp [*]; done), by repeat (first | exact Drawn0.refl _ | apply Drawn0.step)⟩
             ·rw [if_neg c31] at H
              exact absurd H (by simp)
            ·rw [if_neg c30] at H
             exact absurd H (by simp)
         ·rw [if_neg c19] at H
          exact absurd H (by simp)
        ·rw [if_neg c18] at H
         exact absurd H (by simp)
       ·rw [if_neg c16] at H
        have c16b0 : ((bt a0 (ji12)) == 95) = false := beq_eq_false_iff_ne.mpr c16
        have c16b1 : ((bt a0 (ji12)) != 95) = true := bne_iff_ne.mpr c16
        by_cases c32 : 0 ≤ 3
        ·rw [if_pos c32] at H
         have c32b0 := eq_true c32
         have c32b1 : decide (0 ≤ 3) = true := decide_eq_true c32
         clear c32
         by_cases c33 : 3 ≤ (a0.size : Int)
         ·rw [if_pos c33] at H
          have c33b0 := eq_true c33
          have c33b1 : decide (3 ≤ (a0.size : Int)) = true := decide_eq_true c33
          clear c33
          obtain rfl := Option.some.inj H
          have p15 : 0 ≤ ((ji12) : Int) := of_decide_eq_true (by first | (with_reducible assumption) | assumption)
          have q15 : (ji12) < (a0.size : Int) := of_decide_eq_true (by first | (with_reducible assumption) | assumption)
          have hx15 := bt_at a0 (ji12)
          replace p15 := eq_true p15
          replace q15 := eq_true q15
          go_wp2
          go_ret
          exact ⟨by first | rfl | (simp; done) | (simp only [← hji12] <;> (first | rfl | simp)) | (simp [*]; done), by repeat (first | exact Drawn0.refl _ | apply Drawn0.step)⟩
         ·rw [if_neg c33] at H
          exact absurd H (by simp)
        ·rw [if_neg c32] at H
         exact absurd H (by simp)
      ·rw [if_neg c14] at H
       exact absurd H (by simp)
     ·rw [if_neg c13] at H
      exact absurd H (by simp)
    ·rw [if_neg c11] at H
     have c11b0 : decide (4 < (wrap64 ((a0.size : Int) - 2))) = false := decide_eq_false c11
     clear c11
     by_cases c34 : 0 ≤ 3
     ·rw [if_pos c34] at H
      have c34b0 := eq_true c34
      have c34b1 : decide (0 ≤ 3) = true := decide_eq_true c34
      clear c34
      by_cases c35 : 3 ≤ (a0.size : Int)
      ·rw [if_pos c35] at H
       have c35b0 := eq_true c35
       have c35b1 : decide (3 ≤ (a0.size : Int)) = true := decide_eq_true c35
       clear c35
       obtain rfl := Option.some.inj H
       go_wp2
       go_ret
       exact ⟨sm_, by repeat (first | exact Drawn0.refl _ | apply Drawn0.step)⟩
      ·rw [if_neg c35] at H
       exact absurd H (by simp)
     ·rw [if_neg c34] at H
      exact absurd H (by simp)
   ·replace c10 := Bool.eq_false_iff.mpr c10
    subst c10
    have H1 : (if (a0.size : Int) > 4 then (if 0 ≤ (wrap64 ((a0.size : Int) - 4)) then (if (wrap64 ((a0.size : Int) - 4)) < (a0.size : Int) then (if (bt a0 (wrap64 ((a0.size : Int) - 4))) = 95 then (if 0 ≤ (wrap64 ((a0.size : Int) - 3)) then (if (wrap64 ((a0.size : Int) - 3)) < (a0.size : Int) then (if (bt a0 (wrap64 ((a0.size : Int) - 3))) = 105 then (if (wrap64 ((a0.size : Int) - 3)) ≤ (a0.size : Int) then (if (a0.size : Int) ≤ (a0.size : Int) then (some (a0.extract ((wrap64 ((a0.size : Int) - 3)) : Int).toNat ((a0.size : Int) : Int).toNat)) else (none)) else (none)) else (if (bt a0 (wrap64 ((a0.size : Int) - 3))) = 102 then (if (wrap64 ((a0.size : Int) - 3)) ≤ (a0.size : Int) then (if (a0.size : Int) ≤ (a0.size : Int) then (some (a0.extract ((wrap64 ((a0.size : Int) - 3)) : Int).toNat ((a0.size : Int) : Int).toNat)) else (none)) else (none)) else (if 0 ≤ 3 then (if 3 ≤ (a0.size : Int) then (some (a0.extract 0 3)) else (none)) else (none)))) else (none)) else (none)) else (if 0 ≤ 3 then (if 3 ≤ (a0.size : Int) then (some (a0.extract 0 3)) else (none)) else (none))) else (none)) else (none)) else (if 0 ≤ 3 then (if 3 ≤ (a0.size : Int) then (some (a0.extract 0 3)) else (none)) else (none))) = some r := by rw [if_neg (show ¬ (false = true) by decide)] at H; exact H
    clear H;have H := H1;clear H1
    by_cases c36 : (a0.size : Int) > 4
    ·rw [if_pos c36] at H
     have c36b0 : decide (4 < (a0.size : Int)) = true := decide_eq_true c36
     have c36b1 : decide (4 < a0.size) = true := decide_eq_true (by omega)
     clear c36
     obtain ⟨ji37, hji37⟩ : ∃ j_ : Int, (wrap64 ((a0.size : Int) - 4)) = j_ := ⟨_, rfl⟩
     replace H : (if 0 ≤ (ji37) then (if (ji37) < (a0.size : Int) then (if (bt a0 (ji37)) = 95 then (if 0 ≤ (wrap64 ((a0.size : Int) - 3)) then (if (wrap64 ((a0.size : Int) - 3)) < (a0.size : Int) then (if (bt a0 (wrap64 ((a0.size : Int) - 3))) = 105 then (if (wrap64 ((a0.size : Int) - 3)) ≤ (a0.size : Int) then (if (a0.size : Int) ≤ (a0.size : Int) then (some (a0.extract ((wrap64 ((a0.size : Int) - 3)) : Int).toNat ((a0.size : Int) : Int).toNat)) else (none)) else (none)) else (if (bt a0 (wrap64 ((a0.size : Int) - 3))) = 102 then (if (wrap64 ((a0.size : Int) - 3)) ≤ (a0.size : Int) then (if (a0.size : Int) ≤ (a0.size : Int) then (some (a0.extract ((wrap64 ((a0.size : Int) - 3)) : Int).toNat ((a0.size : Int) : Int).toNat)) else (none)) else (none)) else (if 0 ≤ 3 then (if 3 ≤ (a0.size : Int) then (some (a0.extract 0 3)) else (none)) else (none)))) else (none)) else (none)) else (if 0 ≤ 3 then (if 3 ≤ (a0.size : Int) then (some (a0.extract 0 3)) else (none)) else (none))) else (none)) else (none)) = some r := by first | (rw [hji37] at H; exact H) | (simp only [hji37] at H ⊢; exact H)
     have hji37w : (IntKind.i64.wrap ((a0.size : Int) - 4)) = ji37 := (i64_w _).trans hji37
     by_cases c38 : 0 ≤ (ji37)
     ·rw [if_pos c38] at H
      have c38b0 : decide (0 ≤ (ji37)) = true := decide_eq_true c38
      clear c38
      by_cases c39 : (ji37) < (a0.size : Int)
      ·rw [if_pos c39] at H
       have c39b0 : decide ((ji37) < (a0.size : Int)) = true := decide_eq_true c39
       clear c39
       by_cases c41 : (bt a0 (ji37)) = 95
       ·rw [if_pos c41] at H
        have c41b0 : ((bt a0 (ji37)) == 95) = true := beq_iff_eq.mpr c41
        have c41b1 : ((bt a0 (ji37)) != 95) = false := bne_eq_false_iff_eq.mpr c41
        clear c41
        obtain ⟨ji42, hji42⟩ : ∃ j_ : Int, (wrap64 ((a0.size : Int) - 3)) = j_ := ⟨_, rfl⟩
        replace H : (if 0 ≤ (ji42) then (if (ji42) < (a0.size : Int) then (if (bt a0 (ji42)) = 105 then (if (ji42) ≤ (a0.size : Int) then (if (a0.size : Int) ≤ (a0.size : Int) then (some (a0.extract ((ji42) : Int).toNat ((a0.size : Int) : Int).toNat)) else (none)) else (none)) else (if (bt a0 (ji42)) = 102 then (if (ji42) ≤ (a0.size : Int) then (if (a0.size : Int) ≤ (a0.size : Int) then (some (a0.extract ((ji42) : Int).toNat ((a0.size : Int) : Int).toNat)) else (none)) else (none)) else (if 0 ≤ 3 then (if 3 ≤ (a0.size : Int) then (some (a0.extract 0 3)) else (none)) else (none)))) else (none)) else (none)) = some r := by first | (rw [hji42] at H; exact H) | (simp only [hji42] at H ⊢; exact H)
        have hji42w : (IntKind.i64.wrap ((a0.size : Int) - 3)) = ji42 := (i64_w _).trans hji42
        by_cases c43 : 0 ≤ (ji42)
        ·rw [if_pos c43] at H
         have c43b0 : decide (0 ≤ (ji42)) = true := decide_eq_true c43
         clear c43
         by_cases c44 : (ji42) < (a0.size : Int)
         ·rw [if_pos c44] at H
          have c44b0 : decide ((ji42) < (a0.size : Int)) = true := decide_eq_true c44
          clear c44
          by_cases c46 : (bt a0 (ji42)) = 105
          ·rw [if_pos c46] at H
           have c46b0 : ((bt a0 (ji42)) == 105) = true := beq_iff_eq.mpr c46
           have c46b1 : ((bt a0 (ji42)) != 105) = false := bne_eq_false_iff_eq.mpr c46
           clear c46
           have c47b0 := eq_true (of_decide_eq_true (by first | (with_reducible assumption) | assumption) : 0 ≤ (ji42))
           by_cases c48 : (ji42) ≤ (a0.size : Int)
           ·rw [if_pos c48] at H
            have c48b0 := eq_true c48
            have c48b1 : decide ((ji42) ≤ (a0.size : Int)) = true := decide_eq_true c48
            clear c48
            by_cases c49 : (a0.size : Int) ≤ (a0.size : Int)
            ·rw [if_pos c49] at H
             have c49b0 := eq_true c49
             have c49b1 : decide ((a0.size : Int) ≤ (a0.size : Int)) = true := decide_eq_true c49
             clear c49
             obtain rfl := Option.some.inj H
             have p40 : 0 ≤ ((ji37) : Int) := of_decide_eq_true (by first | (with_reducible assumption) | assumption)
             have q40 : (ji37) < (a0.size : Int) := of_decide_eq_true (by first | (with_reducible assumption) | assumption)
             have hx40 := bt_at a0 (ji37)
             replace p40 := eq_true p40
             replace q40 := eq_true q40
             have p45 : 0 ≤ ((ji42) : Int) := of_decide_eq_true (by first | (with_reducible assumption) | assumption)
             have q45 : (ji42) < (a0.size : Int) := of_decide_eq_true (by first | (with_reducible assumption) | assumption)
             have hx45 := bt_at a0 (ji42)
             replace p45 := eq_true p45
             replace q45 := eq_true q45
             go_wp2
             go_ret
             exact ⟨by first | rfl | (simp; done) | (simp only [← hji37, ← hji42] <;> (first | rfl | simp)) | (simp [*]; done), by repeat (first | exact Drawn0.refl _ | apply Drawn0.step)⟩
            ·rw [if_neg c49] at H
             exact absurd H (by simp)
           ·rw [if_neg c48] at H
            exact absurd H (by simp)
          ·rw [if_neg c46] at H
           have c46b0 : ((bt a0 (ji42)) == 105) = false := beq_eq_false_iff_ne.mpr c46
           have c46b1 : ((bt a0 (ji42)) != 105) = true := bne_iff_ne.mpr c46
           by_cases c51 : (bt a0 (ji42)) = 102
           ·rw [if_pos c51] at H
            have c51b0 : ((bt a0 (ji42)) == 102) = true := beq_iff_eq.mpr c51
            have c51b1 : ((bt a0 (ji42)) != 102) = false := bne_eq_false_iff_eq.mpr c51
            clear c51
            have c52b0 := eq_true (of_decide_eq_true (by first | (with_reducible assumption) | assumption) : 0 ≤ (ji42))
            by_cases c53 : (ji42) ≤ (a0.size : Int)
            ·rw [if_pos c53] at H
             have c53b0 := eq_true c53
             have c53b1 : decide ((ji42) ≤ (a0.size : Int)) = true := decide_eq_true c53
             clear c53
             by_cases c54 : (a0.size : Int) ≤ (a0.size : Int)
             ·rw [if_pos c54] at H
              have c54b0 := eq_true c54
              have c54b1 : decide ((a0.size : Int) ≤ (a0.size : Int)) = true := decide_eq_true c54
              clear c54
              obtain rfl := Option.some.inj H
              have p40 : 0 ≤ ((ji37) : Int) := of_decide_eq_true (by first | (with_reducible assumption) | assumption)
              have q40 : (ji37) < (a0.size : Int) := of_decide_eq_true (by first | (with_reducible assumption) | assumption)
              have hx40 := bt_at a0 (ji37)
              replace p40 := eq_true p40
              replace q40 := eq_true q40
              have p45 : 0 ≤ ((ji42) : Int) := of_decide_eq_true (by first | (with_reducible assumption) | assumption)
              have q45 : (ji42) < (a0.size : Int) := of_decide_eq_true (by first | (with_reducible assumption) | assumption)
              have hx45 := bt_at a0 (ji42)
              replace p45 := eq_true p45
              replace q45 := eq_true q45
              have p50 : 0 ≤ ((ji42) : Int) := of_decide_eq_true (by first | (with_reducible assumption) | assumption)
              have q50 : (ji42) < (a0.size : Int) := of_decide_eq_true (by first | (with_reducible assumption) | assumption)
              have hx50 := bt_at a0 (ji42)
              replace p50 := eq_true p50
              replace q50 := eq_true q50
              go_wp2
              go_ret
              exact ⟨by first | rfl | (simp; done) | (simp only [← hji37, ← hji42] <;> (first | rfl | simp)) | (simp [*]; done), by repeat (first | exact Drawn0.refl _ | apply Drawn0.step)⟩
             ·rw [if_neg c54] at H
              exact absurd H (by simp)
            ·rw [if_neg c53] at H
             exact absurd H (by simp)
           ·rw [if_neg c51] at H
            have c51b0 : ((bt a0 (ji42)) == 102) = false := beq_eq_false_iff_ne.mpr c51
            have c51b1 : ((bt a0 (ji42)) != 102) = true := bne_iff_ne.mpr c51
            by_cases c55 : 0 ≤ 3
            ·rw [if_pos c55] at H
             have c55b0 := eq_true c55
             have c55b1 : decide (0 ≤ 3) = true := decide_eq_true c55
             clear c55
             by_cases c56 : 3 ≤ (a0.size : Int)
             ·rw [if_pos c56] at H
              have c56b0 := eq_true c56
              have c56b1 : decide (3 ≤ (a0.size : Int)) = true := decide_eq_true c56
              clear c56
              obtain rfl := Option.some.inj H
              have p40 : 0 ≤ ((ji37) : Int) := of_decide_eq_true (by first | (with_reducible assumption) | assumption)
              have q40 : (ji37) < (a0.size : Int) := of_decide_eq_true (by first | (with_reducible assumption) | assumption)
              have hx40 := bt_at a0 (ji37)
              replace p40 := eq_true p40
              replace q40 := eq_true q40
              have p45 : 0 ≤ ((ji42) : Int) := of_decide_eq_true (by first | (with_reducible assumption) | assumption)
              have q45 : (ji42) < (a0.size : Int) := of_decide_eq_true (by first | (with_reducible assumption) | assumption)
              have hx45 := bt_at a0 (ji42)
              replace p45 := eq_true p45
              replace q45 := eq_true q45
              have p50 : 0 ≤ ((ji42) : Int) := of_decide_eq_true (by first | (with_reducible assumption) | assumption)
              have q50 : (ji42) < (a0.size : Int) := of_decide_eq_true (by first | (with_reducible assumption) | assumption)
              have hx50 := bt_at a0 (ji42)
              replace p50 := eq_true p50
              replace q50 := eq_true q50
              go_wp2
              go_ret
              exact ⟨by first | rfl | (simp; done) | (simp only [← hji37, ← hji42] <;> (first | rfl | simp)) | (simp [*]; done), by repeat (first | exact Drawn0.refl _ | apply Drawn0.step)⟩
             ·rw [if_neg c56] at H
              exact absurd H (by simp)
            ·rw [if_neg c55] at H
             exact absurd H (by simp)
         ·rw [if_neg c44] at H
          exact absurd H (by simp)
        ·rw [if_neg c43] at H
         exact absurd H (by simp)
       ·rw [if_neg c41] at H
        have c41b0 : ((bt a0 (ji37)) == 95) = false := beq_eq_false_iff_ne.mpr c41
        have c41b1 : ((bt a0 (ji37)) != 95) = true := bne_iff_ne.mpr c41
        by_cases c57 : 0 ≤ 3
        ·rw [if_pos c57] at H
         have c57b0 := eq_true c57
         have c57b1 : decide (0 ≤ 3) = true := decide_eq_true c57
         clear c57
         by_cases c58 : 3 ≤ (a0.size : Int)
         ·rw [if_pos c58] at H
          have c58b0 := eq_true c58
          have c58b1 : decide (3 ≤ (a0.size : Int)) = true := decide_eq_true c58
          clear c58
          obtain rfl := Option.some.inj H
          have p40 : 0 ≤ ((ji37) : Int) := of_decide_eq_true (by first | (with_reducible assumption) | assumption)
          have q40 : (ji37) < (a0.size : Int) := of_decide_eq_true (by first | (with_reducible assumption) | assumption)
          have hx40 := bt_at a0 (ji37)
          replace p40 := eq_true p40
          replace q40 := eq_true q40
          go_wp2
          go_ret
          exact ⟨by first | rfl | (simp; done) | (simp only [← hji37] <;> (first | rfl | simp)) | (simp [*]; done), by repeat (first | exact Drawn0.refl _ | apply Drawn0.step)⟩
         ·rw [if_neg c58] at H
          exact absurd H (by simp)
        ·rw [if_neg c57] at H
         exact absurd H (by simp)
      ·rw [if_neg c39] at H
       exact absurd H (by simp)
     ·rw [if_neg c38] at H
      exact absurd H (by simp)
    ·rw [if_neg c36] at H
     have c36b0 : decide (4 < (a0.size : Int)) = false := decide_eq_false c36
     have c36b1 : decide (4 < a0.size) = false := decide_eq_false (by omega)
     clear c36
     by_cases c59 : 0 ≤ 3
     ·rw [if_pos c59] at H
      have c59b0 := eq_true c59
      have c59b1 : decide (0 ≤ 3) = true := decide_eq_true c59
      clear c59
      by_cases c60 : 3 ≤ (a0.size : Int)
      ·rw [if_pos c60] at H
       have c60b0 := eq_true c60
       have c60b1 : decide (3 ≤ (a0.size : Int)) = true := decide_eq_true c60
       clear c60
       obtain rfl := Option.some.inj H
       go_wp2
       go_ret
       exact ⟨sm_, by repeat (first | exact Drawn0.refl _ | apply Drawn0.step)⟩
      ·rw [if_neg c60] at H
       exact absurd H (by simp)
     ·rw [if_neg c59] at H
      exact absurd H (by simp)
def trunnionref14_Type.f (a0 : ByteArray) : Option (Int) := if a0.toList = ([105, 51, 50] : List UInt8) then (some 127) else (if a0.toList = ([105, 54, 52] : List UInt8) then (some 126) else (if a0.toList = ([102, 51, 50] : List UInt8) then (some 125) else (some 124)))
theorem trunnionref14_Type.calls (a0 : ByteArray) (r : Int) (w : World) (h : trunnionref14_Type.f a0 = some r) :
  Calls Tryz.prog 58 #[.string a0] w fun e w' => e = .returned (.int .u8 r) ∧ Drawn0 w w' := by
 have H : (if a0.toList = ([105, 51, 50] : List UInt8) then (some 127) else (if a0.toList = ([105, 54, 52] : List UInt8) then (some 126) else (if a0.toList = ([102, 51, 50] : List UInt8) then (some 125) else (some 124)))) = some r := h
 clear h
 by_cases c2 : a0.toList = ([105, 51, 50] : List UInt8)
 ·rw [if_pos c2] at H
  have c2b0 : (a0.toList == ([105, 51, 50] : List UInt8)) = true := beq_iff_eq.mpr c2
  have c2b1 : (a0.toList != ([105, 51, 50] : List UInt8)) = false := bne_eq_false_iff_eq.mpr c2
  clear c2
  obtain rfl := Option.some.inj H
  go_enter Tryz.func58, Tryz.ntmps58
  go_wp2
  go_ret
  exact ⟨sm_, by repeat (first | exact Drawn0.refl _ | apply Drawn0.step)⟩
 ·rw [if_neg c2] at H
  have c2b0 : (a0.toList == ([105, 51, 50] : List UInt8)) = false := beq_eq_false_iff_ne.mpr c2
  have c2b1 : (a0.toList != ([105, 51, 50] : List UInt8)) = true := bne_iff_ne.mpr c2
  by_cases c3 : a0.toList = ([105, 54, 52] : List UInt8)
  ·rw [if_pos c3] at H
   have c3b0 : (a0.toList == ([105, 54, 52] : List UInt8)) = true := beq_iff_eq.mpr c3
   have c3b1 : (a0.toList != ([105, 54, 52] : List UInt8)) = false := bne_eq_false_iff_eq.mpr c3
   clear c3
   obtain rfl := Option.some.inj H
   go_enter Tryz.func58, Tryz.ntmps58
   go_wp2
   go_ret
   exact ⟨sm_, by repeat (first | exact Drawn0.refl _ | apply Drawn0.step)⟩
  ·rw [if_neg c3] at H
   have c3b0 : (a0.toList == ([105, 54, 52] : List UInt8)) = false := beq_eq_false_iff_ne.mpr c3
   have c3b1 : (a0.toList != ([105, 54, 52] : List UInt8)) = true := bne_iff_ne.mpr c3
   by_cases c4 : a0.toList = ([102, 51, 50] : List UInt8)
   ·rw [if_pos c4] at H
    have c4b0 : (a0.toList == ([102, 51, 50] : List UInt8)) = true := beq_iff_eq.mpr c4
    have c4b1 : (a0.toList != ([102, 51, 50] : List UInt8)) = false := bne_eq_false_iff_eq.mpr c4
    clear c4
    obtain rfl := Option.some.inj H
    go_enter Tryz.func58, Tryz.ntmps58
    go_wp2
    go_ret
    exact ⟨sm_, by repeat (first | exact Drawn0.refl _ | apply Drawn0.step)⟩
   ·rw [if_neg c4] at H
    have c4b0 : (a0.toList == ([102, 51, 50] : List UInt8)) = false := beq_eq_false_iff_ne.mpr c4
    have c4b1 : (a0.toList != ([102, 51, 50] : List UInt8)) = true := bne_iff_ne.mpr c4
    obtain rfl := Option.some.inj H
    go_enter Tryz.func58, Tryz.ntmps58
    go_wp2
    go_ret
    exact ⟨sm_, by repeat (first | exact Drawn0.refl _ | apply Drawn0.step)⟩
def trunnionref14_in.l0 : Nat → List ByteArray → ByteArray → Int → Option (Bool)
 | 0, _, _, _ => none
 | k + 1, x0, x1, x5 => if x5 < (x0.length : Int) then (if 0 ≤ x5 then (if (rdOf ByteArray.empty x0 x5).toList = x1.toList then (some true) else (trunnionref14_in.l0 k x0 x1 (wrap64 (x5 + 1)))) else (none)) else (some false)
def trunnionref14_in.f (k : Nat) (l0 : List ByteArray) (a1 : ByteArray) : Option (Bool) := trunnionref14_in.l0 k l0 a1 0
theorem trunnionref14_in.mono_l : ∀ k, (∀ y0 y1 y2, LeO (trunnionref14_in.l0 k y0 y1 y2) (trunnionref14_in.l0 (k + 1) y0 y1 y2))
 | 0 => fun _ _ _ r h => by simp [trunnionref14_in.l0] at h
 | k + 1 => by
  have ih0 := trunnionref14_in.mono_l k
  ·intro y0 y1 y2
   unfold trunnionref14_in.l0
   repeat' first
   | (with_reducible exact ih0 _ _ _)
   | (with_reducible exact LeO.refl _)
   | (with_reducible exact LeO.none _)
   | (with_reducible refine LeO.ite ?_ ?_)
   | (with_reducible refine LeO.bind ?_ (fun _ => ?_))
   | exact ih0 _ _ _
   | exact LeO.none _
   | refine LeO.ite ?_ ?_
   | refine LeO.bind ?_ (fun _ => ?_)
theorem trunnionref14_in.mono : ∀ a0 a1 k, LeO (trunnionref14_in.f k a0 a1) (trunnionref14_in.f (k + 1) a0 a1) := by
 intro a0 a1 k
 have ih0 := trunnionref14_in.mono_l k
 unfold trunnionref14_in.f
 repeat' first
   | (with_reducible exact ih0 _ _ _)
   | (with_reducible exact LeO.refl _)
   | (with_reducible exact LeO.none _)
   | (with_reducible refine LeO.ite ?_ ?_)
   | (with_reducible refine LeO.bind ?_ (fun _ => ?_))
   | exact ih0 _ _ _
   | exact LeO.none _
   | refine LeO.ite ?_ ?_
   | refine LeO.bind ?_ (fun _ => ?_)
theorem trunnionref14_in.calls (k : Nat) (A0 : Option Addr) (c0 : Nat) (l0 : List ByteArray) (a1 : ByteArray) (r : Bool) (w : World) (hr0 : Kd.C Kd.string w A0 l0.length l0) (hc0 : l0.length ≤ c0) (h : trunnionref14_in.f k l0 a1 = some r) :
  Calls Tryz.prog 55 #[.slice A0 l0.length c0, .string a1] w fun e w' => e = .returned (.bool r) ∧ Drawn0 w w' := by
 have HR0 := A_ hr0;have HC0 := A_ hc0;clear hr0 hc0
 have H : (trunnionref14_in.l0 k l0 a1 0) = some r := h
 clear h
 have H' := A_ H
 clear H
 go_enter Tryz.func55, Tryz.ntmps55
 go_wp2
 go_loopg [5] k (fun kq v5 w' => ∃ (x5_1 : Int), v5 = .int .i64 x5_1 ∧ Aside0 (trunnionref14_in.l0 kq l0 a1 x5_1 = some r) ∧ Aside0 (kq ≤ k) ∧ Drawn0 w w')
 case atStart => exact ⟨(0), sm_, H', ⟨Nat.le_refl _⟩, by repeat (first | exact Drawn0.refl _ | apply Drawn0.step)⟩
 case round =>
  clear H'
  try clear p2
  obtain ⟨x5_1, rfl, HA, HK1, ⟨m1, rfl⟩⟩ := hrel
  cases gk with
  | zero => exact absurd HA.out (by simp [trunnionref14_in.l0])
  | succ k1 =>
   have H := HA.out
   clear HA
   simp only [trunnionref14_in.l0] at H
   by_cases c3 : x5_1 < (l0.length : Int)
   ·rw [if_pos c3] at H
    have c3b0 : decide (x5_1 < (l0.length : Int)) = true := decide_eq_true c3
    clear c3
    by_cases c4 : 0 ≤ x5_1
    ·rw [if_pos c4] at H
     have c4b0 : decide (0 ≤ x5_1) = true := decide_eq_true c4
     clear c4
     by_cases c5 : (rdOf ByteArray.empty l0 x5_1).toList = a1.toList
     ·rw [if_pos c5] at H
      have c5b0 : ((rdOf ByteArray.empty l0 x5_1).toList == a1.toList) = true := beq_iff_eq.mpr c5
      have c5b1 : ((rdOf ByteArray.empty l0 x5_1).toList != a1.toList) = false := bne_eq_false_iff_eq.mpr c5
      clear c5
      obtain rfl := Option.some.inj H
      have p643 : 0 ≤ (x5_1 : Int) := of_decide_eq_true (by first | (with_reducible assumption) | assumption)
      have q643 : x5_1 < (l0.length : Int) := of_decide_eq_true (by first | (with_reducible assumption) | assumption)
      obtain ⟨ad643, e643, hx643_0⟩ := Kd.at_string HR0.out x5_1 p643 q643
      cases e643
      replace p643 := eq_true p643
      replace q643 := eq_true q643
      go_wp2
      go_ret
      exact ⟨sm_, by repeat (first | exact Drawn0.refl _ | apply Drawn0.step)⟩
     ·rw [if_neg c5] at H
      have c5b0 : ((rdOf ByteArray.empty l0 x5_1).toList == a1.toList) = false := beq_eq_false_iff_ne.mpr c5
      have c5b1 : ((rdOf ByteArray.empty l0 x5_1).toList != a1.toList) = true := bne_iff_ne.mpr c5
      have H' := A_ H
      clear H
      have p643 : 0 ≤ (x5_1 : Int) := of_decide_eq_true (by first | (with_reducible assumption) | assumption)
      have q643 : x5_1 < (l0.length : Int) := of_decide_eq_true (by first | (with_reducible assumption) | assumption)
      obtain ⟨ad643, e643, hx643_0⟩ := Kd.at_string HR0.out x5_1 p643 q643
      cases e643
      replace p643 := eq_true p643
      replace q643 := eq_true q643
      go_wp2
      go_roundg k1
      case measure => have := HK1.out; omega
      case rel => exact ⟨(wrap64 (x5_1 + 1)), sm_, H', ⟨by have := HK1.out; omega⟩, by repeat (first | exact Drawn0.refl _ | apply Drawn0.step)⟩
    ·rw [if_neg c4] at H
     exact absurd H (by simp)
   ·rw [if_neg c3] at H
    have c3b0 : decide (x5_1 < (l0.length : Int)) = false := decide_eq_false c3
    clear c3
    obtain rfl := Option.some.inj H
    go_wp2
    go_ret
    exact ⟨sm_, by repeat (first | exact Drawn0.refl _ | apply Drawn0.step)⟩
mutual
def trunnionref14_Kind.j0 : Nat → ByteArray → ByteArray → ByteArray → ByteArray → Int → Bool → Option (Int × Int × Int)
 | 0, _, _, _, _, _, _ => none
 | k + 1, x5, x6, x7, x8, x9, x26 => if x26 = true then (trunnionref14_Kind.j1 k x5 x6 x7 (⟨#[105, 51, 50]⟩ : ByteArray) x9) else (trunnionref14_Kind.j1 k x5 x6 x7 x8 x9)
def trunnionref14_Kind.j1 : Nat → ByteArray → ByteArray → ByteArray → ByteArray → Int → Option (Int × Int × Int)
 | 0, _, _, _, _, _ => none
 | k + 1, x5, x6, x7, x8, x9 => (trunnionref14_Operand.f k x5).bind fun t653 => (if t653.toList = x6.toList then ((trunnionref14_in.f k (([(⟨#[101, 113, 122]⟩ : ByteArray), (⟨#[99, 108, 122]⟩ : ByteArray), (⟨#[99, 116, 122]⟩ : ByteArray), (⟨#[112, 111, 112, 99, 110, 116]⟩ : ByteArray), (⟨#[97, 98, 115]⟩ : ByteArray), (⟨#[110, 101, 103]⟩ : ByteArray), (⟨#[99, 101, 105, 108]⟩ : ByteArray), (⟨#[102, 108, 111, 111, 114]⟩ : ByteArray), (⟨#[116, 114, 117, 110, 99]⟩ : ByteArray), (⟨#[110, 101, 97, 114, 101, 115, 116]⟩ : ByteArray), (⟨#[115, 113, 114, 116]⟩ : ByteArray)] : List ByteArray)) x7).bind fun t657 => (trunnionref14_Kind.j2 k x5 x8 x9 t657)) else (trunnionref14_Kind.j2 k x5 x8 x9 true))
def trunnionref14_Kind.j2 : Nat → ByteArray → ByteArray → Int → Bool → Option (Int × Int × Int)
 | 0, _, _, _, _ => none
 | k + 1, x5, x8, x9, x35 => if x35 = true then ((trunnionref14_Operand.f k x5).bind fun t658 => ((trunnionref14_Type.f t658).bind fun t659 => ((trunnionref14_Type.f x8).bind fun t660 => (some (t659, 1, t660))))) else ((trunnionref14_Operand.f k x5).bind fun t661 => ((trunnionref14_Type.f t661).bind fun t662 => ((trunnionref14_Type.f x8).bind fun t663 => (some (t662, x9, t663)))))
end
def trunnionref14_Kind.f (k : Nat) (a0 : Int) : Option (Int × Int × Int) := (trunnionref14_Name.f k a0).bind fun t644 => (if t644.toList = ([] : List UInt8) then (some (0, 0, 0)) else (if 0 ≤ 3 then (if 3 ≤ (t644.size : Int) then (if 4 ≤ (t644.size : Int) then ((trunnionref14_relations.f).bind fun t645 => ((trunnionref14_in.f k t645 (t644.extract 4 t644.size)).bind fun t648 => (if t648 = true then (trunnionref14_Kind.j0 k t644 (t644.extract 0 3) (t644.extract 4 t644.size) (t644.extract 0 3) 2 true) else ((trunnionref14_floats.f).bind fun t649 => ((trunnionref14_in.f k t649 (t644.extract 4 t644.size)).bind fun t652 => (trunnionref14_Kind.j0 k t644 (t644.extract 0 3) (t644.extract 4 t644.size) (t644.extract 0 3) 2 t652)))))) else (none)) else (none)) else (none)))
theorem trunnionref14_Kind.mono_l : ∀ k, (∀ y0 y1 y2 y3 y4 y5, LeO (trunnionref14_Kind.j0 k y0 y1 y2 y3 y4 y5) (trunnionref14_Kind.j0 (k + 1) y0 y1 y2 y3 y4 y5)) ∧ (∀ y0 y1 y2 y3 y4, LeO (trunnionref14_Kind.j1 k y0 y1 y2 y3 y4) (trunnionref14_Kind.j1 (k + 1) y0 y1 y2 y3 y4)) ∧ (∀ y0 y1 y2 y3, LeO (trunnionref14_Kind.j2 k y0 y1 y2 y3) (trunnionref14_Kind.j2 (k + 1) y0 y1 y2 y3))
 | 0 => ⟨fun _ _ _ _ _ _ r h => by simp [trunnionref14_Kind.j0] at h, fun _ _ _ _ _ r h => by simp [trunnionref14_Kind.j1] at h, fun _ _ _ _ r h => by simp [trunnionref14_Kind.j2] at h⟩
 | k + 1 => by
  obtain ⟨ih0, ih1, ih2⟩ := trunnionref14_Kind.mono_l k
  refine ⟨?_, ?_, ?_⟩
  ·intro y0 y1 y2 y3 y4 y5
   unfold trunnionref14_Kind.j0
   repeat' first
   | (with_reducible exact ih0 _ _ _ _ _ _)
   | (with_reducible exact ih1 _ _ _ _ _)
   | (with_reducible exact ih2 _ _ _ _)
   | (with_reducible exact trunnionref14_Name.mono _ _)
   | (with_reducible exact trunnionref14_Operand.mono _ _)
   | (with_reducible exact trunnionref14_in.mono _ _ _)
   | (with_reducible exact LeO.refl _)
   | (with_reducible exact LeO.none _)
   | (with_reducible refine LeO.ite ?_ ?_)
   | (with_reducible refine LeO.bind ?_ (fun _ => ?_))
   | exact ih0 _ _ _ _ _ _
   | exact ih1 _ _ _ _ _
   | exact ih2 _ _ _ _
   | exact trunnionref14_Name.mono _ _
   | exact trunnionref14_Operand.mono _ _
   | exact trunnionref14_in.mono _ _ _
   | exact LeO.none _
   | refine LeO.ite ?_ ?_
   | refine LeO.bind ?_ (fun _ => ?_)
  ·intro y0 y1 y2 y3 y4
   unfold trunnionref14_Kind.j1
   repeat' first
   | (with_reducible exact ih0 _ _ _ _ _ _)
   | (with_reducible exact ih1 _ _ _ _ _)
   | (with_reducible exact ih2 _ _ _ _)
   | (with_reducible exact trunnionref14_Name.mono _ _)
   | (with_reducible exact trunnionref14_Operand.mono _ _)
   | (with_reducible exact trunnionref14_in.mono _ _ _)
   | (with_reducible exact LeO.refl _)
   | (with_reducible exact LeO.none _)
   | (with_reducible refine LeO.ite ?_ ?_)
   | (with_reducible refine LeO.bind ?_ (fun _ => ?_))
   | exact ih0 _ _ _ _ _ _
   | exact ih1 _ _ _ _ _
   | exact ih2 _ _ _ _
   | exact trunnionref14_Name.mono _ _
   | exact trunnionref14_Operand.mono _ _
   | exact trunnionref14_in.mono _ _ _
   | exact LeO.none _
   | refine LeO.ite ?_ ?_
   | refine LeO.bind ?_ (fun _ => ?_)
  ·intro y0 y1 y2 y3
   unfold trunnionref14_Kind.j2
   repeat' first
   | (with_reducible exact ih0 _ _ _ _ _ _)
   | (with_reducible exact ih1 _ _ _ _ _)
   | (with_reducible exact ih2 _ _ _ _)
   | (with_reducible exact trunnionref14_Name.mono _ _)
   | (with_reducible exact trunnionref14_Operand.mono _ _)
   | (with_reducible exact trunnionref14_in.mono _ _ _)
   | (with_reducible exact LeO.refl _)
   | (with_reducible exact LeO.none _)
   | (with_reducible refine LeO.ite ?_ ?_)
   | (with_reducible refine LeO.bind ?_ (fun _ => ?_))
   | exact ih0 _ _ _ _ _ _
   | exact ih1 _ _ _ _ _
   | exact ih2 _ _ _ _
   | exact trunnionref14_Name.mono _ _
   | exact trunnionref14_Operand.mono _ _
   | exact trunnionref14_in.mono _ _ _
   | exact LeO.none _
   | refine LeO.ite ?_ ?_
   | refine LeO.bind ?_ (fun _ => ?_)
theorem trunnionref14_Kind.mono : ∀ a0 k, LeO (trunnionref14_Kind.f k a0) (trunnionref14_Kind.f (k + 1) a0) := by
 intro a0 k
 obtain ⟨ih0, ih1, ih2⟩ := trunnionref14_Kind.mono_l k
 unfold trunnionref14_Kind.f
 repeat' first
   | (with_reducible exact ih0 _ _ _ _ _ _)
   | (with_reducible exact ih1 _ _ _ _ _)
   | (with_reducible exact ih2 _ _ _ _)
   | (with_reducible exact trunnionref14_Name.mono _ _)
   | (with_reducible exact trunnionref14_Operand.mono _ _)
   | (with_reducible exact trunnionref14_in.mono _ _ _)
   | (with_reducible exact LeO.refl _)
   | (with_reducible exact LeO.none _)
   | (with_reducible refine LeO.ite ?_ ?_)
   | (with_reducible refine LeO.bind ?_ (fun _ => ?_))
   | exact ih0 _ _ _ _ _ _
   | exact ih1 _ _ _ _ _
   | exact ih2 _ _ _ _
   | exact trunnionref14_Name.mono _ _
   | exact trunnionref14_Operand.mono _ _
   | exact trunnionref14_in.mono _ _ _
   | exact LeO.none _
   | refine LeO.ite ?_ ?_
   | refine LeO.bind ?_ (fun _ => ?_)
theorem trunnionref14_Kind.calls (k : Nat) (a0 : Int) (r1 : Int) (r2 : Int) (r3 : Int) (w : World) (h : trunnionref14_Kind.f k a0 = some (r1, r2, r3)) :
  Calls Tryz.prog 22 #[.int .i64 a0] w fun e w' => e = .returned (.tuple #[.int .u8 r1, .int .i64 r2, .int .u8 r3]) ∧ Below w.heap.size w w' := by
 have HB := A_ (Below.refl w.heap.size w)
 have H : ((trunnionref14_Name.f k a0).bind fun t644 => (if t644.toList = ([] : List UInt8) then (some (0, 0, 0)) else (if 0 ≤ 3 then (if 3 ≤ (t644.size : Int) then (if 4 ≤ (t644.size : Int) then ((trunnionref14_relations.f).bind fun t645 => ((trunnionref14_in.f k t645 (t644.extract 4 t644.size)).bind fun t648 => (if t648 = true then (trunnionref14_Kind.j0 k t644 (t644.extract 0 3) (t644.extract 4 t644.size) (t644.extract 0 3) 2 true) else ((trunnionref14_floats.f).bind fun t649 => ((trunnionref14_in.f k t649 (t644.extract 4 t644.size)).bind fun t652 => (trunnionref14_Kind.j0 k t644 (t644.extract 0 3) (t644.extract 4 t644.size) (t644.extract 0 3) 2 t652)))))) else (none)) else (none)) else (none)))) = some (r1, r2, r3) := h
 clear h
 replace H := ob_ H
 obtain ⟨t644, A20, H⟩ := H
 replace H : (if t644.toList = ([] : List UInt8) then (some (0, 0, 0)) else (if 0 ≤ 3 then (if 3 ≤ (t644.size : Int) then (if 4 ≤ (t644.size : Int) then ((trunnionref14_relations.f).bind fun t645 => ((trunnionref14_in.f k t645 (t644.extract 4 t644.size)).bind fun t648 => (if t648 = true then (trunnionref14_Kind.j0 k t644 (t644.extract 0 3) (t644.extract 4 t644.size) (t644.extract 0 3) 2 true) else ((trunnionref14_floats.f).bind fun t649 => ((trunnionref14_in.f k t649 (t644.extract 4 t644.size)).bind fun t652 => (trunnionref14_Kind.j0 k t644 (t644.extract 0 3) (t644.extract 4 t644.size) (t644.extract 0 3) 2 t652)))))) else (none)) else (none)) else (none))) = some (r1, r2, r3) := H
 have A2 := A_ A20;clear A20
 by_cases c3 : t644.toList = ([] : List UInt8)
 ·rw [if_pos c3] at H
  have c3b0 : (t644.toList == ([] : List UInt8)) = true := beq_iff_eq.mpr c3
  have c3b1 : (t644.toList != ([] : List UInt8)) = false := bne_eq_false_iff_eq.mpr c3
  clear c3
  simp only [Option.some.injEq, Prod.mk.injEq] at H
  obtain ⟨rfl, rfl, rfl⟩ := H
  go_enter Tryz.func22, Tryz.ntmps22
  go_wp2_with (first | ((with_reducible refine gate_callee (f := 45) rfl ?_); refine goesL_ (some 11) rfl rfl Tryz.func45 (by kernel_rfl) rfl #[.int .i64 a0] rfl mp_ ?_; (with_reducible refine (trunnionref14_Name.calls k a0 t644 _ A2.out).mono ?_); rintro e w4 ⟨rfl, hb⟩; refine ⟨_, rfl, ?_⟩; replace HB := A_ (below_step (hb_ HB.out) hb); (try clear hb); (try clear hb2); (try clear hk); (try clear hi)))
  go_ret3
  exact ⟨er_, hb_ HB.out⟩
 ·rw [if_neg c3] at H
  have c3b0 : (t644.toList == ([] : List UInt8)) = false := beq_eq_false_iff_ne.mpr c3
  have c3b1 : (t644.toList != ([] : List UInt8)) = true := bne_iff_ne.mpr c3
  by_cases c5 : 0 ≤ 3
  ·rw [if_pos c5] at H
   have c5b0 := eq_true c5
   have c5b1 : decide (0 ≤ 3) = true := decide_eq_true c5
   clear c5
   by_cases c6 : 3 ≤ (t644.size : Int)
   ·rw [if_pos c6] at H
    have c6b0 := eq_true c6
    have c6b1 : decide (3 ≤ (t644.size : Int)) = true := decide_eq_true c6
    clear c6
    by_cases c7 : 4 ≤ (t644.size : Int)
    ·rw [if_pos c7] at H
     have c7b0 := eq_true c7
     have c7b1 : decide (4 ≤ (t644.size : Int)) = true := decide_eq_true c7
     clear c7;have HC8 := A_ H;clear H
     go_enter Tryz.func22, Tryz.ntmps22
     go_upto_region 8 with (first | ((with_reducible refine gate_callee (f := 45) rfl ?_); refine goesL_ (some 11) rfl rfl Tryz.func45 (by kernel_rfl) rfl #[.int .i64 a0] rfl mp_ ?_; (with_reducible refine (trunnionref14_Name.calls k a0 t644 _ A2.out).mono ?_); rintro e w9 ⟨rfl, hb⟩; refine ⟨_, rfl, ?_⟩; replace HB := A_ (below_step (hb_ HB.out) hb); (try clear hb); (try clear hb2); (try clear hk); (try clear hi)))
     (try simp only [Act.put, lI_, l0_, lS_])
     go_cut [26] (fun v26 wc => ∃ (kq : Nat) (x26_7 : Bool), v26 = .bool x26_7 ∧ Aside0 (trunnionref14_Kind.j0 kq t644 (t644.extract 0 3) (t644.extract 4 t644.size) (t644.extract 0 3) 2 x26_7 = some (r1, r2, r3)) ∧ Aside0 (kq ≤ k) ∧ Aside0 (Below w.heap.size w wc))
     case first =>
      have H := HC8.out
      clear HC8
      replace H := ob_ H
      obtain ⟨t645, A100, H⟩ := H
      replace H : ((trunnionref14_in.f k t645 (t644.extract 4 t644.size)).bind fun t648 => (if t648 = true then (trunnionref14_Kind.j0 k t644 (t644.extract 0 3) (t644.extract 4 t644.size) (t644.extract 0 3) 2 true) else ((trunnionref14_floats.f).bind fun t649 => ((trunnionref14_in.f k t649 (t644.extract 4 t644.size)).bind fun t652 => (trunnionref14_Kind.j0 k t644 (t644.extract 0 3) (t644.extract 4 t644.size) (t644.extract 0 3) 2 t652))))) = some (r1, r2, r3) := H
      have A10 := A_ A100;clear A100
      replace H := ob_ H
      obtain ⟨t648, A110, H⟩ := H
      replace H : (if t648 = true then (trunnionref14_Kind.j0 k t644 (t644.extract 0 3) (t644.extract 4 t644.size) (t644.extract 0 3) 2 true) else ((trunnionref14_floats.f).bind fun t649 => ((trunnionref14_in.f k t649 (t644.extract 4 t644.size)).bind fun t652 => (trunnionref14_Kind.j0 k t644 (t644.extract 0 3) (t644.extract 4 t644.size) (t644.extract 0 3) 2 t652)))) = some (r1, r2, r3) := H
      have A11 := A_ A110;clear A110
      by_cases c12 : t648 = true
      ·subst c12
       have H1 : (trunnionref14_Kind.j0 k t644 (t644.extract 0 3) (t644.extract 4 t644.size) (t644.extract 0 3) 2 true) = some (r1, r2, r3) := by rw [if_pos rfl] at H; exact H
       clear H;have H := H1;clear H1
       have H' := A_ H
       clear H
       go_wp2_with (first | ((with_reducible refine gate_callee (f := 56) rfl ?_); refine goesL_ (some 19) rfl rfl Tryz.func56 (by kernel_rfl) rfl #[] rfl mp_ ?_; (with_reducible refine (trunnionref14_relations.calls  t645 _ A10.out).mono ?_); rintro e w13 ⟨v646, rfl, ho0, hb⟩; refine ⟨_, rfl, ?_⟩; have HO647 := A_ (Kd.R_lower ho0 (below_size (hb_ HB.out))); replace HB := A_ (below_step (hb_ HB.out) hb); (try clear hb); (try clear hb2); (try clear hk); (try clear hi); (try clear ho0); obtain ⟨Ao14, co14, eo14⟩ := Kd.R_slice HO647.out; subst eo14) | ((with_reducible refine gate_callee (f := 55) rfl ?_); refine goesL_ (some 21) rfl rfl Tryz.func55 (by kernel_rfl) rfl #[.slice Ao14 t645.length co14, .string (t644.extract 4 t644.size)] rfl mp_ ?_; (with_reducible refine (trunnionref14_in.calls k _ _ t645 (t644.extract 4 t644.size) true _ ?side1 ?side2 A11.out).mono ?_); (case side1 => exact cs_ ((Kd.R_reads' HO647.out).2.2)); (case side2 => exact (Kd.R_reads' HO647.out).2.1); rintro e w' ⟨rfl, ⟨nd, rfl⟩⟩; refine ⟨_, rfl, ?_⟩))
       go_meet
       case rel => exact ⟨_, (true), sm_, H', ⟨by first | omega | exact Nat.le_refl _⟩, ⟨hb_ HB.out⟩⟩
      ·replace c12 := Bool.eq_false_iff.mpr c12
       subst c12
       have H1 : ((trunnionref14_floats.f).bind fun t649 => ((trunnionref14_in.f k t649 (t644.extract 4 t644.size)).bind fun t652 => (trunnionref14_Kind.j0 k t644 (t644.extract 0 3) (t644.extract 4 t644.size) (t644.extract 0 3) 2 t652))) = some (r1, r2, r3) := by rw [if_neg (show ¬ (false = true) by decide)] at H; exact H
       clear H;have H := H1;clear H1
       replace H := ob_ H
       obtain ⟨t649, A150, H⟩ := H
       replace H : ((trunnionref14_in.f k t649 (t644.extract 4 t644.size)).bind fun t652 => (trunnionref14_Kind.j0 k t644 (t644.extract 0 3) (t644.extract 4 t644.size) (t644.extract 0 3) 2 t652)) = some (r1, r2, r3) := H
       have A15 := A_ A150;clear A150
       replace H := ob_ H
       obtain ⟨t652, A160, H⟩ := H
       replace H : (trunnionref14_Kind.j0 k t644 (t644.extract 0 3) (t644.extract 4 t644.size) (t644.extract 0 3) 2 t652) = some (r1, r2, r3) := H
       have A16 := A_ A160;clear A160
       have H' := A_ H
       clear H
       go_wp2_with (first | ((with_reducible refine gate_callee (f := 56) rfl ?_); refine goesL_ (some 19) rfl rfl Tryz.func56 (by kernel_rfl) rfl #[] rfl mp_ ?_; (with_reducible refine (trunnionref14_relations.calls  t645 _ A10.out).mono ?_); rintro e w17 ⟨v646, rfl, ho0, hb⟩; refine ⟨_, rfl, ?_⟩; have HO647 := A_ (Kd.R_lower ho0 (below_size (hb_ HB.out))); replace HB := A_ (below_step (hb_ HB.out) hb); (try clear hb); (try clear hb2); (try clear hk); (try clear hi); (try clear ho0); obtain ⟨Ao18, co18, eo18⟩ := Kd.R_slice HO647.out; subst eo18) | ((with_reducible refine gate_callee (f := 55) rfl ?_); refine goesL_ (some 21) rfl rfl Tryz.func55 (by kernel_rfl) rfl #[.slice Ao18 t645.length co18, .string (t644.extract 4 t644.size)] rfl mp_ ?_; (with_reducible refine (trunnionref14_in.calls k _ _ t645 (t644.extract 4 t644.size) false _ ?side1 ?side2 A11.out).mono ?_); (case side1 => exact cs_ ((Kd.R_reads' HO647.out).2.2)); (case side2 => exact (Kd.R_reads' HO647.out).2.1); rintro e w' ⟨rfl, ⟨nd, rfl⟩⟩; refine ⟨_, rfl, ?_⟩) | (go_at_call 57; (with_reducible refine (trunnionref14_floats.calls  t649 _ A15.out).mono ?_); rintro e w19 ⟨v650, rfl, ho0, hb⟩; have HO651 := A_ (Kd.R_lower (Kd.R_new' ho0 (Kd.R_lt (kr_ HO647.out))) (below_size (hb_ HB.out))); replace HO647 := A_ (Kd.R_elder' (kr_ HO647.out) (Kd.R_base ho0) hb); replace HB := A_ (below_step (hb_ HB.out) hb); (try clear hb); (try clear hb2); (try clear hk); (try clear hi); (try clear ho0); obtain ⟨Ao20, co20, eo20⟩ := Kd.R_slice HO651.out; subst eo20) | (go_at_call 55; (with_reducible refine (trunnionref14_in.calls k _ _ t649 (t644.extract 4 t644.size) t652 _ ?side1 ?side2 A16.out).mono ?_); (case side1 => exact cs_ ((Kd.R_reads' HO651.out).2.2)); (case side2 => exact (Kd.R_reads' HO651.out).2.1); rintro e w' ⟨rfl, ⟨nd, rfl⟩⟩))
       go_meet
       case rel => exact ⟨_, (t652), sm_, H', ⟨by first | omega | exact Nat.le_refl _⟩, ⟨hb_ HB.out⟩⟩
     case rest =>
      clear HC8
      try clear c1
      try clear c2
      try clear p2
      try clear c3
      try clear c3b0
      try clear c3b1
      try clear c4
      try clear c5
      try clear c5b0
      try clear c5b1
      try clear c6
      try clear c6b0
      try clear c6b1
      try clear c7
      try clear c7b0
      try clear c7b1
      try clear c12
      obtain ⟨kq, x26_7, rfl, HA, HJ7, HB⟩ := hcut
      cases kq with
      | zero => exact absurd HA.out (by simp [trunnionref14_Kind.j0])
      | succ kj7 =>
       have H := HA.out
       clear HA
       simp only [trunnionref14_Kind.j0] at H
       have HC21 := A_ H;clear H
       go_upto_if 26 with (fail)
       go_cut [8] (fun v8 wc => ∃ (kq : Nat) (x8_20 : ByteArray), v8 = .string x8_20 ∧ Aside0 (trunnionref14_Kind.j1 kq t644 (t644.extract 0 3) (t644.extract 4 t644.size) x8_20 2 = some (r1, r2, r3)) ∧ Aside0 (kq ≤ kj7) ∧ Aside0 (Below w.heap.size w wc))
       case first =>
        have H := HC21.out
        clear HC21
        by_cases c22 : x26_7 = true
        ·subst c22
         have H1 : (trunnionref14_Kind.j1 kj7 t644 (t644.extract 0 3) (t644.extract 4 t644.size) (⟨#[105, 51, 50]⟩ : ByteArray) 2) = some (r1, r2, r3) := by rw [if_pos rfl] at H; exact H
         clear H;have H := H1;clear H1
         have H' := A_ H
         clear H
         go_wp2
         go_meet
         case rel => exact ⟨_, ((⟨#[105, 51, 50]⟩ : ByteArray)), sm_, H', ⟨by have := HJ7.out; first | omega | exact Nat.le_refl _⟩, ⟨hb_ HB.out⟩⟩
        ·replace c22 := Bool.eq_false_iff.mpr c22
         subst c22
         have H1 : (trunnionref14_Kind.j1 kj7 t644 (t644.extract 0 3) (t644.extract 4 t644.size) (t644.extract 0 3) 2) = some (r1, r2, r3) := by rw [if_neg (show ¬ (false = true) by decide)] at H; exact H
         clear H;have H := H1;clear H1
         have H' := A_ H
         clear H
         go_wp2
         go_meet
         case rel => exact ⟨_, ((t644.extract 0 3)), sm_, H', ⟨by have := HJ7.out; first | omega | exact Nat.le_refl _⟩, ⟨hb_ HB.out⟩⟩
       case rest =>
        clear HC21
        try clear c1
        try clear c2
        try clear p2
        try clear c3
        try clear c3b0
        try clear c3b1
        try clear c4
        try clear c5
        try clear c5b0
        try clear c5b1
        try clear c6
        try clear c6b0
        try clear c6b1
        try clear c7
        try clear c7b0
        try clear c7b1
        try clear c12
        try clear c22
        try clear p2
        obtain ⟨kq, x8_20, rfl, HA, HJ20, HB⟩ := hcut
        cases kq with
        | zero => exact absurd HA.out (by simp [trunnionref14_Kind.j1])
        | succ kj20 =>
         have H := HA.out
         clear HA
         simp only [trunnionref14_Kind.j1] at H
         have HC23 := A_ H;clear H
         go_upto_region 10 with (fail)
         go_cut [35] (fun v35 wc => ∃ (kq : Nat) (x35_22 : Bool), v35 = .bool x35_22 ∧ Aside0 (trunnionref14_Kind.j2 kq t644 x8_20 2 x35_22 = some (r1, r2, r3)) ∧ Aside0 (kq ≤ kj20) ∧ Aside0 (Below w.heap.size w wc))
         case first =>
          have H := HC23.out
          clear HC23
          replace H := ob_ H
          obtain ⟨t653, A240, H⟩ := H
          replace H : (if t653.toList = (t644.extract 0 3).toList then ((trunnionref14_in.f kj20 (([(⟨#[101, 113, 122]⟩ : ByteArray), (⟨#[99, 108, 122]⟩ : ByteArray), (⟨#[99, 116, 122]⟩ : ByteArray), (⟨#[112, 111, 112, 99, 110, 116]⟩ : ByteArray), (⟨#[97, 98, 115]⟩ : ByteArray), (⟨#[110, 101, 103]⟩ : ByteArray), (⟨#[99, 101, 105, 108]⟩ : ByteArray), (⟨#[102, 108, 111, 111, 114]⟩ : ByteArray), (⟨#[116, 114, 117, 110, 99]⟩ : ByteArray), (⟨#[110, 101, 97, 114, 101, 115, 116]⟩ : ByteArray), (⟨#[115, 113, 114, 116]⟩ : ByteArray)] : List ByteArray)) (t644.extract 4 t644.size)).bind fun t657 => (trunnionref14_Kind.j2 kj20 t644 x8_20 2 t657)) else (trunnionref14_Kind.j2 kj20 t644 x8_20 2 true)) = some (r1, r2, r3) := H
          have A24 := A_ A240;clear A240
          by_cases c25 : t653.toList = (t644.extract 0 3).toList
          ·rw [if_pos c25] at H
           have c25b0 : (t653.toList == (t644.extract 0 3).toList) = true := beq_iff_eq.mpr c25
           have c25b1 : (t653.toList != (t644.extract 0 3).toList) = false := bne_eq_false_iff_eq.mpr c25
           clear c25
           (first | rw [c25b0] | (simp only [i64_w, i32_w]; rw [c25b0]) | skip)
           obtain ⟨y654, hy654⟩ : ∃ y_ : List ByteArray, y_ = (([(⟨#[101, 113, 122]⟩ : ByteArray), (⟨#[99, 108, 122]⟩ : ByteArray), (⟨#[99, 116, 122]⟩ : ByteArray), (⟨#[112, 111, 112, 99, 110, 116]⟩ : ByteArray), (⟨#[97, 98, 115]⟩ : ByteArray), (⟨#[110, 101, 103]⟩ : ByteArray), (⟨#[99, 101, 105, 108]⟩ : ByteArray), (⟨#[102, 108, 111, 111, 114]⟩ : ByteArray), (⟨#[116, 114, 117, 110, 99]⟩ : ByteArray), (⟨#[110, 101, 97, 114, 101, 115, 116]⟩ : ByteArray), (⟨#[115, 113, 114, 116]⟩ : ByteArray)] : List ByteArray)) := ⟨_, rfl⟩
           replace H : ((trunnionref14_in.f kj20 y654 (t644.extract 4 t644.size)).bind fun t657 => (trunnionref14_Kind.j2 kj20 t644 x8_20 2 t657)) = some (r1, r2, r3) := by first | (rw [hy654]; with_reducible exact H) | (have H2_ := (Option.bind_some _ _).symm.trans H; rw [hy654]; with_reducible exact H2_) | (have H2_ := (Option.bind_some _ _).symm.trans H; with_reducible exact H2_) | with_reducible exact H | (rw [hy654]; exact H) | exact H
           have Ny654 := A_ hy654;clear hy654
           replace H := ob_ H
           obtain ⟨t657, A260, H⟩ := H
           replace H : (trunnionref14_Kind.j2 kj20 t644 x8_20 2 t657) = some (r1, r2, r3) := H
           have A26 := A_ A260;clear A260
           have H' := A_ H
           clear H
           go_wp2_with (first | ((with_reducible refine gate_callee (f := 46) rfl ?_); refine goesL_ (some 28) rfl rfl Tryz.func46 (by kernel_rfl) rfl #[.string t644] rfl mp_ ?_; (with_reducible refine (trunnionref14_Operand.calls kj20 t644 t653 _ A24.out).mono ?_); rintro e w' ⟨rfl, ⟨nd, rfl⟩⟩; refine ⟨_, rfl, ?_⟩) | ((with_reducible refine gate_dst (N := 32) rfl ?_); (try (refine gate_guard (by rfl) ?_; dsimp only)); refine Kd.R_lit Kd.string _ 9 ?hg (N := 32) ?hd (xs := ([(⟨#[101, 113, 122]⟩ : ByteArray), (⟨#[99, 108, 122]⟩ : ByteArray), (⟨#[99, 116, 122]⟩ : ByteArray), (⟨#[112, 111, 112, 99, 110, 116]⟩ : ByteArray), (⟨#[97, 98, 115]⟩ : ByteArray), (⟨#[110, 101, 103]⟩ : ByteArray), (⟨#[99, 101, 105, 108]⟩ : ByteArray), (⟨#[102, 108, 111, 111, 114]⟩ : ByteArray), (⟨#[116, 114, 117, 110, 99]⟩ : ByteArray), (⟨#[110, 101, 97, 114, 101, 115, 116]⟩ : ByteArray), (⟨#[115, 113, 114, 116]⟩ : ByteArray)] : List ByteArray)) (inner := [.string (⟨#[101, 113, 122]⟩ : ByteArray), .string (⟨#[99, 108, 122]⟩ : ByteArray), .string (⟨#[99, 116, 122]⟩ : ByteArray), .string (⟨#[112, 111, 112, 99, 110, 116]⟩ : ByteArray), .string (⟨#[97, 98, 115]⟩ : ByteArray), .string (⟨#[110, 101, 103]⟩ : ByteArray), .string (⟨#[99, 101, 105, 108]⟩ : ByteArray), .string (⟨#[102, 108, 111, 111, 114]⟩ : ByteArray), .string (⟨#[116, 114, 117, 110, 99]⟩ : ByteArray), .string (⟨#[110, 101, 97, 114, 101, 115, 116]⟩ : ByteArray), .string (⟨#[115, 113, 114, 116]⟩ : ByteArray)]) (ok := fun _ => True) (okp := fun _ => True) ?hr ?hp (fun _ hk => hk) trivial (Below.refl _ _) (Nat.le_refl _) (by simp) ?_; (case hd => rfl); (case hg => rfl); (case hr => first | (go_simp; done) | (go_simp; rfl)); (case hp => exact (Reps.one (show Kd.M Kd.string _ _ _ (⟨#[101, 113, 122]⟩ : ByteArray) [.string (⟨#[101, 113, 122]⟩ : ByteArray)] from rfl) (Reps.one (show Kd.M Kd.string _ _ _ (⟨#[99, 108, 122]⟩ : ByteArray) [.string (⟨#[99, 108, 122]⟩ : ByteArray)] from rfl) (Reps.one (show Kd.M Kd.string _ _ _ (⟨#[99, 116, 122]⟩ : ByteArray) [.string (⟨#[99, 116, 122]⟩ : ByteArray)] from rfl) (Reps.one (show Kd.M Kd.string _ _ _ (⟨#[112, 111, 112, 99, 110, 116]⟩ : ByteArray) [.string (⟨#[112, 111, 112, 99, 110, 116]⟩ : ByteArray)] from rfl) (Reps.one (show Kd.M Kd.string _ _ _ (⟨#[97, 98, 115]⟩ : ByteArray) [.string (⟨#[97, 98, 115]⟩ : ByteArray)] from rfl) (Reps.one (show Kd.M Kd.string _ _ _ (⟨#[110, 101, 103]⟩ : ByteArray) [.string (⟨#[110, 101, 103]⟩ : ByteArray)] from rfl) (Reps.one (show Kd.M Kd.string _ _ _ (⟨#[99, 101, 105, 108]⟩ : ByteArray) [.string (⟨#[99, 101, 105, 108]⟩ : ByteArray)] from rfl) (Reps.one (show Kd.M Kd.string _ _ _ (⟨#[102, 108, 111, 111, 114]⟩ : ByteArray) [.string (⟨#[102, 108, 111, 111, 114]⟩ : ByteArray)] from rfl) (Reps.one (show Kd.M Kd.string _ _ _ (⟨#[116, 114, 117, 110, 99]⟩ : ByteArray) [.string (⟨#[116, 114, 117, 110, 99]⟩ : ByteArray)] from rfl) (Reps.one (show Kd.M Kd.string _ _ _ (⟨#[110, 101, 97, 114, 101, 115, 116]⟩ : ByteArray) [.string (⟨#[110, 101, 97, 114, 101, 115, 116]⟩ : ByteArray)] from rfl) (Reps.one (show Kd.M Kd.string _ _ _ (⟨#[115, 113, 114, 116]⟩ : ByteArray) [.string (⟨#[115, 113, 114, 116]⟩ : ByteArray)] from rfl) (Reps.none _ _))))))))))))); intro v655 w27 ho28 hb hg_ hnew_; clear hg_ hnew_; (first | rw [← Ny654.out] at ho28 | (simp only [Int.reduceToNat] at ho28; rw [← Ny654.out] at ho28)); have HO656 := A_ (Kd.R_lower ho28 (below_size (hb_ HB.out))); replace HB := A_ (below_step (hb_ HB.out) hb); clear hb ho28; obtain ⟨Ao29, co29, eo29⟩ := Kd.R_slice HO656.out; subst eo29) | (go_at_call 55; (with_reducible refine (trunnionref14_in.calls kj20 _ _ y654 (t644.extract 4 t644.size) t657 _ ?side1 ?side2 A26.out).mono ?_); (case side1 => exact cs_ ((Kd.R_reads' HO656.out).2.2)); (case side2 => exact (Kd.R_reads' HO656.out).2.1); rintro e w' ⟨rfl, ⟨nd, rfl⟩⟩))
           go_meet
           case rel => exact ⟨_, (t657), sm_, H', ⟨by have := HJ7.out; have := HJ20.out; first | omega | exact Nat.le_refl _⟩, ⟨hb_ HB.out⟩⟩
          ·rw [if_neg c25] at H
           have c25b0 : (t653.toList == (t644.extract 0 3).toList) = false := beq_eq_false_iff_ne.mpr c25
           have c25b1 : (t653.toList != (t644.extract 0 3).toList) = true := bne_iff_ne.mpr c25
           (first | rw [c25b0] | (simp only [i64_w, i32_w]; rw [c25b0]) | skip)
           have H' := A_ H
           clear H
           go_wp2_with (first | ((with_reducible refine gate_callee (f := 46) rfl ?_); refine goesL_ (some 28) rfl rfl Tryz.func46 (by kernel_rfl) rfl #[.string t644] rfl mp_ ?_; (with_reducible refine (trunnionref14_Operand.calls kj20 t644 t653 _ A24.out).mono ?_); rintro e w' ⟨rfl, ⟨nd, rfl⟩⟩; refine ⟨_, rfl, ?_⟩))
           go_meet
           case rel => exact ⟨_, (true), sm_, H', ⟨by have := HJ7.out; have := HJ20.out; first | omega | exact Nat.le_refl _⟩, ⟨hb_ HB.out⟩⟩
         case rest =>
          clear HC23
          try clear c1
          try clear c2
          try clear p2
          try clear c3
          try clear c3b0
          try clear c3b1
          try clear c4
          try clear c5
          try clear c5b0
          try clear c5b1
          try clear c6
          try clear c6b0
          try clear c6b1
          try clear c7
          try clear c7b0
          try clear c7b1
          try clear c12
          try clear c22
          try clear c25
          try clear c25b0
          try clear c25b1
          try clear p2
          obtain ⟨kq, x35_22, rfl, HA, HJ22, HB⟩ := hcut
          cases kq with
          | zero => exact absurd HA.out (by simp [trunnionref14_Kind.j2])
          | succ kj22 =>
           have H := HA.out
           clear HA
           simp only [trunnionref14_Kind.j2] at H
           by_cases c30 : x35_22 = true
           ·subst c30
            have H1 : ((trunnionref14_Operand.f kj22 t644).bind fun t658 => ((trunnionref14_Type.f t658).bind fun t659 => ((trunnionref14_Type.f x8_20).bind fun t660 => (some (t659, 1, t660))))) = some (r1, r2, r3) := by rw [if_pos rfl] at H; exact H
            clear H;have H := H1;clear H1
            replace H := ob_ H
            obtain ⟨t658, A310, H⟩ := H
            replace H : ((trunnionref14_Type.f t658).bind fun t659 => ((trunnionref14_Type.f x8_20).bind fun t660 => (some (t659, 1, t660)))) = some (r1, r2, r3) := H
            have A31 := A_ A310;clear A310
            replace H := ob_ H
            obtain ⟨t659, A320, H⟩ := H
            replace H : ((trunnionref14_Type.f x8_20).bind fun t660 => (some (t659, 1, t660))) = some (r1, r2, r3) := H
            have A32 := A_ A320;clear A320
            replace H := ob_ H
            obtain ⟨t660, A330, H⟩ := H
            replace H : (some (t659, 1, t660)) = some (r1, r2, r3) := H
            have A33 := A_ A330;clear A330
            simp only [Option.some.injEq, Prod.mk.injEq] at H
            obtain ⟨rfl, rfl, rfl⟩ := H
            go_wp2_with (first | ((with_reducible refine gate_callee (f := 46) rfl ?_); refine goesL_ (some 37) rfl rfl Tryz.func46 (by kernel_rfl) rfl #[.string t644] rfl mp_ ?_; (with_reducible refine (trunnionref14_Operand.calls kj22 t644 t658 _ A31.out).mono ?_); rintro e w' ⟨rfl, ⟨nd, rfl⟩⟩; refine ⟨_, rfl, ?_⟩) | ((with_reducible refine gate_callee (f := 58) rfl ?_); refine goesL_ (some 38) rfl rfl Tryz.func58 (by kernel_rfl) rfl #[.string t658] rfl mp_ ?_; (with_reducible refine (trunnionref14_Type.calls t658 t659 _ A32.out).mono ?_); rintro e w' ⟨rfl, ⟨nd, rfl⟩⟩; refine ⟨_, rfl, ?_⟩) | ((with_reducible refine gate_callee (f := 58) rfl ?_); refine goesL_ (some 41) rfl rfl Tryz.func58 (by kernel_rfl) rfl #[.string x8_20] rfl mp_ ?_; (with_reducible refine (trunnionref14_Type.calls x8_20 t660 _ A33.out).mono ?_); rintro e w' ⟨rfl, ⟨nd, rfl⟩⟩; refine ⟨_, rfl, ?_⟩))
            go_ret3
            exact ⟨er_, hb_ HB.out⟩
           ·replace c30 := Bool.eq_false_iff.mpr c30
            subst c30
            have H1 : ((trunnionref14_Operand.f kj22 t644).bind fun t661 => ((trunnionref14_Type.f t661).bind fun t662 => ((trunnionref14_Type.f x8_20).bind fun t663 => (some (t662, 2, t663))))) = some (r1, r2, r3) := by rw [if_neg (show ¬ (false = true) by decide)] at H; exact H
            clear H;have H := H1;clear H1
            replace H := ob_ H
            obtain ⟨t661, A340, H⟩ := H
            replace H : ((trunnionref14_Type.f t661).bind fun t662 => ((trunnionref14_Type.f x8_20).bind fun t663 => (some (t662, 2, t663)))) = some (r1, r2, r3) := H
            have A34 := A_ A340;clear A340
            replace H := ob_ H
            obtain ⟨t662, A350, H⟩ := H
            replace H : ((trunnionref14_Type.f x8_20).bind fun t663 => (some (t662, 2, t663))) = some (r1, r2, r3) := H
            have A35 := A_ A350;clear A350
            replace H := ob_ H
            obtain ⟨t663, A360, H⟩ := H
            replace H : (some (t662, 2, t663)) = some (r1, r2, r3) := H
            have A36 := A_ A360;clear A360
            simp only [Option.some.injEq, Prod.mk.injEq] at H
            obtain ⟨rfl, rfl, rfl⟩ := H
            go_wp2_with (first | ((with_reducible refine gate_callee (f := 46) rfl ?_); refine goesL_ (some 37) rfl rfl Tryz.func46 (by kernel_rfl) rfl #[.string t644] rfl mp_ ?_; (with_reducible refine (trunnionref14_Operand.calls kj22 t644 t661 _ A34.out).mono ?_); rintro e w' ⟨rfl, ⟨nd, rfl⟩⟩; refine ⟨_, rfl, ?_⟩) | ((with_reducible refine gate_callee (f := 58) rfl ?_); refine goesL_ (some 38) rfl rfl Tryz.func58 (by kernel_rfl) rfl #[.string t661] rfl mp_ ?_; (with_reducible refine (trunnionref14_Type.calls t661 t662 _ A35.out).mono ?_); rintro e w' ⟨rfl, ⟨nd, rfl⟩⟩; refine ⟨_, rfl, ?_⟩) | ((with_reducible refine gate_callee (f := 58) rfl ?_); refine goesL_ (some 41) rfl rfl Tryz.func58 (by kernel_rfl) rfl #[.string x8_20] rfl mp_ ?_; (with_reducible refine (trunnionref14_Type.calls x8_20 t663 _ A36.out).mono ?_); rintro e w' ⟨rfl, ⟨nd, rfl⟩⟩; refine ⟨_, rfl, ?_⟩))
            go_ret3
            exact ⟨er_, hb_ HB.out⟩
    ·rw [if_neg c7] at H
     exact absurd H (by simp)
   ·rw [if_neg c6] at H
    exact absurd H (by simp)
  ·rw [if_neg c5] at H
   exact absurd H (by simp)
end Go.Proofs.YtnmlmgmljoncoaaGreatDoor.PA
