/- What the Go functions that the statement SumKeeps reaches compute, and the mathematics on it, in the order in which one leans on the other; for every input. -/
import Derived.Test.YtgcgheilbngcoaaVSumKeeps0
import Derived.Test.YtgcgheilbngcoaaMSumKeeps0
import Derived.Test.YtgcgheilbngcoaaMSumKeeps1
import Derived.Test.YtgcgheilbngcoaaMSumKeeps9
import Derived.Test.YtgcgheilbngcoaaMSumKeeps6
import Derived.Test.YtgcgheilbngcoaaMSumKeeps3
import Derived.Test.YtgcgheilbngcoaaMSumKeeps2
import Derived.Test.YtgcgheilbngcoaaMSumKeeps5
import Derived.Deep.RegionHeld3
import Derived.Test.YtgcgheilbngcoaaMSumKeeps7
import Derived.Test.YtgcgheilbngcoaaMSumKeeps4
import Derived.Test.YtgcgheilbngcoaaMSumKeeps8
namespace Go.Proofs.Ytgcgheilbngcoaa.PA
open Go.RowKit Go.Proofs.YtgcgheilbngcoaaW.PrintWords Go.Proofs.YtgcgheilbngcoaaW.PrintLast Go.Proofs.YtgcgheilbngcoaaW.PrintMore
attribute [local go_sem] max2_int min2_int max_two min_two max_three min_three max_four min_four   -- for this text's walks alone
set_option linter.unusedVariables false
set_option linter.unusedSimpArgs false
set_option maxHeartbeats 8000000
set_option maxRecDepth 100000
mutual
def L04_SumKeeps.j0 : Nat → Int → Int → Int → Bool → Option (Bool)
 | 0, _, _, _, _ => none
 | k + 1, x0, x1, x2, x16 => if x16 = true then (some true) else ((sum_Add.f k x0 x1 x2).bind fun t1166 => ((sum_Add.f k x0 x2 x1).bind fun t1167 => (if t1166 = t1167 then ((shape_IsNan.f k x0 t1166).bind fun t1168 => (if t1168 = true then ((shape_Nan.f x0).bind fun t1169 => (if t1166 = t1169 then ((shape_Cut.f x0 t1166).bind fun t1170 => (L04_SumKeeps.j1 k x0 x1 x2 t1166 (t1166 != t1170))) else (L04_SumKeeps.j1 k x0 x1 x2 t1166 true))) else ((shape_Cut.f x0 t1166).bind fun t1171 => (L04_SumKeeps.j1 k x0 x1 x2 t1166 (t1166 != t1171))))) else (L04_SumKeeps.j1 k x0 x1 x2 t1166 true))))
def L04_SumKeeps.j1 : Nat → Int → Int → Int → Int → Bool → Option (Bool)
 | 0, _, _, _, _, _ => none
 | k + 1, x0, x1, x2, x7, x44 => if x44 = true then (some false) else ((shape_Open.f k x0 x1).bind fun bt1172 => (if bt1172.2.1 = 3 then ((shape_Nan.f x0).bind fun t1177 => (if x7 = t1177 then ((sum_Sub.f k x0 x2 x1).bind fun t1178 => (some (t1178 == x7))) else (some false))) else (if bt1172.2.1 = 2 then ((sum_Sub.f k x0 x1 x1).bind fun t1179 => ((shape_Nan.f x0).bind fun t1180 => (L04_SumKeeps.j2 k x0 x1 x2 (t1179 != t1180) bt1172.1 bt1172.2.1 bt1172.2.2.1 bt1172.2.2.2))) else ((sum_Sub.f k x0 x1 x1).bind fun t1181 => (if t1181 = 0 then (L04_SumKeeps.j2 k x0 x1 x2 false bt1172.1 bt1172.2.1 bt1172.2.2.1 bt1172.2.2.2) else (L04_SumKeeps.j2 k x0 x1 x2 true bt1172.1 bt1172.2.1 bt1172.2.2.1 bt1172.2.2.2))))))
def L04_SumKeeps.j2 : Nat → Int → Int → Int → Bool → Bool → Int → Int → Int → Option (Bool)
 | 0, _, _, _, _, _, _, _, _ => none
 | k + 1, x0, x1, x2, x86, x1177000, x1177001, x1177002, x1177003 => if x86 = true then (some false) else ((sum_Sub.f k x0 x2 x1).bind fun t1182 => ((shape_Zero.f x0 true).bind fun t1183 => ((sum_Add.f k x0 x2 (Go.bits .xor .u64 x1 t1183)).bind fun t1184 => (if t1182 = t1184 then (if x1177001 = 0 then (some true) else ((sum_Add.f k x0 x1 0).bind fun t1185 => ((shape_Cut.f x0 x1).bind fun t1186 => (some (t1185 == t1186))))) else (some false)))))
end
def L04_SumKeeps.f (k : Nat) (a0 : Int) (a1 : Int) (a2 : Int) : Option (Bool) := (L04_awake.f k).bind fun t1165 => (if t1165 = true then (if a0 = 32 then (L04_SumKeeps.j0 k a0 a1 a2 false) else (L04_SumKeeps.j0 k a0 a1 a2 (a0 != 64))) else (some false))
theorem L04_SumKeeps.mono_l : ∀ k, (∀ y0 y1 y2 y3, LeO (L04_SumKeeps.j0 k y0 y1 y2 y3) (L04_SumKeeps.j0 (k + 1) y0 y1 y2 y3)) ∧ (∀ y0 y1 y2 y3 y4, LeO (L04_SumKeeps.j1 k y0 y1 y2 y3 y4) (L04_SumKeeps.j1 (k + 1) y0 y1 y2 y3 y4)) ∧ (∀ y0 y1 y2 y3 y4 y5 y6 y7, LeO (L04_SumKeeps.j2 k y0 y1 y2 y3 y4 y5 y6 y7) (L04_SumKeeps.j2 (k + 1) y0 y1 y2 y3 y4 y5 y6 y7))
 | 0 => ⟨fun _ _ _ _ r h => by simp [L04_SumKeeps.j0] at h, fun _ _ _ _ _ r h => by simp [L04_SumKeeps.j1] at h, fun _ _ _ _ _ _ _ _ r h => by simp [L04_SumKeeps.j2] at h⟩
 | k + 1 => by
  obtain ⟨ih0, ih1, ih2⟩ := L04_SumKeeps.mono_l k
  refine ⟨?_, ?_, ?_⟩
  ·intro y0 y1 y2 y3
   unfold L04_SumKeeps.j0
   repeat' first
   | (with_reducible exact ih0 _ _ _ _)
   | (with_reducible exact ih1 _ _ _ _ _)
   | (with_reducible exact ih2 _ _ _ _ _ _ _ _)
   | (with_reducible exact shape_IsNan.mono _ _ _)
   | (with_reducible exact shape_Open.mono _ _ _)
   | (with_reducible exact sum_Add.mono _ _ _ _)
   | (with_reducible exact sum_Sub.mono _ _ _ _)
   | (with_reducible exact L04_awake.mono _)
   | (with_reducible exact LeO.refl _)
   | (with_reducible exact LeO.none _)
   | (with_reducible refine LeO.ite ?_ ?_)
   | (with_reducible refine LeO.bind ?_ (fun _ => ?_))
   | exact ih0 _ _ _ _
   | exact ih1 _ _ _ _ _
   | exact ih2 _ _ _ _ _ _ _ _
   | exact shape_IsNan.mono _ _ _
   | exact shape_Open.mono _ _ _
   | exact sum_Add.mono _ _ _ _
   | exact sum_Sub.mono _ _ _ _
   | exact L04_awake.mono _
   | exact LeO.none _
   | refine LeO.ite ?_ ?_
   | refine LeO.bind ?_ (fun _ => ?_)
  ·intro y0 y1 y2 y3 y4
   unfold L04_SumKeeps.j1
   repeat' first
   | (with_reducible exact ih0 _ _ _ _)
   | (with_reducible exact ih1 _ _ _ _ _)
   | (with_reducible exact ih2 _ _ _ _ _ _ _ _)
   | (with_reducible exact shape_IsNan.mono _ _ _)
   | (with_reducible exact shape_Open.mono _ _ _)
   | (with_reducible exact sum_Add.mono _ _ _ _)
   | (with_reducible exact sum_Sub.mono _ _ _ _)
   | (with_reducible exact L04_awake.mono _)
   | (with_reducible exact LeO.refl _)
   | (with_reducible exact LeO.none _)
   | (with_reducible refine LeO.ite ?_ ?_)
   | (with_reducible refine LeO.bind ?_ (fun _ => ?_))
   | exact ih0 _ _ _ _
   | exact ih1 _ _ _ _ _
   | exact ih2 _ _ _ _ _ _ _ _
   | exact shape_IsNan.mono _ _ _
   | exact shape_Open.mono _ _ _
   | exact sum_Add.mono _ _ _ _
   | exact sum_Sub.mono _ _ _ _
   | exact L04_awake.mono _
   | exact LeO.none _
   | refine LeO.ite ?_ ?_
   | refine LeO.bind ?_ (fun _ => ?_)
  ·intro y0 y1 y2 y3 y4 y5 y6 y7
   unfold L04_SumKeeps.j2
   repeat' first
   | (with_reducible exact ih0 _ _ _ _)
   | (with_reducible exact ih1 _ _ _ _ _)
   | (with_reducible exact ih2 _ _ _ _ _ _ _ _)
   | (with_reducible exact shape_IsNan.mono _ _ _)
   | (with_reducible exact shape_Open.mono _ _ _)
   | (with_reducible exact sum_Add.mono _ _ _ _)
   | (with_reducible exact sum_Sub.mono _ _ _ _)
   | (with_reducible exact L04_awake.mono _)
   | (with_reducible exact LeO.refl _)
   | (with_reducible exact LeO.none _)
   | (with_reducible refine LeO.ite ?_ ?_)
   | (with_reducible refine LeO.bind ?_ (fun _ => ?_))
   | exact ih0 _ _ _ _
   | exact ih1 _ _ _ _ _
   | exact ih2 _ _ _ _ _ _ _ _
   | exact shape_IsNan.mono _ _ _
   | exact shape_Open.mono _ _ _
   | exact sum_Add.mono _ _ _ _
   | exact sum_Sub.mono _ _ _ _
   | exact L04_awake.mono _
   | exact LeO.none _
   | refine LeO.ite ?_ ?_
   | refine LeO.bind ?_ (fun _ => ?_)
theorem L04_SumKeeps.mono : ∀ a0 a1 a2 k, LeO (L04_SumKeeps.f k a0 a1 a2) (L04_SumKeeps.f (k + 1) a0 a1 a2) := by
 intro a0 a1 a2 k
 obtain ⟨ih0, ih1, ih2⟩ := L04_SumKeeps.mono_l k
 unfold L04_SumKeeps.f
 repeat' first
   | (with_reducible exact ih0 _ _ _ _)
   | (with_reducible exact ih1 _ _ _ _ _)
   | (with_reducible exact ih2 _ _ _ _ _ _ _ _)
   | (with_reducible exact shape_IsNan.mono _ _ _)
   | (with_reducible exact shape_Open.mono _ _ _)
   | (with_reducible exact sum_Add.mono _ _ _ _)
   | (with_reducible exact sum_Sub.mono _ _ _ _)
   | (with_reducible exact L04_awake.mono _)
   | (with_reducible exact LeO.refl _)
   | (with_reducible exact LeO.none _)
   | (with_reducible refine LeO.ite ?_ ?_)
   | (with_reducible refine LeO.bind ?_ (fun _ => ?_))
   | exact ih0 _ _ _ _
   | exact ih1 _ _ _ _ _
   | exact ih2 _ _ _ _ _ _ _ _
   | exact shape_IsNan.mono _ _ _
   | exact shape_Open.mono _ _ _
   | exact sum_Add.mono _ _ _ _
   | exact sum_Sub.mono _ _ _ _
   | exact L04_awake.mono _
   | exact LeO.none _
   | refine LeO.ite ?_ ?_
   | refine LeO.bind ?_ (fun _ => ?_)
theorem L04_SumKeeps.calls (k : Nat) (a0 : Int) (a1 : Int) (a2 : Int) (r : Bool) (w : World) (h : L04_SumKeeps.f k a0 a1 a2 = some r) (hr_ : Aside0 (r = true)) :
  Calls Try.prog 26 #[.int .i64 a0, .int .u64 a1, .int .u64 a2] w fun e w' => e = .returned (.bool r) ∧ Below w.heap.size w w' := by
 have hu50 := Try.underlying50
 have HB := A_ (Below.refl w.heap.size w)
 have H : ((L04_awake.f k).bind fun t1165 => (if t1165 = true then (if a0 = 32 then (L04_SumKeeps.j0 k a0 a1 a2 false) else (L04_SumKeeps.j0 k a0 a1 a2 (a0 != 64))) else (some false))) = some r := h
 clear h
 replace H := ob_ H
 obtain ⟨t1165, A40, H⟩ := H
 replace H : (if t1165 = true then (if a0 = 32 then (L04_SumKeeps.j0 k a0 a1 a2 false) else (L04_SumKeeps.j0 k a0 a1 a2 (a0 != 64))) else (some false)) = some r := H
 have A4 := A_ A40;clear A40
 by_cases c5 : t1165 = true
 ·subst c5
  have H1 : (if a0 = 32 then (L04_SumKeeps.j0 k a0 a1 a2 false) else (L04_SumKeeps.j0 k a0 a1 a2 (a0 != 64))) = some r := by rw [if_pos rfl] at H; exact H
  clear H;have H := H1;clear H1;have HC6 := A_ H;clear H
  go_enter Try.func26, Try.ntmps26
  go_upto_region 3 with (first | ((with_reducible refine gate_callee (f := 86) rfl ?_); refine gl_ (some 9) Try.func86 #[] ?_; (with_reducible refine (L04_awake.calls k  true _ A4.out).mono ?_); rintro e w7 ⟨rfl, hb⟩; refine ⟨_, rfl, ?_⟩; have n0_ := A_ (below_step (hb_ HB.out) hb); clear HB; have HB := n0_; clear n0_; (try clear hb); (try clear hb2); (try clear hk); (try clear hi)))
  (try simp only [Act.put, lI_, l0_, lS_])
  go_cut [16] (fun v16 wc => ∃ (kq : Nat) (x16_5 : Bool), v16 = .bool x16_5 ∧ Aside0 (L04_SumKeeps.j0 kq a0 a1 a2 x16_5 = some r) ∧ Aside0 (kq ≤ k) ∧ Aside0 (Below w.heap.size w wc))
  case first =>
   have H := HC6.out
   clear HC6
   by_cases c8 : a0 = 32
   ·rw [if_pos c8] at H
    have c8b0 : (a0 == 32) = true := beq_iff_eq.mpr c8
    have c8b1 : (a0 != 32) = false := bne_eq_false_iff_eq.mpr c8
    clear c8
    (first | rw [c8b0] | (simp only [i64_w, i32_w]; rw [c8b0]) | skip)
    have H' := A_ H
    clear H
    go_wp2
    go_meet
    case rel => exact ⟨_, (false), sm_, H', ⟨by first | omega | exact Nat.le_refl _⟩, ⟨hb_ HB.out⟩⟩
   ·rw [if_neg c8] at H
    have c8b0 : (a0 == 32) = false := beq_eq_false_iff_ne.mpr c8
    have c8b1 : (a0 != 32) = true := bne_iff_ne.mpr c8
    (first | rw [c8b0] | (simp only [i64_w, i32_w]; rw [c8b0]) | skip)
    have H' := A_ H
    clear H
    go_wp2
    go_meet
    case rel => exact ⟨_, ((a0 != 64)), sm_, H', ⟨by first | omega | exact Nat.le_refl _⟩, ⟨hb_ HB.out⟩⟩
  case rest =>
   clear HC6
   try clear c2
   try clear p2
   try clear c5
   try clear c8
   try clear c8b0
   try clear c8b1
   obtain ⟨kq, x16_5, rfl, HA, HJ5, HB⟩ := hcut
   cases kq with
   | zero => exact absurd HA.out (by simp [L04_SumKeeps.j0])
   | succ kj5 =>
    have H := HA.out
    clear HA
    simp only [L04_SumKeeps.j0] at H
    by_cases c9 : x16_5 = true
    ·subst c9
     have H1 : (some true) = some r := by rw [if_pos rfl] at H; exact H
     clear H;have H := H1;clear H1
     obtain rfl := Option.some.inj H
     go_wp2
     go_ret
     exact ⟨er_, hb_ HB.out⟩
    ·replace c9 := Bool.eq_false_iff.mpr c9
     subst c9
     have H1 : ((sum_Add.f kj5 a0 a1 a2).bind fun t1166 => ((sum_Add.f kj5 a0 a2 a1).bind fun t1167 => (if t1166 = t1167 then ((shape_IsNan.f kj5 a0 t1166).bind fun t1168 => (if t1168 = true then ((shape_Nan.f a0).bind fun t1169 => (if t1166 = t1169 then ((shape_Cut.f a0 t1166).bind fun t1170 => (L04_SumKeeps.j1 kj5 a0 a1 a2 t1166 (t1166 != t1170))) else (L04_SumKeeps.j1 kj5 a0 a1 a2 t1166 true))) else ((shape_Cut.f a0 t1166).bind fun t1171 => (L04_SumKeeps.j1 kj5 a0 a1 a2 t1166 (t1166 != t1171))))) else (L04_SumKeeps.j1 kj5 a0 a1 a2 t1166 true)))) = some r := by rw [if_neg (show ¬ (false = true) by decide)] at H; exact H
     clear H;have H := H1;clear H1
     replace H := ob_ H
     obtain ⟨t1166, A100, H⟩ := H
     replace H : ((sum_Add.f kj5 a0 a2 a1).bind fun t1167 => (if t1166 = t1167 then ((shape_IsNan.f kj5 a0 t1166).bind fun t1168 => (if t1168 = true then ((shape_Nan.f a0).bind fun t1169 => (if t1166 = t1169 then ((shape_Cut.f a0 t1166).bind fun t1170 => (L04_SumKeeps.j1 kj5 a0 a1 a2 t1166 (t1166 != t1170))) else (L04_SumKeeps.j1 kj5 a0 a1 a2 t1166 true))) else ((shape_Cut.f a0 t1166).bind fun t1171 => (L04_SumKeeps.j1 kj5 a0 a1 a2 t1166 (t1166 != t1171))))) else (L04_SumKeeps.j1 kj5 a0 a1 a2 t1166 true))) = some r := H
     have A10 := A_ A100;clear A100;have HC11 := A_ H;clear H
     go_upto_region 6 with (first | ((with_reducible refine gate_callee (f := 87) rfl ?_); refine gl_ (some 20) Try.func87 #[.int .i64 a0, .int .u64 a1, .int .u64 a2] ?_; (with_reducible refine (sum_Add.calls kj5 a0 a1 a2 t1166 _ A10.out).mono ?_); rintro e w12 ⟨rfl, hb⟩; refine ⟨_, rfl, ?_⟩; have n0_ := A_ (below_step (hb_ HB.out) hb); clear HB; have HB := n0_; clear n0_; (try clear hb); (try clear hb2); (try clear hk); (try clear hi)))
     (try simp only [Act.put, lI_, l0_, lS_])
     go_cut [44] (fun v44 wc => ∃ (kq : Nat) (x44_10 : Bool), v44 = .bool x44_10 ∧ Aside0 (L04_SumKeeps.j1 kq a0 a1 a2 t1166 x44_10 = some r) ∧ Aside0 (kq ≤ kj5) ∧ Aside0 (Below w.heap.size w wc))
     case first =>
      have H := HC11.out
      clear HC11
      replace H := ob_ H
      obtain ⟨t1167, A130, H⟩ := H
      replace H : (if t1166 = t1167 then ((shape_IsNan.f kj5 a0 t1166).bind fun t1168 => (if t1168 = true then ((shape_Nan.f a0).bind fun t1169 => (if t1166 = t1169 then ((shape_Cut.f a0 t1166).bind fun t1170 => (L04_SumKeeps.j1 kj5 a0 a1 a2 t1166 (t1166 != t1170))) else (L04_SumKeeps.j1 kj5 a0 a1 a2 t1166 true))) else ((shape_Cut.f a0 t1166).bind fun t1171 => (L04_SumKeeps.j1 kj5 a0 a1 a2 t1166 (t1166 != t1171))))) else (L04_SumKeeps.j1 kj5 a0 a1 a2 t1166 true)) = some r := H
      have A13 := A_ A130;clear A130
      by_cases c14 : t1166 = t1167
      ·rw [if_pos c14] at H
       have c14b0 : (t1166 == t1167) = true := beq_iff_eq.mpr c14
       have c14b1 : (t1166 != t1167) = false := bne_eq_false_iff_eq.mpr c14
       clear c14
       (first | rw [c14b0] | (simp only [i64_w, i32_w]; rw [c14b0]) | skip)
       replace H := ob_ H
       obtain ⟨t1168, A150, H⟩ := H
       replace H : (if t1168 = true then ((shape_Nan.f a0).bind fun t1169 => (if t1166 = t1169 then ((shape_Cut.f a0 t1166).bind fun t1170 => (L04_SumKeeps.j1 kj5 a0 a1 a2 t1166 (t1166 != t1170))) else (L04_SumKeeps.j1 kj5 a0 a1 a2 t1166 true))) else ((shape_Cut.f a0 t1166).bind fun t1171 => (L04_SumKeeps.j1 kj5 a0 a1 a2 t1166 (t1166 != t1171)))) = some r := H
       have A15 := A_ A150;clear A150
       by_cases c16 : t1168 = true
       ·subst c16
        have H1 : ((shape_Nan.f a0).bind fun t1169 => (if t1166 = t1169 then ((shape_Cut.f a0 t1166).bind fun t1170 => (L04_SumKeeps.j1 kj5 a0 a1 a2 t1166 (t1166 != t1170))) else (L04_SumKeeps.j1 kj5 a0 a1 a2 t1166 true))) = some r := by rw [if_pos rfl] at H; exact H
        clear H;have H := H1;clear H1
        replace H := ob_ H
        obtain ⟨t1169, A170, H⟩ := H
        replace H : (if t1166 = t1169 then ((shape_Cut.f a0 t1166).bind fun t1170 => (L04_SumKeeps.j1 kj5 a0 a1 a2 t1166 (t1166 != t1170))) else (L04_SumKeeps.j1 kj5 a0 a1 a2 t1166 true)) = some r := H
        have A17 := A_ A170;clear A170
        by_cases c18 : t1166 = t1169
        ·rw [if_pos c18] at H
         have c18b0 : (t1166 == t1169) = true := beq_iff_eq.mpr c18
         have c18b1 : (t1166 != t1169) = false := bne_eq_false_iff_eq.mpr c18
         clear c18
         replace H := ob_ H
         obtain ⟨t1170, A190, H⟩ := H
         replace H : (L04_SumKeeps.j1 kj5 a0 a1 a2 t1166 (t1166 != t1170)) = some r := H
         have A19 := A_ A190;clear A190
         have H' := A_ H
         clear H
         go_wp2_with (first | ((with_reducible refine gate_callee (f := 87) rfl ?_); refine gl_ (some 25) Try.func87 #[.int .i64 a0, .int .u64 a2, .int .u64 a1] ?_; (with_reducible refine (sum_Add.calls kj5 a0 a2 a1 t1167 _ A13.out).mono ?_); rintro e w20 ⟨rfl, hb⟩; refine ⟨_, rfl, ?_⟩; have n0_ := A_ (below_step (hb_ HB.out) hb); clear HB; have HB := n0_; clear n0_; (try clear hb); (try clear hb2); (try clear hk); (try clear hi)) | (go_at_call 78; (with_reducible refine (shape_IsNan.calls kj5 a0 t1166 true _ A15.out).mono ?_); rintro e w21 ⟨rfl, hb⟩; have n0_ := A_ (below_step (hb_ HB.out) hb); clear HB; have HB := n0_; clear n0_; (try clear hb); (try clear hb2); (try clear hk); (try clear hi)) | (go_at_call 76; (with_reducible refine (shape_Nan.calls a0 t1169 _ A17.out).mono ?_); rintro e w22 ⟨rfl, hb⟩; have n0_ := A_ (below_step (hb_ HB.out) hb); clear HB; have HB := n0_; clear n0_; (try clear hb); (try clear hb2); (try clear hk); (try clear hi)) | (go_at_call 49; (with_reducible refine (shape_Cut.calls a0 t1166 t1170 _ A19.out).mono ?_); rintro e w' ⟨rfl, ⟨nd, rfl⟩⟩))
         go_meet
         case rel => exact ⟨_, ((t1166 != t1170)), sm_, H', ⟨by have := HJ5.out; first | omega | exact Nat.le_refl _⟩, ⟨hb_ HB.out⟩⟩
        ·rw [if_neg c18] at H
         have c18b0 : (t1166 == t1169) = false := beq_eq_false_iff_ne.mpr c18
         have c18b1 : (t1166 != t1169) = true := bne_iff_ne.mpr c18
         have H' := A_ H
         clear H
         go_wp2_with (first | ((with_reducible refine gate_callee (f := 87) rfl ?_); refine gl_ (some 25) Try.func87 #[.int .i64 a0, .int .u64 a2, .int .u64 a1] ?_; (with_reducible refine (sum_Add.calls kj5 a0 a2 a1 t1167 _ A13.out).mono ?_); rintro e w23 ⟨rfl, hb⟩; refine ⟨_, rfl, ?_⟩; have n0_ := A_ (below_step (hb_ HB.out) hb); clear HB; have HB := n0_; clear n0_; (try clear hb); (try clear hb2); (try clear hk); (try clear hi)) | (go_at_call 78; (with_reducible refine (shape_IsNan.calls kj5 a0 t1166 true _ A15.out).mono ?_); rintro e w24 ⟨rfl, hb⟩; have n0_ := A_ (below_step (hb_ HB.out) hb); clear HB; have HB := n0_; clear n0_; (try clear hb); (try clear hb2); (try clear hk); (try clear hi)) | (go_at_call 76; (with_reducible refine (shape_Nan.calls a0 t1169 _ A17.out).mono ?_); rintro e w25 ⟨rfl, hb⟩; have n0_ := A_ (below_step (hb_ HB.out) hb); clear HB; have HB := n0_; clear n0_; (try clear hb); (try clear hb2); (try clear hk); (try clear hi)))
         go_meet
         case rel => exact ⟨_, (true), sm_, H', ⟨by have := HJ5.out; first | omega | exact Nat.le_refl _⟩, ⟨hb_ HB.out⟩⟩
       ·replace c16 := Bool.eq_false_iff.mpr c16
        subst c16
        have H1 : ((shape_Cut.f a0 t1166).bind fun t1171 => (L04_SumKeeps.j1 kj5 a0 a1 a2 t1166 (t1166 != t1171))) = some r := by rw [if_neg (show ¬ (false = true) by decide)] at H; exact H
        clear H;have H := H1;clear H1
        replace H := ob_ H
        obtain ⟨t1171, A260, H⟩ := H
        replace H : (L04_SumKeeps.j1 kj5 a0 a1 a2 t1166 (t1166 != t1171)) = some r := H
        have A26 := A_ A260;clear A260
        have H' := A_ H
        clear H
        go_wp2_with (first | ((with_reducible refine gate_callee (f := 87) rfl ?_); refine gl_ (some 25) Try.func87 #[.int .i64 a0, .int .u64 a2, .int .u64 a1] ?_; (with_reducible refine (sum_Add.calls kj5 a0 a2 a1 t1167 _ A13.out).mono ?_); rintro e w27 ⟨rfl, hb⟩; refine ⟨_, rfl, ?_⟩; have n0_ := A_ (below_step (hb_ HB.out) hb); clear HB; have HB := n0_; clear n0_; (try clear hb); (try clear hb2); (try clear hk); (try clear hi)) | (go_at_call 78; (with_reducible refine (shape_IsNan.calls kj5 a0 t1166 false _ A15.out).mono ?_); rintro e w28 ⟨rfl, hb⟩; have n0_ := A_ (below_step (hb_ HB.out) hb); clear HB; have HB := n0_; clear n0_; (try clear hb); (try clear hb2); (try clear hk); (try clear hi)) | (go_at_call 49; (with_reducible refine (shape_Cut.calls a0 t1166 t1171 _ A26.out).mono ?_); rintro e w' ⟨rfl, ⟨nd, rfl⟩⟩))
        go_meet
        case rel => exact ⟨_, ((t1166 != t1171)), sm_, H', ⟨by have := HJ5.out; first | omega | exact Nat.le_refl _⟩, ⟨hb_ HB.out⟩⟩
      ·rw [if_neg c14] at H
       have c14b0 : (t1166 == t1167) = false := beq_eq_false_iff_ne.mpr c14
       have c14b1 : (t1166 != t1167) = true := bne_iff_ne.mpr c14
       (first | rw [c14b0] | (simp only [i64_w, i32_w]; rw [c14b0]) | skip)
       have H' := A_ H
       clear H
       go_wp2_with (first | ((with_reducible refine gate_callee (f := 87) rfl ?_); refine gl_ (some 25) Try.func87 #[.int .i64 a0, .int .u64 a2, .int .u64 a1] ?_; (with_reducible refine (sum_Add.calls kj5 a0 a2 a1 t1167 _ A13.out).mono ?_); rintro e w29 ⟨rfl, hb⟩; refine ⟨_, rfl, ?_⟩; have n0_ := A_ (below_step (hb_ HB.out) hb); clear HB; have HB := n0_; clear n0_; (try clear hb); (try clear hb2); (try clear hk); (try clear hi)))
       go_meet
       case rel => exact ⟨_, (true), sm_, H', ⟨by have := HJ5.out; first | omega | exact Nat.le_refl _⟩, ⟨hb_ HB.out⟩⟩
     case rest =>
      clear HC11
      try clear c1
      try clear c2
      try clear p2
      try clear c5
      try clear c8
      try clear c8b0
      try clear c8b1
      try clear c9
      try clear c14
      try clear c14b0
      try clear c14b1
      try clear c16
      try clear c18
      try clear c18b0
      try clear c18b1
      try clear c26
      try clear p2
      obtain ⟨kq, x44_10, rfl, HA, HJ10, HB⟩ := hcut
      cases kq with
      | zero => exact absurd HA.out (by simp [L04_SumKeeps.j1])
      | succ kj10 =>
       have H := HA.out
       clear HA
       simp only [L04_SumKeeps.j1] at H
       by_cases c30 : x44_10 = true
       ·subst c30
        have H1 : (some false) = some r := by rw [if_pos rfl] at H; exact H
        clear H;have H := H1;clear H1
        exact absurd ((Option.some.inj H).trans hr_.out) (by decide)
       ·replace c30 := Bool.eq_false_iff.mpr c30
        subst c30
        have H1 : ((shape_Open.f kj10 a0 a1).bind fun bt1172 => (if bt1172.2.1 = 3 then ((shape_Nan.f a0).bind fun t1177 => (if t1166 = t1177 then ((sum_Sub.f kj10 a0 a2 a1).bind fun t1178 => (some (t1178 == t1166))) else (some false))) else (if bt1172.2.1 = 2 then ((sum_Sub.f kj10 a0 a1 a1).bind fun t1179 => ((shape_Nan.f a0).bind fun t1180 => (L04_SumKeeps.j2 kj10 a0 a1 a2 (t1179 != t1180) bt1172.1 bt1172.2.1 bt1172.2.2.1 bt1172.2.2.2))) else ((sum_Sub.f kj10 a0 a1 a1).bind fun t1181 => (if t1181 = 0 then (L04_SumKeeps.j2 kj10 a0 a1 a2 false bt1172.1 bt1172.2.1 bt1172.2.2.1 bt1172.2.2.2) else (L04_SumKeeps.j2 kj10 a0 a1 a2 true bt1172.1 bt1172.2.1 bt1172.2.2.1 bt1172.2.2.2)))))) = some r := by rw [if_neg (show ¬ (false = true) by decide)] at H; exact H
        clear H;have H := H1;clear H1
        replace H := ob_ H
        obtain ⟨⟨t1172, t1173, t1174, t1175⟩, A310, H⟩ := H
        replace H : (if t1173 = 3 then ((shape_Nan.f a0).bind fun t1177 => (if t1166 = t1177 then ((sum_Sub.f kj10 a0 a2 a1).bind fun t1178 => (some (t1178 == t1166))) else (some false))) else (if t1173 = 2 then ((sum_Sub.f kj10 a0 a1 a1).bind fun t1179 => ((shape_Nan.f a0).bind fun t1180 => (L04_SumKeeps.j2 kj10 a0 a1 a2 (t1179 != t1180) t1172 t1173 t1174 t1175))) else ((sum_Sub.f kj10 a0 a1 a1).bind fun t1181 => (if t1181 = 0 then (L04_SumKeeps.j2 kj10 a0 a1 a2 false t1172 t1173 t1174 t1175) else (L04_SumKeeps.j2 kj10 a0 a1 a2 true t1172 t1173 t1174 t1175))))) = some r := H
        have A31 := A_ A310;clear A310
        by_cases c32 : t1173 = 3
        ·rw [if_pos c32] at H
         have c32b0 : (t1173 == 3) = true := beq_iff_eq.mpr c32
         have c32b1 : (t1173 != 3) = false := bne_eq_false_iff_eq.mpr c32
         clear c32
         replace H := ob_ H
         obtain ⟨t1177, A330, H⟩ := H
         replace H : (if t1166 = t1177 then ((sum_Sub.f kj10 a0 a2 a1).bind fun t1178 => (some (t1178 == t1166))) else (some false)) = some r := H
         have A33 := A_ A330;clear A330
         by_cases c34 : t1166 = t1177
         ·rw [if_pos c34] at H
          have c34b0 : (t1166 == t1177) = true := beq_iff_eq.mpr c34
          have c34b1 : (t1166 != t1177) = false := bne_eq_false_iff_eq.mpr c34
          clear c34
          replace H := ob_ H
          obtain ⟨t1178, A350, H⟩ := H
          replace H : (some (t1178 == t1166)) = some r := H
          have A35 := A_ A350;clear A350
          obtain rfl := Option.some.inj H
          go_wp2_with (first | ((with_reducible refine gate_callee (f := 48) rfl ?_); refine gl_ (some 47) Try.func48 #[.int .i64 a0, .int .u64 a1] ?_; (with_reducible refine (shape_Open.calls kj10 a0 a1 t1172 t1173 t1174 t1175 _ A31.out).mono ?_); rintro e w36 ⟨rfl, hb⟩; refine ⟨_, rfl, ?_⟩; have n0_ := A_ (below_step (hb_ HB.out) hb); clear HB; have HB := n0_; clear n0_; (try clear hb); (try clear hb2); (try clear hk); (try clear hi)) | ((with_reducible refine gate_dst (N := 8) rfl ?_); refine be_ 8 #[.bool false, .int .i64 0, .int .i64 0, .int .u64 0] 50 ?_; intro gb1176 hg w37 hbox hb; have n0_ := A_ (below_step (hb_ HB.out) hb); have n1_ := A_ (hbox); have n2_ := A_ (sz_ hg (hb_ HB.out)); have n3_ := A_ (sz_ hg (hb_ HB.out)); clear HB; have HB := n0_; have BK1176 := n1_; have GW1176 := n2_; have GE1176 := n3_; clear n0_ n1_ n2_ n3_; clear hb hbox hg; have hcz38_0 : w37.cell? ⟨gb1176, 0, none⟩ = some (.bool false) := bc_ BK1176.out 0; have hcz38_1 : w37.cell? ⟨gb1176, 1, none⟩ = some (.int .i64 0) := bc_ BK1176.out 1; have hcz38_2 : w37.cell? ⟨gb1176, 2, none⟩ = some (.int .i64 0) := bc_ BK1176.out 2; have hcz38_3 : w37.cell? ⟨gb1176, 3, none⟩ = some (.int .u64 0) := bc_ BK1176.out 3; have hfz38_0 := blk_frozen BK1176.out 0; have hfz38_1 := blk_frozen BK1176.out 1; have hfz38_2 := blk_frozen BK1176.out 2; have hfz38_3 := blk_frozen BK1176.out 3) | ((with_reducible refine gate_callee (f := 76) rfl ?_); refine gl_ (some 53) Try.func76 #[.int .i64 a0] ?_; (with_reducible refine (shape_Nan.calls a0 t1177 _ A33.out).mono ?_); rintro e w39 ⟨rfl, hb⟩; refine ⟨_, rfl, ?_⟩; have n0_ := A_ (blk_below (g := gb1176) (o := .cells #[.bool t1172, .int .i64 t1173, .int .i64 t1174, .int .u64 t1175] 50 (0, 0)) (by (with_reducible repeat (first | refine blk_drewN ?_ _ | refine blk_drew ?_ | refine blk_alloc ?_ _)); refine blk_put (cs := #[.bool t1172, .int .i64 t1173, .int .i64 t1174, .int .u64 0]) ?_ 3 _ rfl; (with_reducible repeat (first | refine blk_drewN ?_ _ | refine blk_drew ?_ | refine blk_alloc ?_ _)); refine blk_put (cs := #[.bool t1172, .int .i64 t1173, .int .i64 0, .int .u64 0]) ?_ 2 _ rfl; (with_reducible repeat (first | refine blk_drewN ?_ _ | refine blk_drew ?_ | refine blk_alloc ?_ _)); refine blk_put (cs := #[.bool t1172, .int .i64 0, .int .i64 0, .int .u64 0]) ?_ 1 _ rfl; (with_reducible repeat (first | refine blk_drewN ?_ _ | refine blk_drew ?_ | refine blk_alloc ?_ _)); refine blk_put (cs := #[.bool false, .int .i64 0, .int .i64 0, .int .u64 0]) ?_ 0 _ rfl; (with_reducible repeat (first | refine blk_drewN ?_ _ | refine blk_drew ?_ | refine blk_alloc ?_ _)); exact BK1176.out) hb); have n1_ := A_ (below_step (hb1_ HB.out GE1176.out) hb); clear BK1176; clear HB; have BK1176 := n0_; have HB := n1_; clear n0_ n1_; (try clear hb); (try clear hb2); (try clear hk); (try clear hi)) | (go_at_call 88; (with_reducible refine (sum_Sub.calls kj10 a0 a2 a1 t1178 _ A35.out).mono ?_); rintro e w40 ⟨rfl, hb⟩; have n0_ := A_ (bb_ BK1176.out hb); have n1_ := A_ (below_step (hb1_ HB.out GE1176.out) hb); clear BK1176; clear HB; have BK1176 := n0_; have HB := n1_; clear n0_ n1_; (try clear hb); (try clear hb2); (try clear hk); (try clear hi)))
          go_ret
          exact ⟨er_, hb1_ HB.out GE1176.out⟩
         ·rw [if_neg c34] at H
          have c34b0 : (t1166 == t1177) = false := beq_eq_false_iff_ne.mpr c34
          have c34b1 : (t1166 != t1177) = true := bne_iff_ne.mpr c34
          exact absurd ((Option.some.inj H).trans hr_.out) (by decide)
        ·rw [if_neg c32] at H
         have c32b0 : (t1173 == 3) = false := beq_eq_false_iff_ne.mpr c32
         have c32b1 : (t1173 != 3) = true := bne_iff_ne.mpr c32
         have HC41 := A_ H;clear H
         go_upto_region 11 with (first | ((with_reducible refine gate_callee (f := 48) rfl ?_); refine gl_ (some 47) Try.func48 #[.int .i64 a0, .int .u64 a1] ?_; (with_reducible refine (shape_Open.calls kj10 a0 a1 t1172 t1173 t1174 t1175 _ A31.out).mono ?_); rintro e w42 ⟨rfl, hb⟩; refine ⟨_, rfl, ?_⟩; have n0_ := A_ (below_step (hb_ HB.out) hb); clear HB; have HB := n0_; clear n0_; (try clear hb); (try clear hb2); (try clear hk); (try clear hi)) | ((with_reducible refine gate_dst (N := 8) rfl ?_); refine be_ 8 #[.bool false, .int .i64 0, .int .i64 0, .int .u64 0] 50 ?_; intro gb1176 hg w43 hbox hb; have n0_ := A_ (below_step (hb_ HB.out) hb); have n1_ := A_ (hbox); have n2_ := A_ (sz_ hg (hb_ HB.out)); have n3_ := A_ (sz_ hg (hb_ HB.out)); clear HB; have HB := n0_; have BK1176 := n1_; have GW1176 := n2_; have GE1176 := n3_; clear n0_ n1_ n2_ n3_; clear hb hbox hg; have hcz44_0 : w43.cell? ⟨gb1176, 0, none⟩ = some (.bool false) := bc_ BK1176.out 0; have hcz44_1 : w43.cell? ⟨gb1176, 1, none⟩ = some (.int .i64 0) := bc_ BK1176.out 1; have hcz44_2 : w43.cell? ⟨gb1176, 2, none⟩ = some (.int .i64 0) := bc_ BK1176.out 2; have hcz44_3 : w43.cell? ⟨gb1176, 3, none⟩ = some (.int .u64 0) := bc_ BK1176.out 3; have hfz44_0 := blk_frozen BK1176.out 0; have hfz44_1 := blk_frozen BK1176.out 1; have hfz44_2 := blk_frozen BK1176.out 2; have hfz44_3 := blk_frozen BK1176.out 3))
         (try simp only [Act.put, lI_, l0_, lS_])
         go_cut [86] (fun v86 wc => ∃ (kq : Nat) (x86_40 : Bool), v86 = .bool x86_40 ∧ Aside0 (L04_SumKeeps.j2 kq a0 a1 a2 x86_40 t1172 t1173 t1174 t1175 = some r) ∧ Aside0 (kq ≤ kj10) ∧ Aside0 (wc.heap[gb1176]? = some (.cells #[.bool t1172, .int .i64 t1173, .int .i64 t1174, .int .u64 t1175] 50 (0, 0))) ∧ Aside0 (Below w.heap.size w wc))
         case first =>
          have H := HC41.out
          clear HC41
          by_cases c45 : t1173 = 2
          ·rw [if_pos c45] at H
           have c45b0 : (t1173 == 2) = true := beq_iff_eq.mpr c45
           have c45b1 : (t1173 != 2) = false := bne_eq_false_iff_eq.mpr c45
           clear c45
           (first | rw [c45b0] | (simp only [i64_w, i32_w]; rw [c45b0]) | skip)
           replace H := ob_ H
           obtain ⟨t1179, A460, H⟩ := H
           replace H : ((shape_Nan.f a0).bind fun t1180 => (L04_SumKeeps.j2 kj10 a0 a1 a2 (t1179 != t1180) t1172 t1173 t1174 t1175)) = some r := H
           have A46 := A_ A460;clear A460
           replace H := ob_ H
           obtain ⟨t1180, A470, H⟩ := H
           replace H : (L04_SumKeeps.j2 kj10 a0 a1 a2 (t1179 != t1180) t1172 t1173 t1174 t1175) = some r := H
           have A47 := A_ A470;clear A470
           have H' := A_ H
           clear H
           have hcz48_0 : w43.cell? ⟨gb1176, 0, none⟩ = some (.bool false) := bc_ BK1176.out 0
           have hcz48_1 : w43.cell? ⟨gb1176, 1, none⟩ = some (.int .i64 0) := bc_ BK1176.out 1
           have hcz48_2 : w43.cell? ⟨gb1176, 2, none⟩ = some (.int .i64 0) := bc_ BK1176.out 2
           have hcz48_3 : w43.cell? ⟨gb1176, 3, none⟩ = some (.int .u64 0) := bc_ BK1176.out 3
           have hfz48_0 := blk_frozen BK1176.out 0
           have hfz48_1 := blk_frozen BK1176.out 1
           have hfz48_2 := blk_frozen BK1176.out 2
           have hfz48_3 := blk_frozen BK1176.out 3
           go_wp2_with (first | (go_at_call 88; (with_reducible refine (sum_Sub.calls kj10 a0 a1 a1 t1179 _ A46.out).mono ?_); rintro e w49 ⟨rfl, hb⟩; have n0_ := A_ (blk_below (g := gb1176) (o := .cells #[.bool t1172, .int .i64 t1173, .int .i64 t1174, .int .u64 t1175] 50 (0, 0)) (by (with_reducible repeat (first | refine blk_drewN ?_ _ | refine blk_drew ?_ | refine blk_alloc ?_ _)); refine blk_put (cs := #[.bool t1172, .int .i64 t1173, .int .i64 t1174, .int .u64 0]) ?_ 3 _ rfl; (with_reducible repeat (first | refine blk_drewN ?_ _ | refine blk_drew ?_ | refine blk_alloc ?_ _)); refine blk_put (cs := #[.bool t1172, .int .i64 t1173, .int .i64 0, .int .u64 0]) ?_ 2 _ rfl; (with_reducible repeat (first | refine blk_drewN ?_ _ | refine blk_drew ?_ | refine blk_alloc ?_ _)); refine blk_put (cs := #[.bool t1172, .int .i64 0, .int .i64 0, .int .u64 0]) ?_ 1 _ rfl; (with_reducible repeat (first | refine blk_drewN ?_ _ | refine blk_drew ?_ | refine blk_alloc ?_ _)); refine blk_put (cs := #[.bool false, .int .i64 0, .int .i64 0, .int .u64 0]) ?_ 0 _ rfl; (with_reducible repeat (first | refine blk_drewN ?_ _ | refine blk_drew ?_ | refine blk_alloc ?_ _)); exact BK1176.out) hb); have n1_ := A_ (below_step (hb1_ HB.out GE1176.out) hb); clear BK1176; clear HB; have BK1176 := n0_; have HB := n1_; clear n0_ n1_; (try clear hb); (try clear hb2); (try clear hk); (try clear hi)) | (go_at_call 76; (with_reducible refine (shape_Nan.calls a0 t1180 _ A47.out).mono ?_); rintro e w50 ⟨rfl, hb⟩; have n0_ := A_ (bb_ BK1176.out hb); have n1_ := A_ (below_step (hb1_ HB.out GE1176.out) hb); clear BK1176; clear HB; have BK1176 := n0_; have HB := n1_; clear n0_ n1_; (try clear hb); (try clear hb2); (try clear hk); (try clear hi)))
           go_meet
           case rel => exact ⟨_, ((t1179 != t1180)), sm_, H', ⟨by have := HJ5.out; have := HJ10.out; first | omega | exact Nat.le_refl _⟩, ⟨bk_ BK1176.out⟩, ⟨hb1_ HB.out GE1176.out⟩⟩
          ·rw [if_neg c45] at H
           have c45b0 : (t1173 == 2) = false := beq_eq_false_iff_ne.mpr c45
           have c45b1 : (t1173 != 2) = true := bne_iff_ne.mpr c45
           (first | rw [c45b0] | (simp only [i64_w, i32_w]; rw [c45b0]) | skip)
           replace H := ob_ H
           obtain ⟨t1181, A510, H⟩ := H
           replace H : (if t1181 = 0 then (L04_SumKeeps.j2 kj10 a0 a1 a2 false t1172 t1173 t1174 t1175) else (L04_SumKeeps.j2 kj10 a0 a1 a2 true t1172 t1173 t1174 t1175)) = some r := H
           have A51 := A_ A510;clear A510
           by_cases c52 : t1181 = 0
           ·rw [if_pos c52] at H
            have c52b0 : (t1181 == 0) = true := beq_iff_eq.mpr c52
            have c52b1 : (t1181 != 0) = false := bne_eq_false_iff_eq.mpr c52
            clear c52
            have H' := A_ H
            clear H
            have hcz53_0 : w43.cell? ⟨gb1176, 0, none⟩ = some (.bool false) := bc_ BK1176.out 0
            have hcz53_1 : w43.cell? ⟨gb1176, 1, none⟩ = some (.int .i64 0) := bc_ BK1176.out 1
            have hcz53_2 : w43.cell? ⟨gb1176, 2, none⟩ = some (.int .i64 0) := bc_ BK1176.out 2
            have hcz53_3 : w43.cell? ⟨gb1176, 3, none⟩ = some (.int .u64 0) := bc_ BK1176.out 3
            have hfz53_0 := blk_frozen BK1176.out 0
            have hfz53_1 := blk_frozen BK1176.out 1
            have hfz53_2 := blk_frozen BK1176.out 2
            have hfz53_3 := blk_frozen BK1176.out 3
            go_wp2_with (first | (go_at_call 88; (with_reducible refine (sum_Sub.calls kj10 a0 a1 a1 t1181 _ A51.out).mono ?_); rintro e w54 ⟨rfl, hb⟩; have n0_ := A_ (blk_below (g := gb1176) (o := .cells #[.bool t1172, .int .i64 t1173, .int .i64 t1174, .int .u64 t1175] 50 (0, 0)) (by (with_reducible repeat (first | refine blk_drewN ?_ _ | refine blk_drew ?_ | refine blk_alloc ?_ _)); refine blk_put (cs := #[.bool t1172, .int .i64 t1173, .int .i64 t1174, .int .u64 0]) ?_ 3 _ rfl; (with_reducible repeat (first | refine blk_drewN ?_ _ | refine blk_drew ?_ | refine blk_alloc ?_ _)); refine blk_put (cs := #[.bool t1172, .int .i64 t1173, .int .i64 0, .int .u64 0]) ?_ 2 _ rfl; (with_reducible repeat (first | refine blk_drewN ?_ _ | refine blk_drew ?_ | refine blk_alloc ?_ _)); refine blk_put (cs := #[.bool t1172, .int .i64 0, .int .i64 0, .int .u64 0]) ?_ 1 _ rfl; (with_reducible repeat (first | refine blk_drewN ?_ _ | refine blk_drew ?_ | refine blk_alloc ?_ _)); refine blk_put (cs := #[.bool false, .int .i64 0, .int .i64 0, .int .u64 0]) ?_ 0 _ rfl; (with_reducible repeat (first | refine blk_drewN ?_ _ | refine blk_drew ?_ | refine blk_alloc ?_ _)); exact BK1176.out) hb); have n1_ := A_ (below_step (hb1_ HB.out GE1176.out) hb); clear BK1176; clear HB; have BK1176 := n0_; have HB := n1_; clear n0_ n1_; (try clear hb); (try clear hb2); (try clear hk); (try clear hi); have hcz55_0 : w54.cell? ⟨gb1176, 0, none⟩ = some (.bool t1172) := bc_ BK1176.out 0; have hcz55_1 : w54.cell? ⟨gb1176, 1, none⟩ = some (.int .i64 t1173) := bc_ BK1176.out 1; have hcz55_2 : w54.cell? ⟨gb1176, 2, none⟩ = some (.int .i64 t1174) := bc_ BK1176.out 2; have hcz55_3 : w54.cell? ⟨gb1176, 3, none⟩ = some (.int .u64 t1175) := bc_ BK1176.out 3; have hfz55_0 := blk_frozen BK1176.out 0; have hfz55_1 := blk_frozen BK1176.out 1; have hfz55_2 := blk_frozen BK1176.out 2; have hfz55_3 := blk_frozen BK1176.out 3))
            go_meet
            case rel => exact ⟨_, (false), sm_, H', ⟨by have := HJ5.out; have := HJ10.out; first | omega | exact Nat.le_refl _⟩, ⟨bk_ BK1176.out⟩, ⟨hb1_ HB.out GE1176.out⟩⟩
           ·rw [if_neg c52] at H
            have c52b0 : (t1181 == 0) = false := beq_eq_false_iff_ne.mpr c52
            have c52b1 : (t1181 != 0) = true := bne_iff_ne.mpr c52
            have H' := A_ H
            clear H
            have hcz56_0 : w43.cell? ⟨gb1176, 0, none⟩ = some (.bool false) := bc_ BK1176.out 0
            have hcz56_1 : w43.cell? ⟨gb1176, 1, none⟩ = some (.int .i64 0) := bc_ BK1176.out 1
            have hcz56_2 : w43.cell? ⟨gb1176, 2, none⟩ = some (.int .i64 0) := bc_ BK1176.out 2
            have hcz56_3 : w43.cell? ⟨gb1176, 3, none⟩ = some (.int .u64 0) := bc_ BK1176.out 3
            have hfz56_0 := blk_frozen BK1176.out 0
            have hfz56_1 := blk_frozen BK1176.out 1
            have hfz56_2 := blk_frozen BK1176.out 2
            have hfz56_3 := blk_frozen BK1176.out 3
            go_wp2_with (first | (go_at_call 88; (with_reducible refine (sum_Sub.calls kj10 a0 a1 a1 t1181 _ A51.out).mono ?_); rintro e w57 ⟨rfl, hb⟩; have n0_ := A_ (blk_below (g := gb1176) (o := .cells #[.bool t1172, .int .i64 t1173, .int .i64 t1174, .int .u64 t1175] 50 (0, 0)) (by (with_reducible repeat (first | refine blk_drewN ?_ _ | refine blk_drew ?_ | refine blk_alloc ?_ _)); refine blk_put (cs := #[.bool t1172, .int .i64 t1173, .int .i64 t1174, .int .u64 0]) ?_ 3 _ rfl; (with_reducible repeat (first | refine blk_drewN ?_ _ | refine blk_drew ?_ | refine blk_alloc ?_ _)); refine blk_put (cs := #[.bool t1172, .int .i64 t1173, .int .i64 0, .int .u64 0]) ?_ 2 _ rfl; (with_reducible repeat (first | refine blk_drewN ?_ _ | refine blk_drew ?_ | refine blk_alloc ?_ _)); refine blk_put (cs := #[.bool t1172, .int .i64 0, .int .i64 0, .int .u64 0]) ?_ 1 _ rfl; (with_reducible repeat (first | refine blk_drewN ?_ _ | refine blk_drew ?_ | refine blk_alloc ?_ _)); refine blk_put (cs := #[.bool false, .int .i64 0, .int .i64 0, .int .u64 0]) ?_ 0 _ rfl; (with_reducible repeat (first | refine blk_drewN ?_ _ | refine blk_drew ?_ | refine blk_alloc ?_ _)); exact BK1176.out) hb); have n1_ := A_ (below_step (hb1_ HB.out GE1176.out) hb); clear BK1176; clear HB; have BK1176 := n0_; have HB := n1_; clear n0_ n1_; (try clear hb); (try clear hb2); (try clear hk); (try clear hi)))
            go_meet
            case rel => exact ⟨_, (true), sm_, H', ⟨by have := HJ5.out; have := HJ10.out; first | omega | exact Nat.le_refl _⟩, ⟨bk_ BK1176.out⟩, ⟨hb1_ HB.out GE1176.out⟩⟩
         case rest =>
          clear HC41
          try clear c1
          try clear c2
          try clear p2
          try clear c3
          try clear c4
          try clear c5
          try clear c7
          try clear c8
          try clear c8b0
          try clear c8b1
          try clear c9
          try clear c14
          try clear c14b0
          try clear c14b1
          try clear c16
          try clear c18
          try clear c18b0
          try clear c18b1
          try clear c26
          try clear c30
          try clear c32
          try clear c32b0
          try clear c32b1
          try clear c34
          try clear c34b0
          try clear c34b1
          try clear c45
          try clear c45b0
          try clear c45b1
          try clear c48
          try clear c52
          try clear c52b0
          try clear c52b1
          try clear hcz38_0
          try clear hcz38_1
          try clear hcz38_2
          try clear hcz38_3
          try clear hcz44_0
          try clear hcz44_1
          try clear hcz44_2
          try clear hcz44_3
          try clear hcz48_0
          try clear hcz48_1
          try clear hcz48_2
          try clear hcz48_3
          try clear hcz53_0
          try clear hcz53_1
          try clear hcz53_2
          try clear hcz53_3
          try clear hcz55_0
          try clear hcz55_1
          try clear hcz55_2
          try clear hcz55_3
          try clear hcz56_0
          try clear hcz56_1
          try clear hcz56_2
          try clear hcz56_3
          try clear hfz38_0
          try clear hfz38_1
          try clear hfz38_2
          try clear hfz38_3
          try clear hfz44_0
          try clear hfz44_1
          try clear hfz44_2
          try clear hfz44_3
          try clear hfz48_0
          try clear hfz48_1
          try clear hfz48_2
          try clear hfz48_3
          try clear hfz53_0
          try clear hfz53_1
          try clear hfz53_2
          try clear hfz53_3
          try clear hfz55_0
          try clear hfz55_1
          try clear hfz55_2
          try clear hfz55_3
          try clear hfz56_0
          try clear hfz56_1
          try clear hfz56_2
          try clear hfz56_3
          try clear p2
          obtain ⟨kq, x86_40, rfl, HA, HJ40, BK1176, HB⟩ := hcut
          cases kq with
          | zero => exact absurd HA.out (by simp [L04_SumKeeps.j2])
          | succ kj40 =>
           have H := HA.out
           clear HA
           simp only [L04_SumKeeps.j2] at H
           by_cases c58 : x86_40 = true
           ·subst c58
            have H1 : (some false) = some r := by rw [if_pos rfl] at H; exact H
            clear H;have H := H1;clear H1
            exact absurd ((Option.some.inj H).trans hr_.out) (by decide)
           ·replace c58 := Bool.eq_false_iff.mpr c58
            subst c58
            have H1 : ((sum_Sub.f kj40 a0 a2 a1).bind fun t1182 => ((shape_Zero.f a0 true).bind fun t1183 => ((sum_Add.f kj40 a0 a2 (Go.bits .xor .u64 a1 t1183)).bind fun t1184 => (if t1182 = t1184 then (if t1173 = 0 then (some true) else ((sum_Add.f kj40 a0 a1 0).bind fun t1185 => ((shape_Cut.f a0 a1).bind fun t1186 => (some (t1185 == t1186))))) else (some false))))) = some r := by rw [if_neg (show ¬ (false = true) by decide)] at H; exact H
            clear H;have H := H1;clear H1
            replace H := ob_ H
            obtain ⟨t1182, A590, H⟩ := H
            replace H : ((shape_Zero.f a0 true).bind fun t1183 => ((sum_Add.f kj40 a0 a2 (Go.bits .xor .u64 a1 t1183)).bind fun t1184 => (if t1182 = t1184 then (if t1173 = 0 then (some true) else ((sum_Add.f kj40 a0 a1 0).bind fun t1185 => ((shape_Cut.f a0 a1).bind fun t1186 => (some (t1185 == t1186))))) else (some false)))) = some r := H
            have A59 := A_ A590;clear A590
            replace H := ob_ H
            obtain ⟨t1183, A600, H⟩ := H
            replace H : ((sum_Add.f kj40 a0 a2 (Go.bits .xor .u64 a1 t1183)).bind fun t1184 => (if t1182 = t1184 then (if t1173 = 0 then (some true) else ((sum_Add.f kj40 a0 a1 0).bind fun t1185 => ((shape_Cut.f a0 a1).bind fun t1186 => (some (t1185 == t1186))))) else (some false))) = some r := H
            have A60 := A_ A600;clear A600
            replace H := ob_ H
            obtain ⟨t1184, A610, H⟩ := H
            replace H : (if t1182 = t1184 then (if t1173 = 0 then (some true) else ((sum_Add.f kj40 a0 a1 0).bind fun t1185 => ((shape_Cut.f a0 a1).bind fun t1186 => (some (t1185 == t1186))))) else (some false)) = some r := H
            have A61 := A_ A610;clear A610
            by_cases c62 : t1182 = t1184
            ·rw [if_pos c62] at H
             have c62b0 : (t1182 == t1184) = true := beq_iff_eq.mpr c62
             have c62b1 : (t1182 != t1184) = false := bne_eq_false_iff_eq.mpr c62
             clear c62
             by_cases c63 : t1173 = 0
             ·rw [if_pos c63] at H
              have c63b0 : (t1173 == 0) = true := beq_iff_eq.mpr c63
              have c63b1 : (t1173 != 0) = false := bne_eq_false_iff_eq.mpr c63
              clear c63
              obtain rfl := Option.some.inj H
              go_wp2_with (first | ((with_reducible refine gate_callee (f := 88) rfl ?_); refine gl_ (some 90) Try.func88 #[.int .i64 a0, .int .u64 a2, .int .u64 a1] ?_; (with_reducible refine (sum_Sub.calls kj40 a0 a2 a1 t1182 _ A59.out).mono ?_); rintro e w64 ⟨rfl, hb⟩; refine ⟨_, rfl, ?_⟩; have n0_ := A_ (bb_ BK1176.out hb); have n1_ := A_ (below_step (hb1_ HB.out GE1176.out) hb); clear BK1176; clear HB; have BK1176 := n0_; have HB := n1_; clear n0_ n1_; (try clear hb); (try clear hb2); (try clear hk); (try clear hi)) | ((with_reducible refine gate_callee (f := 52) rfl ?_); refine gl_ (some 95) Try.func52 #[.int .i64 a0, .bool true] ?_; (with_reducible refine (shape_Zero.calls a0 true t1183 _ A60.out).mono ?_); rintro e w65 ⟨rfl, hb⟩; refine ⟨_, rfl, ?_⟩; have n0_ := A_ (bb_ BK1176.out hb); have n1_ := A_ (below_step (hb1_ HB.out GE1176.out) hb); clear BK1176; clear HB; have BK1176 := n0_; have HB := n1_; clear n0_ n1_; (try clear hb); (try clear hb2); (try clear hk); (try clear hi)) | ((with_reducible refine gate_callee (f := 87) rfl ?_); refine gl_ (some 97) Try.func87 #[.int .i64 a0, .int .u64 a2, .int .u64 (Go.bits .xor .u64 a1 t1183)] ?_; (with_reducible refine (sum_Add.calls kj40 a0 a2 (Go.bits .xor .u64 a1 t1183) t1184 _ A61.out).mono ?_); rintro e w66 ⟨rfl, hb⟩; refine ⟨_, rfl, ?_⟩; have n0_ := A_ (bb_ BK1176.out hb); have n1_ := A_ (below_step (hb1_ HB.out GE1176.out) hb); clear BK1176; clear HB; have BK1176 := n0_; have HB := n1_; clear n0_ n1_; (try clear hb); (try clear hb2); (try clear hk); (try clear hi); have hcz67_0 : w66.cell? ⟨gb1176, 0, none⟩ = some (.bool t1172) := bc_ BK1176.out 0; have hcz67_1 : w66.cell? ⟨gb1176, 1, none⟩ = some (.int .i64 t1173) := bc_ BK1176.out 1; have hcz67_2 : w66.cell? ⟨gb1176, 2, none⟩ = some (.int .i64 t1174) := bc_ BK1176.out 2; have hcz67_3 : w66.cell? ⟨gb1176, 3, none⟩ = some (.int .u64 t1175) := bc_ BK1176.out 3; have hfz67_0 := blk_frozen BK1176.out 0; have hfz67_1 := blk_frozen BK1176.out 1; have hfz67_2 := blk_frozen BK1176.out 2; have hfz67_3 := blk_frozen BK1176.out 3))
              go_ret
              exact ⟨er_, hb1_ HB.out GE1176.out⟩
             ·rw [if_neg c63] at H
              have c63b0 : (t1173 == 0) = false := beq_eq_false_iff_ne.mpr c63
              have c63b1 : (t1173 != 0) = true := bne_iff_ne.mpr c63
              replace H := ob_ H
              obtain ⟨t1185, A680, H⟩ := H
              replace H : ((shape_Cut.f a0 a1).bind fun t1186 => (some (t1185 == t1186))) = some r := H
              have A68 := A_ A680;clear A680
              replace H := ob_ H
              obtain ⟨t1186, A690, H⟩ := H
              replace H : (some (t1185 == t1186)) = some r := H
              have A69 := A_ A690;clear A690
              obtain rfl := Option.some.inj H
              go_wp2_with (first | ((with_reducible refine gate_callee (f := 88) rfl ?_); refine gl_ (some 90) Try.func88 #[.int .i64 a0, .int .u64 a2, .int .u64 a1] ?_; (with_reducible refine (sum_Sub.calls kj40 a0 a2 a1 t1182 _ A59.out).mono ?_); rintro e w70 ⟨rfl, hb⟩; refine ⟨_, rfl, ?_⟩; have n0_ := A_ (bb_ BK1176.out hb); have n1_ := A_ (below_step (hb1_ HB.out GE1176.out) hb); clear BK1176; clear HB; have BK1176 := n0_; have HB := n1_; clear n0_ n1_; (try clear hb); (try clear hb2); (try clear hk); (try clear hi)) | ((with_reducible refine gate_callee (f := 52) rfl ?_); refine gl_ (some 95) Try.func52 #[.int .i64 a0, .bool true] ?_; (with_reducible refine (shape_Zero.calls a0 true t1183 _ A60.out).mono ?_); rintro e w71 ⟨rfl, hb⟩; refine ⟨_, rfl, ?_⟩; have n0_ := A_ (bb_ BK1176.out hb); have n1_ := A_ (below_step (hb1_ HB.out GE1176.out) hb); clear BK1176; clear HB; have BK1176 := n0_; have HB := n1_; clear n0_ n1_; (try clear hb); (try clear hb2); (try clear hk); (try clear hi)) | ((with_reducible refine gate_callee (f := 87) rfl ?_); refine gl_ (some 97) Try.func87 #[.int .i64 a0, .int .u64 a2, .int .u64 (Go.bits .xor .u64 a1 t1183)] ?_; (with_reducible refine (sum_Add.calls kj40 a0 a2 (Go.bits .xor .u64 a1 t1183) t1184 _ A61.out).mono ?_); rintro e w72 ⟨rfl, hb⟩; refine ⟨_, rfl, ?_⟩; have n0_ := A_ (bb_ BK1176.out hb); have n1_ := A_ (below_step (hb1_ HB.out GE1176.out) hb); clear BK1176; clear HB; have BK1176 := n0_; have HB := n1_; clear n0_ n1_; (try clear hb); (try clear hb2); (try clear hk); (try clear hi); have hcz73_0 : w72.cell? ⟨gb1176, 0, none⟩ = some (.bool t1172) := bc_ BK1176.out 0; have hcz73_1 : w72.cell? ⟨gb1176, 1, none⟩ = some (.int .i64 t1173) := bc_ BK1176.out 1; have hcz73_2 : w72.cell? ⟨gb1176, 2, none⟩ = some (.int .i64 t1174) := bc_ BK1176.out 2; have hcz73_3 : w72.cell? ⟨gb1176, 3, none⟩ = some (.int .u64 t1175) := bc_ BK1176.out 3; have hfz73_0 := blk_frozen BK1176.out 0; have hfz73_1 := blk_frozen BK1176.out 1; have hfz73_2 := blk_frozen BK1176.out 2; have hfz73_3 := blk_frozen BK1176.out 3) | (go_at_call 87; (with_reducible refine (sum_Add.calls kj40 a0 a1 0 t1185 _ A68.out).mono ?_); rintro e w74 ⟨rfl, hb⟩; have n0_ := A_ (bb_ BK1176.out hb); have n1_ := A_ (below_step (hb1_ HB.out GE1176.out) hb); clear BK1176; clear HB; have BK1176 := n0_; have HB := n1_; clear n0_ n1_; (try clear hb); (try clear hb2); (try clear hk); (try clear hi)) | (go_at_call 49; (with_reducible refine (shape_Cut.calls a0 a1 t1186 _ A69.out).mono ?_); rintro e w' ⟨rfl, ⟨nd, rfl⟩⟩))
              go_ret
              exact ⟨er_, hb1_ HB.out GE1176.out⟩
            ·rw [if_neg c62] at H
             have c62b0 : (t1182 == t1184) = false := beq_eq_false_iff_ne.mpr c62
             have c62b1 : (t1182 != t1184) = true := bne_iff_ne.mpr c62
             exact absurd ((Option.some.inj H).trans hr_.out) (by decide)
 ·replace c5 := Bool.eq_false_iff.mpr c5
  subst c5
  have H1 : (some false) = some r := by rw [if_neg (show ¬ (false = true) by decide)] at H; exact H
  clear H;have H := H1;clear H1
  exact absurd ((Option.some.inj H).trans hr_.out) (by decide)
def L04_SumKeeps.Pure : Prop := ∀ (a0 : Int) (a1 : Int) (a2 : Int), (Lit.int .i64 a0).wf = true → (Lit.int .u64 a1).wf = true → (Lit.int .u64 a2).wf = true → ∃ k, L04_SumKeeps.f k a0 a1 a2 = some true
theorem L04_SumKeeps.walk (P : L04_SumKeeps.Pure) (a0 : Int) (a1 : Int) (a2 : Int) (w : World) (w0 : (Lit.int .i64 a0).wf = true) (w1 : (Lit.int .u64 a1).wf = true) (w2 : (Lit.int .u64 a2).wf = true) :
  Calls Try.prog 26 #[.int .i64 a0, .int .u64 a1, .int .u64 a2] w fun e w' => e = .returned (.bool true) ∧ Below w.heap.size w w' := by
 obtain ⟨k, h⟩ := P a0 a1 a2 w0 w1 w2
 refine (L04_SumKeeps.calls k a0 a1 a2 true w h ⟨rfl⟩).mono ?_
 rintro e w' ⟨rfl, hd⟩
 exact ⟨rfl, hd⟩
end Go.Proofs.Ytgcgheilbngcoaa.PA
section
set_option linter.unusedVariables false
set_option linter.unusedSimpArgs false
namespace Go.Proofs.Ytgcgheilbngcoaa.Th
open Go.RowKit Go.Proofs.YtgcgheilbngcoaaW.PrintWords Go.Proofs.YtgcgheilbngcoaaW.PrintLast Go.Proofs.YtgcgheilbngcoaaW.PrintMore Go.Proofs.Ytgcgheilbngcoaa.PA Bit Flo
theorem opn_mk (w : Int) (hw : w = 32 ∨ w = 64) (m : Nat) (s : Bool) (h : m < sb w) : opn w (mkN w m s) = if m = 0 then (s, 0, 0, 0) else if m < (fmt w).inf then (s, 1, (fmt w).ex m, ((fmt w).sg m : Int)) else if m = (fmt w).inf then (s, 2, 0, 0) else (false, 3, 0, 0) := by
  unfold opn; simp only [sg_mk w hw m s h, mag_mk w hw m s h]
theorem cut_mk (w : Int) (hw : w = 32 ∨ w = 64) (m : Nat) (s : Bool) (h : m < sb w) : cutN w (mkN w m s) = mkN w m s := by
  rw [cutN_eq w hw _ (mkN_lt w hw m s h), sg_mk w hw m s h, mag_mk w hw m s h]; rfl
theorem cut_as_mk (w : Int) (hw : w = 32 ∨ w = 64) (a : Nat) (ha : a < 18446744073709551616) : cutN w a = mkN w (magN w a) (sgB w a) := by
  rw [cutN_eq w hw a ha]; rfl
end Go.Proofs.Ytgcgheilbngcoaa.Th
end
section
set_option linter.unusedVariables false
set_option linter.unusedSimpArgs false
namespace Go.Proofs.Ytgcgheilbngcoaa.Th
open Go.RowKit Go.Proofs.YtgcgheilbngcoaaW.PrintWords Go.Proofs.YtgcgheilbngcoaaW.PrintLast Go.Proofs.YtgcgheilbngcoaaW.PrintMore Go.Proofs.Ytgcgheilbngcoaa.PA Bit Flo Dig
theorem inf_pos (w : Int) (hw : w = 32 ∨ w = 64) : 0 < (fmt w).inf := by rcases hw with rfl | rfl <;> decide
theorem kinds (w : Int) (hw : w = 32 ∨ w = 64) (a : Nat) : (magN w a = 0 ∧ opn w a = (sgB w a, 0, 0, 0)) ∨ (0 < magN w a ∧ magN w a < (fmt w).inf ∧ opn w a = (sgB w a, 1, (fmt w).ex (magN w a), ((fmt w).sg (magN w a) : Int))) ∨ (magN w a = (fmt w).inf ∧ opn w a = (sgB w a, 2, 0, 0)) ∨ ((fmt w).inf < magN w a ∧ opn w a = (false, 3, 0, 0)) := by
  have h0 := inf_pos w hw
  unfold opn; simp only
  by_cases h1 : magN w a = 0
  · left; rw [if_pos h1]; exact ⟨h1, rfl⟩
  · right; rw [if_neg h1]
    by_cases h2 : magN w a < (fmt w).inf
    · left; rw [if_pos h2]; exact ⟨by omega, h2, rfl⟩
    · right; rw [if_neg h2]
      by_cases h3 : magN w a = (fmt w).inf
      · left; rw [if_pos h3]; exact ⟨h3, rfl⟩
      · right; rw [if_neg h3]; exact ⟨by omega, rfl⟩
theorem ex_bd (w : Int) (hw : w = 32 ∨ w = 64) (m : Nat) (h : m < (fmt w).inf) : -1074 ≤ (fmt w).ex m ∧ (fmt w).ex m ≤ 971 := by
  rcases hw with rfl | rfl
  · rw [fmt32, inf32] at h; rw [fmt32, ex32]; split <;> omega
  · rw [fmt64, inf64] at h; rw [fmt64, ex64]; split <;> omega
theorem sg_64 (w : Int) (hw : w = 32 ∨ w = 64) (m : Nat) : (fmt w).sg m < 9007199254740992 := by
  have h := (fmt w).sg_lt m
  rcases hw with rfl | rfl
  · rw [fmt32] at h ⊢; rw [show (2 : Nat) ^ (f32.f + 1) = 16777216 by decide] at h; omega
  · rw [fmt64] at h ⊢; rw [show (2 : Nat) ^ (f64.f + 1) = 9007199254740992 by decide] at h; omega
end Go.Proofs.Ytgcgheilbngcoaa.Th
end
section
set_option linter.unusedVariables false
set_option linter.unusedSimpArgs false
namespace Go.Proofs.Ytgcgheilbngcoaa.Th
open Flo
theorem fmt_bd (w : Int) : (fmt w).f < 100 ∧ (-5000 < (fmt w).low ∧ (fmt w).low < 0) ∧ (fmt w).top < 5000 := by
  unfold fmt; split <;> decide
theorem fmt_f (w : Int) : (fmt w).f ≤ 52 := by unfold fmt; split <;> decide
theorem pk_ex (w : Int) (S : Nat) (e : Int) (hS : S < 340282366920938463463374607431768211456) : pkm (fmt w) S e false = (fmt w).rnd ((S : Rat) * tw e) := by
  have h := fmt_bd w
  rw [← pkx_f, pkm_rnd _ h.1 h.2.1 h.2.2 S e false hS]
theorem pk_mo (w : Int) {x : Rat} {S : Nat} {e : Int} (hS : S < 340282366920938463463374607431768211456) (h0 : 9007199254740992 ≤ S) (h1 : (S : Rat) * tw e < x) (h2 : x < ((S + 1 : Nat) : Rat) * tw e) : pkm (fmt w) S e true = (fmt w).rnd x := by
  have h := fmt_bd w
  have h3 : 2 ^ ((fmt w).f + 1) ≤ S := by
    have : 2 ^ ((fmt w).f + 1) ≤ 2 ^ 53 := Nat.pow_le_pow_right (by decide) (by have := fmt_f w; omega)
    rw [show (2 : Nat) ^ 53 = 9007199254740992 by decide] at this
    omega
  rw [rnd_more _ h1 h2 h3, pkm_rnd _ h.1 h.2.1 h.2.2 S e true hS]
abbrev Pt := Bool × Int × Int × Int
noncomputable def pv (p : Pt) : Rat := if p.2.1 = 1 then (if p.1 then -((p.2.2.2.toNat : Rat) * tw p.2.2.1) else (p.2.2.2.toNat : Rat) * tw p.2.2.1) else 0
noncomputable def fx (w : Int) (s : Rat) (z : Bool) : Nat := if s = 0 then mkN w 0 z else if s < 0 then mkN w ((fmt w).rnd (-s)) true else mkN w ((fmt w).rnd s) false
noncomputable def addP (w : Int) (p q : Pt) : Nat :=
  if p.2.1 = 3 ∨ q.2.1 = 3 then nanN w else if p.2.1 = 2 then (if q.2.1 = 2 ∧ p.1 ≠ q.1 then nanN w else mkN w (fmt w).inf p.1) else if q.2.1 = 2 then mkN w (fmt w).inf q.1
  else fx w (pv p + pv q) (p.1 && q.1)
theorem fx_pos (w : Int) {s : Rat} (h : 0 < s) (z : Bool) : fx w s z = mkN w ((fmt w).rnd s) false := by
  unfold fx; rw [if_neg (by grind), if_neg (by grind)]
theorem fx_neg (w : Int) {s : Rat} (h : 0 < s) (z : Bool) : fx w (-s) z = mkN w ((fmt w).rnd s) true := by
  unfold fx; rw [if_neg (by grind), if_pos (by grind), Rat.neg_neg]
theorem fx_zero (w : Int) (z : Bool) : fx w 0 z = mkN w 0 z := by unfold fx; rw [if_pos rfl]
theorem fx_sg (w : Int) {s : Rat} (h : 0 < s) (n z : Bool) : fx w (if n then -s else s) z = mkN w ((fmt w).rnd s) n := by
  cases n
  · exact fx_pos w h z
  · exact fx_neg w h z
theorem align_eq {sa sb : Nat} {ea eb : Int} (hab : eb ≤ ea) (h0 : 0 < sa) {u d : Nat} (hu : (u : Int) = min (ea - eb) 64) (hd : (d : Int) = ea - eb - u) :
    (sa : Rat) * tw ea = ((sa * 2 ^ u : Nat) : Rat) * tw (ea - u) ∧ ((sb / 2 ^ d : Nat) : Rat) * tw (ea - u) ≤ (sb : Rat) * tw eb ∧ (sb : Rat) * tw eb < ((sb / 2 ^ d + 1 : Nat) : Rat) * tw (ea - u) ∧
    (sb % 2 ^ d = 0 → (sb : Rat) * tw eb = ((sb / 2 ^ d : Nat) : Rat) * tw (ea - u)) ∧ (sb % 2 ^ d ≠ 0 → ((sb / 2 ^ d : Nat) : Rat) * tw (ea - u) < (sb : Rat) * tw eb ∧ u = 64) := by
  have hp : 0 < 2 ^ d := Nat.pow_pos (by decide)
  have e1 : tw (ea - u) = ((2 ^ d : Nat) : Rat) * tw eb := by rw [tw_sub_nat (ea - u) eb (by omega)]; congr 3; omega
  have T := tw_pos eb
  have h1 := Nat.div_add_mod sb (2 ^ d)
  have h2 := Nat.mod_lt sb hp
  have e3 : ∀ x : Nat, (x : Rat) * tw (ea - u) = ((2 ^ d * x : Nat) : Rat) * tw eb := fun x => by rw [e1, Nat.mul_comm]; push_cast; grind
  refine ⟨?_, ?_, ?_, ?_, ?_⟩
  · rw [tw_sub_nat ea (ea - u) (by omega), show (ea - (ea - (u : Int))).toNat = u by omega]; push_cast; grind
  · rw [e3]; exact mul_le (nat_le.2 (by omega)) T
  · rw [e3]; exact mul_lt (nat_lt.2 (by rw [Nat.mul_add]; omega)) T
  · intro h; rw [e3]; congr 2; omega
  · intro h
    refine ⟨?_, ?_⟩
    · rw [e3]; exact mul_lt (nat_lt.2 (by omega)) T
    · rcases Nat.eq_zero_or_pos d with h3 | h3
      · subst h3; rw [Nat.pow_zero, Nat.mod_one] at h; exact absurd rfl h
      · omega
end Go.Proofs.Ytgcgheilbngcoaa.Th
end
namespace Go.Proofs.Ytgcgheilbngcoaa.PA
open Go.RowKit Go.Proofs.YtgcgheilbngcoaaW.PrintWords Go.Proofs.YtgcgheilbngcoaaW.PrintLast Go.Proofs.YtgcgheilbngcoaaW.PrintMore
attribute [local go_sem] max2_int min2_int max_two min_two max_three min_three max_four min_four   -- for this text's walks alone
set_option linter.unusedVariables false
set_option linter.unusedSimpArgs false
set_option maxHeartbeats 8000000
set_option maxRecDepth 100000
def r1_Div.l0 : Nat → Int → List Int → List Int → List Int → Option (List Int × List Int)
 | 0, _, _, _, _ => none
 | k + 1, x8, x252000, x255000, x256000 => if x8 ≥ 0 then ((r1_Shl.f k x252000 x8).bind fun t258 => ((r1_Cmp.f k x256000 t258).bind fun t262 => (if t262 ≥ 0 then ((r1_Sub.f k x256000 t258).bind fun t263 => ((r1_Of.f k 1).bind fun t266 => ((r1_Shl.f k t266 x8).bind fun t269 => ((r1_Add.f k x255000 t269).bind fun t272 => (r1_Div.l0 k (wrap64 (x8 - 1)) x252000 t272 t263))))) else (r1_Div.l0 k (wrap64 (x8 - 1)) x252000 x255000 x256000)))) else (some (x255000, x256000))
def r1_Div.f (k : Nat) (l0_0 : List Int) (l1_0 : List Int) : Option (List Int × List Int) := (r1_Len.f k l0_0).bind fun t256 => ((r1_Len.f k l1_0).bind fun t257 => (r1_Div.l0 k (wrap64 (t256 - t257)) l1_0 ([] : List Int) l0_0))
theorem r1_Div.mono_l : ∀ k, (∀ y0 y1 y2 y3, LeO (r1_Div.l0 k y0 y1 y2 y3) (r1_Div.l0 (k + 1) y0 y1 y2 y3))
 | 0 => fun _ _ _ _ r h => by simp [r1_Div.l0] at h
 | k + 1 => by
  have ih0 := r1_Div.mono_l k
  ·intro y0 y1 y2 y3
   unfold r1_Div.l0
   repeat' first
   | (with_reducible exact ih0 _ _ _ _)
   | (with_reducible exact r1_Add.mono _ _ _)
   | (with_reducible exact r1_Cmp.mono _ _ _)
   | (with_reducible exact r1_Len.mono _ _)
   | (with_reducible exact r1_Of.mono _ _)
   | (with_reducible exact r1_Shl.mono _ _ _)
   | (with_reducible exact r1_Sub.mono _ _ _)
   | (with_reducible exact LeO.refl _)
   | (with_reducible exact LeO.none _)
   | (with_reducible refine LeO.ite ?_ ?_)
   | (with_reducible refine LeO.bind ?_ (fun _ => ?_))
   | exact ih0 _ _ _ _
   | exact r1_Add.mono _ _ _
   | exact r1_Cmp.mono _ _ _
   | exact r1_Len.mono _ _
   | exact r1_Of.mono _ _
   | exact r1_Shl.mono _ _ _
   | exact r1_Sub.mono _ _ _
   | exact LeO.none _
   | refine LeO.ite ?_ ?_
   | refine LeO.bind ?_ (fun _ => ?_)
theorem r1_Div.mono : ∀ a0 a1 k, LeO (r1_Div.f k a0 a1) (r1_Div.f (k + 1) a0 a1) := by
 intro a0 a1 k
 have ih0 := r1_Div.mono_l k
 unfold r1_Div.f
 repeat' first
   | (with_reducible exact ih0 _ _ _ _)
   | (with_reducible exact r1_Add.mono _ _ _)
   | (with_reducible exact r1_Cmp.mono _ _ _)
   | (with_reducible exact r1_Len.mono _ _)
   | (with_reducible exact r1_Of.mono _ _)
   | (with_reducible exact r1_Shl.mono _ _ _)
   | (with_reducible exact r1_Sub.mono _ _ _)
   | (with_reducible exact LeO.refl _)
   | (with_reducible exact LeO.none _)
   | (with_reducible refine LeO.ite ?_ ?_)
   | (with_reducible refine LeO.bind ?_ (fun _ => ?_))
   | exact ih0 _ _ _ _
   | exact r1_Add.mono _ _ _
   | exact r1_Cmp.mono _ _ _
   | exact r1_Len.mono _ _
   | exact r1_Of.mono _ _
   | exact r1_Shl.mono _ _ _
   | exact r1_Sub.mono _ _ _
   | exact LeO.none _
   | refine LeO.ite ?_ ?_
   | refine LeO.bind ?_ (fun _ => ?_)
-- IMPORT Derived.Deep.RegionHeld3
-- IMPORT Derived.Test.YtgcgheilbngcoaaNr
theorem Nr.len (k : Nat) (v : Value) (l : List Int) (r : Int) (w : World) (n : Nr.Nr w v l) (h : r1_Len.f k l = some r) : Calls Try.prog 156 #[.agg #[v]] w fun e w' => e = .returned (.int .i64 r) ∧ Below w.heap.size w w' := by
 obtain ⟨A, c, rfl, hc, hC⟩ := n
 exact r1_Len.calls k A c l r w hC hc h
theorem Nr.cmp (k : Nat) (v v1 : Value) (l l1 : List Int) (r : Int) (w : World) (n : Nr.Nr w v l) (n1 : Nr.Nr w v1 l1) (h : r1_Cmp.f k l l1 = some r) : Calls Try.prog 100 #[.agg #[v], .agg #[v1]] w fun e w' => e = .returned (.int .i64 r) ∧ Below w.heap.size w w' := by
 obtain ⟨A, c, rfl, hc, hC⟩ := n
 obtain ⟨A1, c1, rfl, hc1, hC1⟩ := n1
 exact r1_Cmp.calls k A c l A1 c1 l1 r w hC hc hC1 hc1 h
theorem Nr.outR {f : Nat} {xs : Array Value} {w : World} {r : List Int} (h : Calls Try.prog f xs w fun e w' => ∃ v0_ : Value, e = .returned (.agg #[v0_]) ∧ Kd.R (Kd.int .u64) 24 w' w.heap.size (fun _ => True) v0_ r ∧ Below w.heap.size w w') : Calls Try.prog f xs w fun e w' => ∃ A c, e = .returned (.agg #[.slice A r.length c]) ∧ Nr.Ow 24 w.heap.size w' (.slice A r.length c) r ∧ Below w.heap.size w w' := by
 refine h.mono ?_
 rintro e w' ⟨v0, rfl, hR, hb⟩
 obtain ⟨A, c, rfl, _⟩ := Nr.Nr.of_R hR
 exact ⟨A, c, rfl, Nr.Ow.of_R hR (Nat.le_refl _), hb⟩
theorem Nr.shl (k : Nat) (v : Value) (l : List Int) (a : Int) (r : List Int) (w : World) (n : Nr.Nr w v l) (h : r1_Shl.f k l a = some r) : Calls Try.prog 103 #[.agg #[v], .int .i64 a] w fun e w' => ∃ A c, e = .returned (.agg #[.slice A r.length c]) ∧ Nr.Ow 24 w.heap.size w' (.slice A r.length c) r ∧ Below w.heap.size w w' := by
 obtain ⟨A, c, rfl, hc, hC⟩ := n
 exact Nr.outR (r1_Shl.calls k A c l a r w hC hc h)
theorem Nr.sub (k : Nat) (v v1 : Value) (l l1 : List Int) (r : List Int) (w : World) (n : Nr.Nr w v l) (n1 : Nr.Nr w v1 l1) (h : r1_Sub.f k l l1 = some r) : Calls Try.prog 165 #[.agg #[v], .agg #[v1]] w fun e w' => ∃ A c, e = .returned (.agg #[.slice A r.length c]) ∧ Nr.Ow 24 w.heap.size w' (.slice A r.length c) r ∧ Below w.heap.size w w' := by
 obtain ⟨A, c, rfl, hc, hC⟩ := n
 obtain ⟨A1, c1, rfl, hc1, hC1⟩ := n1
 exact Nr.outR (r1_Sub.calls k A c l A1 c1 l1 r w hC hc hC1 hc1 h)
theorem Nr.add (k : Nat) (v v1 : Value) (l l1 : List Int) (r : List Int) (w : World) (n : Nr.Nr w v l) (n1 : Nr.Nr w v1 l1) (h : r1_Add.f k l l1 = some r) : Calls Try.prog 110 #[.agg #[v], .agg #[v1]] w fun e w' => ∃ A c, e = .returned (.agg #[.slice A r.length c]) ∧ Nr.Ow 24 w.heap.size w' (.slice A r.length c) r ∧ Below w.heap.size w w' := by
 obtain ⟨A, c, rfl, hc, hC⟩ := n
 obtain ⟨A1, c1, rfl, hc1, hC1⟩ := n1
 exact Nr.outR (r1_Add.calls k A c l A1 c1 l1 r w hC hc hC1 hc1 h)
theorem Nr.of (k : Nat) (a : Int) (r : List Int) (w : World) (h : r1_Of.f k a = some r) : Calls Try.prog 46 #[.int .u64 a] w fun e w' => ∃ A c, e = .returned (.agg #[.slice A r.length c]) ∧ Nr.Ow 24 w.heap.size w' (.slice A r.length c) r ∧ Below w.heap.size w w' :=
 Nr.outR (r1_Of.calls k a r w h)
theorem Nr.lower {e b b' : Nat} {w : World} {v : Value} {l : List Int} (h : Nr.Ow e b w v l) (hb : b' ≤ b) : Nr.Ow e b' w v l := Nr.Ow.of_R h.out hb
theorem Nr.fresh {P : Nat → Prop} {e e' base : Nat} {w0 w1 : World} {vq vr : Value} {lq lr : List Int} (hq : Nr.Ow e base w0 vq lq) (hr : Nr.Ow e' w0.heap.size w1 vr lr) (hb : base ≤ w0.heap.size) : Nr.At (fun k => (P k ∨ base ≤ k) ∧ some k ≠ vq.ownBlock) vr :=
 (Nr.At.of_R hr.out).mono fun k hk => ⟨Or.inr (Nat.le_trans hb hk.1), fun e => Nat.lt_irrefl _ (Nat.lt_of_lt_of_le (Kd.R_lt hq.out k e.symm) hk.1)⟩
theorem Nr.atlt {w : World} {v : Value} {l : List Int} (h : Nr.Nr w v l) : Nr.At (fun k => k < w.heap.size) v := by
 obtain ⟨A, c, hv, hl, h1, h2, h3⟩ := h
 intro ad n c' e hn
 rw [hv] at e
 injection e with e1 e2 e3
 subst e2
 obtain ⟨ad', e4, h4⟩ := h3 hn
 rw [e1] at e4
 injection e4 with e4
 subst e4
 obtain ⟨x, hx⟩ : ∃ x, l[0]? = some x := ⟨l[0]'hn, List.getElem?_eq_getElem hn⟩
 obtain ⟨cs, k1, k2, k3⟩ := h4 0 x hx
 have k2' : cs = [Value.int .u64 x] := k2
 have := World.block_lt_of_cell? w _ (k3 0 (.int .u64 x) (by rw [k2']; rfl))
 rwa [add_block] at this
theorem Nr.other {P : Nat → Prop} {e' : Nat} {w0 w1 : World} {vq vq' vr : Value} {lq' lr : List Int} (ha : Nr.At (fun k => P k ∧ some k ≠ vq.ownBlock) vr) (hn : Nr.Nr w0 vr lr) (hq : Nr.Ow e' w0.heap.size w1 vq' lq') : Nr.At (fun k => P k ∧ some k ≠ vq'.ownBlock) vr := fun ad n c e hn' =>
 ⟨(ha ad n c e hn').1, fun e2 => Nat.lt_irrefl _ (Nat.lt_of_lt_of_le (Nr.atlt hn ad n c e hn') (Kd.R_base hq.out _ e2.symm))⟩
theorem Nr.undrew {w w1 : World} (h : Below w.drew.heap.size w.drew w1) : Below w.heap.size w w1 := below_step (below_drew1 (Below.refl _ _)) h
theorem Nr.unalloc {w w1 : World} {o : Obj} (h : Below (w.alloc o).heap.size (w.alloc o) w1) : Below w.heap.size w w1 := below_step (below_alloc (Below.refl _ _) o) h
theorem Nr.newlt {w w1 : World} {o : Obj} (h : Below (w.alloc o).heap.size (w.alloc o) w1) : w.heap.size < w1.heap.size := by
 have := h.size
 simp at this
 omega
theorem Nr.newcell {w w1 : World} {v : Value} {ty : Nat} (h : Below (w.alloc (.cells #[v] ty)).heap.size (w.alloc (.cells #[v] ty)) w1) : w1.cell? ⟨w.heap.size, 0, none⟩ = some v := by
 rw [(Nr.bcell h).1 _ _ (by simp)]
 exact (World.cell?_alloc_new _ _ _ _).trans rfl
theorem r1_Div.calls (k : Nat) (P0_0_ : Nat → Prop) (A0_0 : Option Addr) (c0_0 : Nat) (l0_0 : List Int) (A1_0 : Option Addr) (c1_0 : Nat) (l1_0 : List Int) (r1 : List Int) (r2 : List Int) (w : World) (hs0_0 : Kd.V (Kd.int .u64) 24 w w.heap.size (fun k_ => P0_0_ k_) (.slice A0_0 l0_0.length c0_0) l0_0) (hr1_0 : Kd.C (Kd.int .u64) w A1_0 l1_0.length l1_0) (hc1_0 : l1_0.length ≤ c1_0) (h : r1_Div.f k l0_0 l1_0 = some (r1, r2)) :
  Calls Try.prog 138 #[.agg #[.slice A0_0 l0_0.length c0_0], .agg #[.slice A1_0 l1_0.length c1_0]] w fun e w' => ∃ v0_ v1_ : Value, e = .returned (.tuple #[.agg #[v0_], .agg #[v1_]]) ∧ Kd.R (Kd.int .u64) 24 w' w.heap.size (fun k_ => (w.heap.size ≤ k_)) v0_ r1 ∧ Kd.V (Kd.int .u64) 24 w' w.heap.size (fun k_ => (P0_0_ k_ ∨ w.heap.size ≤ k_) ∧ some k_ ≠ (v0_ : Value).ownBlock) v1_ r2 ∧ Below w.heap.size w w' := by
 obtain ⟨t0, A0, H⟩ := ob_ h
 obtain ⟨t1, A1, H⟩ := ob_ H
 have L0 := A_ A0;have L1 := A_ A1;have HL := A_ H;clear h A0 A1 H
 have NA := Nr.Nr.of_V hs0_0
 have AA := A_ (Nr.At.of_V hs0_0)
 have NB := Nr.Nr.of_C hc1_0 hr1_0
 clear hs0_0 hr1_0
 go_enter Try.func138, Try.ntmps138
 go_wp2
 go_region_held3 (fun w' => w'.cell? ⟨w.heap.size, 0, none⟩ = some (.slice A0_0 l0_0.length c0_0) ∧ w'.cell? ⟨w.heap.size + 1, 0, none⟩ = some (.slice A1_0 l1_0.length c1_0) ∧ w'.cell? ⟨w.heap.size + 2, 0, none⟩ = some (.slice none 0 0) ∧ w'.cell? ⟨w.heap.size + 3, 0, none⟩ = some (.slice none 0 0) ∧ w'.cell? ⟨w.heap.size + 4, 0, none⟩ = some (.slice none 0 0) ∧ w'.cell? ⟨w.heap.size + 5, 0, none⟩ = some (.slice A0_0 l0_0.length c0_0) ∧ w'.frozen? ⟨w.heap.size + 2, 0, none⟩ = false ∧ w'.frozen? ⟨w.heap.size + 3, 0, none⟩ = false ∧ w'.frozen? ⟨w.heap.size + 4, 0, none⟩ = false ∧ w'.frozen? ⟨w.heap.size + 5, 0, none⟩ = false ∧ w.heap.size + 5 < w'.heap.size ∧ Nr.Nr w' (.slice A0_0 l0_0.length c0_0) l0_0 ∧ Nr.Nr w' (.slice A1_0 l1_0.length c1_0) l1_0 ∧ Nr.Ow 24 w.heap.size w' (.slice none 0 0) [] ∧ Below w.heap.size w w')
  (((try go_split_ands); (try dsimp only); (repeat' apply And.intro) <;> first | assumption | (rw [hc _ _ (by omega)]; assumption) | (rw [hf _ _ (by omega)]; assumption) | (rw [Nr.al (by omega)]; assumption) | (rw [Nr.alf (by omega)]; assumption) | (apply Nr.lt_al; assumption) | (have := hb.size; omega) | (refine Nr.Nr.below ?_ hb; assumption) | (apply Nr.Nr.drew; (repeat apply Nr.Nr.alloc); assumption) | (apply Nr.Nr.alloc; assumption) | (apply Nr.Nr.drew; assumption) | (exact Nr.Ow.nil _ _ _) | (refine Nr.Ow.below ?_ hb; assumption) | (apply Nr.Ow.alloc; assumption) | (apply Nr.Ow.drew; assumption) | (refine below_step ?_ hb; assumption) | (simp [go_sem, World.cell?_alloc_past]; done) | (repeat (first | assumption | exact Below.refl _ _ | apply below_drew1 | apply below_alloc | (refine below_set ?_ (by omega))))))
  ((first | (go_at_call 156; (try go_split_ands); refine (Nr.len k _ l0_0 t0 _ ?_ L0.out).mono ?_; (assumption); rintro e w1 ⟨rfl, hb⟩; obtain ⟨hc, hf⟩ := Nr.bcell hb) | (go_at_call 156; (try go_split_ands); refine (Nr.len k _ l1_0 t1 _ ?_ L1.out).mono ?_; (assumption); rintro e w2 ⟨rfl, hb⟩; obtain ⟨hc, hf⟩ := Nr.bcell hb)))
 rename_i hH
 obtain ⟨q0, q1, q2, q3, q4, q5, f2, f3, f4, f5, hz, nr, nb, ow, bl⟩ := hH
 (repeat clear hc hf)
 (repeat clear hb)
 go_wp2
 iterate 30 (rename_i left_; clear left_)
 rename_i hK
 clear H
 have at0 : Nr.At (fun k_ => (P0_0_ k_ ∨ w.heap.size ≤ k_) ∧ some k_ ≠ (Value.slice none 0 0).ownBlock) (.slice A0_0 l0_0.length c0_0) := AA.out.mono fun k hk => ⟨Or.inl hk, fun e => by cases e⟩
 go_loopg [8] k (fun kq v8 w' => ∃ (x : Int) (Aq : Option Addr) (cq : Nat) (lq : List Int) (Ar : Option Addr) (cr : Nat) (lr : List Int), v8 = .int .i64 x ∧ Aside0 (r1_Div.l0 kq x l1_0 lq lr = some (r1, r2)) ∧ Aside0 (w'.cell? ⟨w.heap.size + 1, 0, none⟩ = some (.slice A1_0 l1_0.length c1_0) ∧ w'.cell? ⟨w.heap.size + 2, 0, none⟩ = some (.slice none 0 0) ∧ w'.cell? ⟨w.heap.size + 3, 0, none⟩ = some (.slice none 0 0) ∧ w'.cell? ⟨w.heap.size + 4, 0, none⟩ = some (.slice Aq lq.length cq) ∧ w'.cell? ⟨w.heap.size + 5, 0, none⟩ = some (.slice Ar lr.length cr) ∧ w'.frozen? ⟨w.heap.size + 2, 0, none⟩ = false ∧ w'.frozen? ⟨w.heap.size + 3, 0, none⟩ = false ∧ w'.frozen? ⟨w.heap.size + 4, 0, none⟩ = false ∧ w'.frozen? ⟨w.heap.size + 5, 0, none⟩ = false ∧ w.heap.size + 5 < w'.heap.size ∧ Nr.Nr w' (.slice A1_0 l1_0.length c1_0) l1_0 ∧ Nr.Nr w' (.slice Ar lr.length cr) lr ∧ Nr.Ow 24 (w.heap.size + 6) w' (.slice Aq lq.length cq) lq ∧ Nr.At (fun k_ => (P0_0_ k_ ∨ w.heap.size ≤ k_) ∧ some k_ ≠ (Value.slice Aq lq.length cq).ownBlock) (.slice Ar lr.length cr) ∧ Below w.heap.size w w'))
 case atStart => exact ⟨_, none, 0, [], A0_0, c0_0, l0_0, by rw [i64_w], HL, q1, q2, q3, q4, q5, f2, f3, f4, f5, hz, nb, nr, Nr.Ow.nil _ _ _, at0, bl⟩
 case round =>
  (repeat clear q0 q1 q2 q3 q4 q5 f2 f3 f4 f5 hz nr ow bl at0 nb)
  obtain ⟨x, Aq, cq, lq, Ar, cr, lr, rfl, E, F⟩ := hrel
  obtain ⟨q1, q2, q3, q4, q5, f2, f3, f4, f5, hz, nb, nr, ow, at0, bl⟩ := F.out
  clear F HL
  obtain _ | kr := gk
  ·cases E.out
  have E := E.out
  unfold r1_Div.l0 at E
  by_cases hx : x ≥ 0
  ·rw [if_pos hx] at E
   have c0 : decide (0 ≤ x) = true := decide_eq_true hx
   obtain ⟨t, T0, E⟩ := ob_ E
   obtain ⟨u, T1, E⟩ := ob_ E
   replace T0 := A_ T0;replace T1 := A_ T1;replace hx := A_ hx
   by_cases hu : u ≥ 0
   ·rw [if_pos hu] at E
    obtain ⟨s, S0, E⟩ := ob_ E
    obtain ⟨o1, S1, E⟩ := ob_ E
    obtain ⟨o2, S2, E⟩ := ob_ E
    obtain ⟨q', S3, E⟩ := ob_ E
    replace S0 := A_ S0;replace S1 := A_ S1;replace S2 := A_ S2;replace S3 := A_ S3;have EE := A_ E;clear E
    have cu : decide (0 ≤ u) = true := decide_eq_true hu
    clear hu
    go_wp2_with (first | (go_at_call 103; refine (Nr.shl kr _ l1_0 x t _ nb T0.out).mono ?_; rintro e w1 ⟨At, ct, rfl, ot, hb⟩; (try replace hb := Nr.undrew hb); obtain ⟨hc, hf⟩ := Nr.bcell hb; have hs := hb.size; replace q1 := (hc _ _ (by omega)).trans q1; replace q2 := (hc _ _ (by omega)).trans q2; replace q3 := (hc _ _ (by omega)).trans q3; replace q4 := (hc _ _ (by omega)).trans q4; replace q5 := (hc _ _ (by omega)).trans q5; replace f2 := (hf _ _ (by omega)).trans f2; replace f3 := (hf _ _ (by omega)).trans f3; replace f4 := (hf _ _ (by omega)).trans f4; replace f5 := (hf _ _ (by omega)).trans f5; replace nb := Nr.Nr.below nb hb; replace nr := Nr.Nr.below nr hb; replace ow := Nr.Ow.below ow hb; replace bl := below_step bl hb; replace hz := Nat.lt_of_lt_of_le hz hs; clear hc hf hs hb) | (go_at_call 100; refine (Nr.cmp kr _ _ lr t u _ (Nr.Nr.alloc nr _) (Nr.Nr.alloc ot.nr _) T1.out).mono ?_; rintro e w2 ⟨rfl, hb⟩; have tq := Nr.newcell hb; have ht := Nr.newlt hb; replace hb := Nr.unalloc hb; (try replace hb := Nr.undrew hb); obtain ⟨hc, hf⟩ := Nr.bcell hb; have hs := hb.size; replace q1 := (hc _ _ (by omega)).trans q1; replace q2 := (hc _ _ (by omega)).trans q2; replace q3 := (hc _ _ (by omega)).trans q3; replace q4 := (hc _ _ (by omega)).trans q4; replace q5 := (hc _ _ (by omega)).trans q5; replace f2 := (hf _ _ (by omega)).trans f2; replace f3 := (hf _ _ (by omega)).trans f3; replace f4 := (hf _ _ (by omega)).trans f4; replace f5 := (hf _ _ (by omega)).trans f5; replace nb := Nr.Nr.below nb hb; replace nr := Nr.Nr.below nr hb; replace ow := Nr.Ow.below ow hb; replace ot := Nr.Ow.below ot hb; replace bl := below_step bl hb; replace hz := Nat.lt_of_lt_of_le hz hs; clear hc hf hs hb) | (go_at_call 165; refine (Nr.sub kr _ _ lr t s _ nr ot.nr S0.out).mono ?_; rintro e w3 ⟨As, cs, rfl, os, hb⟩; have at1 := Nr.fresh (P := P0_0_) (Nr.lower ow (b' := w.heap.size) (by omega)) os (by omega); replace os := Nr.lower os (b' := w.heap.size + 6) (by omega); (try replace hb := Nr.undrew hb); obtain ⟨hc, hf⟩ := Nr.bcell hb; have hs := hb.size; replace q1 := (hc _ _ (by omega)).trans q1; replace q2 := (hc _ _ (by omega)).trans q2; replace q3 := (hc _ _ (by omega)).trans q3; replace q4 := (hc _ _ (by omega)).trans q4; replace q5 := (hc _ _ (by omega)).trans q5; replace f2 := (hf _ _ (by omega)).trans f2; replace f3 := (hf _ _ (by omega)).trans f3; replace f4 := (hf _ _ (by omega)).trans f4; replace f5 := (hf _ _ (by omega)).trans f5; replace nb := Nr.Nr.below nb hb; replace nr := Nr.Nr.below nr hb; replace ow := Nr.Ow.below ow hb; replace ot := Nr.Ow.below ot hb; replace bl := below_step bl hb; replace hz := Nat.lt_of_lt_of_le hz hs; clear hc hf hs hb))
    generalize hW : World.setCell _ _ _ = w4
    have hz4 : w4.heap.size = w3.heap.size := by rw [← hW]; simp
    have hc : ∀ b, b ≠ w.heap.size + 5 → w4.cell? ⟨b, 0, none⟩ = w3.cell? ⟨b, 0, none⟩ := fun b hb => by rw [← hW]; exact World.cell?_setCell_far _ _ _ _ (fun e => hb e.symm)
    have hf : ∀ b, w4.frozen? ⟨b, 0, none⟩ = w3.frozen? ⟨b, 0, none⟩ := fun b => by rw [← hW]; exact World.frozen?_setCell _ _ _ _
    have hi : Nr.IsRow (w3.cell? ⟨w.heap.size + 5, 0, none⟩) := by rw [q5]; exact Nr.IsRow.slice _ _ _
    replace q5 : w4.cell? ⟨w.heap.size + 5, 0, none⟩ = some (.slice As s.length cs) := by rw [← hW]; exact World.cell?_setCell_same _ _ _ q5
    replace q1 := (hc _ (by omega)).trans q1
    replace q2 := (hc _ (by omega)).trans q2
    replace q3 := (hc _ (by omega)).trans q3
    replace q4 := (hc _ (by omega)).trans q4
    replace f2 := (hf _).trans f2
    replace f3 := (hf _).trans f3
    replace f4 := (hf _).trans f4
    replace f5 := (hf _).trans f5
    replace nb : Nr.Nr w4 (.slice A1_0 l1_0.length c1_0) l1_0 := by rw [← hW]; exact Nr.Nr.set nb _ hi
    replace ow : Nr.Ow 24 (w.heap.size + 6) w4 (.slice Aq lq.length cq) lq := by rw [← hW]; exact Nr.Ow.set ow _ (fun e => by have h6 : _ ≤ w.heap.size + 5 := Kd.R_base ow.out _ e; omega)
    replace os : Nr.Ow 24 (w.heap.size + 6) w4 (.slice As s.length cs) s := by rw [← hW]; exact Nr.Ow.set os _ (fun e => by have h6 : _ ≤ w.heap.size + 5 := Kd.R_base os.out _ e; omega)
    replace bl : Below w.heap.size w w4 := by rw [← hW]; exact below_set bl (by omega)
    replace hz : w.heap.size + 5 < w4.heap.size := by omega
    clear hW hc hf hi hz4
    replace nr := os.nr
    clear os
    go_region_with (first | (go_at_call 46; refine (Nr.of kr 1 o1 _ S1.out).mono ?_; rintro e w5 ⟨Ao, co, rfl, oo, hb⟩; (try replace hb := Nr.undrew hb); obtain ⟨hc, hf⟩ := Nr.bcell hb; have hs := hb.size; replace q1 := (hc _ _ (by omega)).trans q1; replace q2 := (hc _ _ (by omega)).trans q2; replace q3 := (hc _ _ (by omega)).trans q3; replace q4 := (hc _ _ (by omega)).trans q4; replace q5 := (hc _ _ (by omega)).trans q5; replace f2 := (hf _ _ (by omega)).trans f2; replace f3 := (hf _ _ (by omega)).trans f3; replace f4 := (hf _ _ (by omega)).trans f4; replace f5 := (hf _ _ (by omega)).trans f5; replace nb := Nr.Nr.below nb hb; replace nr := Nr.Nr.below nr hb; replace ow := Nr.Ow.below ow hb; replace bl := below_step bl hb; replace hz := Nat.lt_of_lt_of_le hz hs; clear hc hf hs hb) | (go_at_call 103; refine (Nr.shl kr _ o1 x o2 _ oo.nr S2.out).mono ?_; rintro e w6 ⟨Ap, cp, rfl, op, hb⟩; (try replace hb := Nr.undrew hb); obtain ⟨hc, hf⟩ := Nr.bcell hb; have hs := hb.size; replace q1 := (hc _ _ (by omega)).trans q1; replace q2 := (hc _ _ (by omega)).trans q2; replace q3 := (hc _ _ (by omega)).trans q3; replace q4 := (hc _ _ (by omega)).trans q4; replace q5 := (hc _ _ (by omega)).trans q5; replace f2 := (hf _ _ (by omega)).trans f2; replace f3 := (hf _ _ (by omega)).trans f3; replace f4 := (hf _ _ (by omega)).trans f4; replace f5 := (hf _ _ (by omega)).trans f5; replace nb := Nr.Nr.below nb hb; replace nr := Nr.Nr.below nr hb; replace ow := Nr.Ow.below ow hb; replace oo := Nr.Ow.below oo hb; replace bl := below_step bl hb; replace hz := Nat.lt_of_lt_of_le hz hs; clear hc hf hs hb) | (go_at_call 110; refine (Nr.add kr _ _ lq o2 q' _ ow.nr op.nr S3.out).mono ?_; rintro e w7 ⟨Az, cz, rfl, oz, hb⟩; have at2 := Nr.other at1 nr oz; have oz := Nr.lower oz (b' := w.heap.size + 6) (by omega); (try replace hb := Nr.undrew hb); obtain ⟨hc, hf⟩ := Nr.bcell hb; have hs := hb.size; replace q1 := (hc _ _ (by omega)).trans q1; replace q2 := (hc _ _ (by omega)).trans q2; replace q3 := (hc _ _ (by omega)).trans q3; replace q4 := (hc _ _ (by omega)).trans q4; replace q5 := (hc _ _ (by omega)).trans q5; replace f2 := (hf _ _ (by omega)).trans f2; replace f3 := (hf _ _ (by omega)).trans f3; replace f4 := (hf _ _ (by omega)).trans f4; replace f5 := (hf _ _ (by omega)).trans f5; replace nb := Nr.Nr.below nb hb; replace nr := Nr.Nr.below nr hb; replace ow := Nr.Ow.below ow hb; replace bl := below_step bl hb; replace hz := Nat.lt_of_lt_of_le hz hs; clear hc hf hs hb))
    all_goals (
     generalize hW : World.setCell _ _ _ = w8
     have hz4 : w8.heap.size = w7.heap.size := by rw [← hW]; simp
     have hc : ∀ b, b ≠ w.heap.size + 4 → w8.cell? ⟨b, 0, none⟩ = w7.cell? ⟨b, 0, none⟩ := fun b hb => by rw [← hW]; exact World.cell?_setCell_far _ _ _ _ (fun e => hb e.symm)
     have hf : ∀ b, w8.frozen? ⟨b, 0, none⟩ = w7.frozen? ⟨b, 0, none⟩ := fun b => by rw [← hW]; exact World.frozen?_setCell _ _ _ _
     have hi : Nr.IsRow (w7.cell? ⟨w.heap.size + 4, 0, none⟩) := by rw [q4]; exact Nr.IsRow.slice _ _ _
     replace q4 : w8.cell? ⟨w.heap.size + 4, 0, none⟩ = some (.slice Az q'.length cz) := by rw [← hW]; exact World.cell?_setCell_same _ _ _ q4
     replace q1 := (hc _ (by omega)).trans q1
     replace q2 := (hc _ (by omega)).trans q2
     replace q3 := (hc _ (by omega)).trans q3
     replace q5 := (hc _ (by omega)).trans q5
     replace f2 := (hf _).trans f2
     replace f3 := (hf _).trans f3
     replace f4 := (hf _).trans f4
     replace f5 := (hf _).trans f5
     replace nb : Nr.Nr w8 (.slice A1_0 l1_0.length c1_0) l1_0 := by rw [← hW]; exact Nr.Nr.set nb _ hi
     replace nr : Nr.Nr w8 (.slice As s.length cs) s := by rw [← hW]; exact Nr.Nr.set nr _ hi
     replace oz : Nr.Ow 24 (w.heap.size + 6) w8 (.slice Az q'.length cz) q' := by rw [← hW]; exact Nr.Ow.set oz _ (fun e => by have h6 : _ ≤ w.heap.size + 4 := Kd.R_base oz.out _ e; omega)
     replace bl : Below w.heap.size w w8 := by rw [← hW]; exact below_set bl (by omega)
     replace hz : w.heap.size + 5 < w8.heap.size := by omega
     clear hW hc hf hi hz4
     go_wp2
     go_roundg kr
     case measure => omega
     case rel => exact ⟨_, Az, cz, q', As, cs, s, rfl, EE, ⟨q1, q2, q3, q4, q5, f2, f3, f4, f5, hz, nb, nr, oz, at2, bl⟩⟩)
   ·rw [if_neg hu] at E
    have EE := A_ E;clear E
    have cu : decide (0 ≤ u) = false := decide_eq_false hu
    clear hu
    go_wp2_with (first | (go_at_call 103; refine (Nr.shl kr _ l1_0 x t _ nb T0.out).mono ?_; rintro e w1 ⟨At, ct, rfl, ot, hb⟩; (try replace hb := Nr.undrew hb); obtain ⟨hc, hf⟩ := Nr.bcell hb; have hs := hb.size; replace q1 := (hc _ _ (by omega)).trans q1; replace q2 := (hc _ _ (by omega)).trans q2; replace q3 := (hc _ _ (by omega)).trans q3; replace q4 := (hc _ _ (by omega)).trans q4; replace q5 := (hc _ _ (by omega)).trans q5; replace f2 := (hf _ _ (by omega)).trans f2; replace f3 := (hf _ _ (by omega)).trans f3; replace f4 := (hf _ _ (by omega)).trans f4; replace f5 := (hf _ _ (by omega)).trans f5; replace nb := Nr.Nr.below nb hb; replace nr := Nr.Nr.below nr hb; replace ow := Nr.Ow.below ow hb; replace bl := below_step bl hb; replace hz := Nat.lt_of_lt_of_le hz hs; clear hc hf hs hb) | (go_at_call 100; refine (Nr.cmp kr _ _ lr t u _ (Nr.Nr.alloc nr _) (Nr.Nr.alloc ot.nr _) T1.out).mono ?_; rintro e w2 ⟨rfl, hb⟩; have tq := Nr.newcell hb; have ht := Nr.newlt hb; replace hb := Nr.unalloc hb; (try replace hb := Nr.undrew hb); obtain ⟨hc, hf⟩ := Nr.bcell hb; have hs := hb.size; replace q1 := (hc _ _ (by omega)).trans q1; replace q2 := (hc _ _ (by omega)).trans q2; replace q3 := (hc _ _ (by omega)).trans q3; replace q4 := (hc _ _ (by omega)).trans q4; replace q5 := (hc _ _ (by omega)).trans q5; replace f2 := (hf _ _ (by omega)).trans f2; replace f3 := (hf _ _ (by omega)).trans f3; replace f4 := (hf _ _ (by omega)).trans f4; replace f5 := (hf _ _ (by omega)).trans f5; replace nb := Nr.Nr.below nb hb; replace nr := Nr.Nr.below nr hb; replace ow := Nr.Ow.below ow hb; replace ot := Nr.Ow.below ot hb; replace bl := below_step bl hb; replace hz := Nat.lt_of_lt_of_le hz hs; clear hc hf hs hb))
    go_roundg kr
    case measure => omega
    case rel => exact ⟨_, Aq, cq, lq, Ar, cr, lr, rfl, EE, ⟨q1, q2, q3, q4, q5, f2, f3, f4, f5, hz, nb, nr, ow, at0, bl⟩⟩
  ·rw [if_neg hx] at E
   have c0 : decide (0 ≤ x) = false := decide_eq_false hx
   injection E with E
   injection E with E1 E2
   subst E1
   subst E2
   clear hx E
   go_wp2
   go_region
   go_wp2
   have i2 : Nr.IsRow (wr.cell? ⟨w.heap.size + 2, 0, none⟩) := by rw [q2]; exact Nr.IsRow.slice _ _ _
   have e2 := World.cell?_setCell_same _ _ (.slice Aq lq.length cq) q2
   have e3 : (wr.setCell ⟨w.heap.size + 2, 0, none⟩ (.slice Aq lq.length cq)).cell? ⟨w.heap.size + 3, 0, none⟩ = some (.slice none 0 0) := (World.cell?_setCell_far _ _ _ _ (by simp)).trans q3
   have i3 : Nr.IsRow ((wr.setCell ⟨w.heap.size + 2, 0, none⟩ (.slice Aq lq.length cq)).cell? ⟨w.heap.size + 3, 0, none⟩) := by rw [e3]; exact Nr.IsRow.slice _ _ _
   have e4 := World.cell?_setCell_same _ _ (.slice Ar lr.length cr) e3
   have e5 : ((wr.setCell ⟨w.heap.size + 2, 0, none⟩ (.slice Aq lq.length cq)).setCell ⟨w.heap.size + 3, 0, none⟩ (.slice Ar lr.length cr)).cell? ⟨w.heap.size + 2, 0, none⟩ = some (.slice Aq lq.length cq) := (World.cell?_setCell_far _ _ _ _ (by simp)).trans e2
   have ow' := Nr.Ow.drew (Nr.Ow.set (Nr.Ow.set ow (p := ⟨w.heap.size + 2, 0, none⟩) (.slice Aq lq.length cq) (fun e => by have h6 : _ ≤ w.heap.size + 2 := Kd.R_base ow.out _ e; omega)) (p := ⟨w.heap.size + 3, 0, none⟩) (.slice Ar lr.length cr) (fun e => by have h6 : _ ≤ w.heap.size + 3 := Kd.R_base ow.out _ e; omega))
   have nr' := Nr.Nr.drew (Nr.Nr.set (Nr.Nr.set nr (.slice Aq lq.length cq) i2) (.slice Ar lr.length cr) i3)
   exact bodyPost_ret (v := .tuple #[.agg #[.slice Aq lq.length cq], .agg #[.slice Ar lr.length cr]]) (by simp [results, Try.results138, go_sem, e4, e5]) rfl ⟨_, _, rfl, (Nr.lower ow' (by omega)).out, Nr.Nr.toV nr' at0, below_drew1 (below_set (below_set bl (by omega)) (by omega))⟩
end Go.Proofs.Ytgcgheilbngcoaa.PA
section
set_option linter.unusedVariables false
set_option linter.unusedSimpArgs false
namespace Go.Proofs.Ytgcgheilbngcoaa.Th
open Go.RowKit Go.Proofs.YtgcgheilbngcoaaW.PrintWords Go.Proofs.YtgcgheilbngcoaaW.PrintLast Go.Proofs.YtgcgheilbngcoaaW.PrintMore Go.Proofs.Ytgcgheilbngcoaa.PA Bit Flo
theorem packE (w : Int) (hw : w = 32 ∨ w = 64) (s : Bool) (h l : Nat) (hh : h < 18446744073709551616) (hl : l < 18446744073709551616) (e : Int) (m : Bool) : round_Pack.f w s h l e m = some ((mkN w (pkm (fmt w) (wn h l) e m) s : Nat) : Int) := by
  unfold round_Pack.f
  rw [if_pos (by omega), if_pos hw, Int.toNat_natCast, Int.toNat_natCast]
theorem packV (w : Int) (hw : w = 32 ∨ w = 64) (s : Bool) (V : Nat) (hV : V < 340282366920938463463374607431768211456) (e : Int) (m : Bool) : round_Pack.f w s ((V / 18446744073709551616 : Nat) : Int) ((V % 18446744073709551616 : Nat) : Int) e m = some ((mkN w (pkm (fmt w) V e m) s : Nat) : Int) := by
  rw [packE w hw s _ _ (hi64 hV) (lo64 V), wn_div]
theorem pack1 (w : Int) (hw : w = 32 ∨ w = 64) (s : Bool) (n : Nat) (hn : n < 18446744073709551616) (e : Int) : round_Pack.f w s 0 n e false = some ((mkN w ((fmt w).rnd ((n : Rat) * tw e)) s : Nat) : Int) := by
  have := packE w hw s 0 n (by decide) hn e false
  rw [show wn 0 n = n by unfold wn; omega, pk_ex w n e (by omega)] at this
  exact this
theorem shN (w : Int) (hw : w = 32 ∨ w = 64) : shape_Nan.f w = some ((nanN w : Nat) : Int) := by rcases hw with rfl | rfl; exact shNan32; exact shNan64
theorem pv0 {p : Pt} (h : p.2.1 ≠ 1) : pv p = 0 := by unfold pv; rw [if_neg h]
theorem pv1 (s : Bool) (e : Int) (g : Nat) : pv (s, 1, e, (g : Int)) = if s then -((g : Rat) * tw e) else (g : Rat) * tw e := by
  unfold pv; rw [if_pos rfl]; simp
theorem pos_tw {g : Nat} (h : 0 < g) (e : Int) : 0 < (g : Rat) * tw e := Rat.mul_pos (by exact_mod_cast h) (tw_pos e)
def PtOk (p : Pt) : Prop := (p.2.1 = 0 ∨ p.2.1 = 1 ∨ p.2.1 = 2 ∨ p.2.1 = 3) ∧ (p.2.1 = 1 → 0 < p.2.2.2) ∧ (p.2.1 ≠ 1 → p.2.2.2 = 0 ∧ p.2.2.1 = 0) ∧ 0 ≤ p.2.2.2 ∧ p.2.2.2 < 9007199254740992 ∧ -1100 ≤ p.2.2.1 ∧ p.2.2.1 ≤ 1000
theorem opn_ok (w : Int) (hw : w = 32 ∨ w = 64) (a : Nat) : PtOk (opn w a) := by
  rcases kinds w hw a with ⟨_, h⟩ | ⟨h1, h2, h⟩ | ⟨_, h⟩ | ⟨_, h⟩ <;> rw [h]
  · exact ⟨.inl rfl, fun h => absurd h (by simp), fun _ => ⟨rfl, rfl⟩, by simp, by simp, by simp, by simp⟩
  · have h3 := ex_bd w hw _ h2
    have h4 := sg_64 w hw (magN w a)
    refine ⟨.inr (.inl rfl), fun _ => ?_, fun h => absurd rfl h, by simp, by simp; omega, by simp; omega, by simp; omega⟩
    have : 0 < (fmt w).val (magN w a) := (fmt w).val_pos.2 h1
    unfold Fmt.val at this
    rcases Nat.eq_zero_or_pos ((fmt w).sg (magN w a)) with h5 | h5
    · rw [h5] at this; simp at this
    · simp; omega
  · exact ⟨.inr (.inr (.inl rfl)), fun h => absurd h (by simp), fun _ => ⟨rfl, rfl⟩, by simp, by simp, by simp, by simp⟩
  · exact ⟨.inr (.inr (.inr rfl)), fun h => absurd h (by simp), fun _ => ⟨rfl, rfl⟩, by simp, by simp, by simp, by simp⟩
end Go.Proofs.Ytgcgheilbngcoaa.Th
end
section
set_option linter.unusedVariables false
set_option linter.unusedSimpArgs false
namespace Go.Proofs.Ytgcgheilbngcoaa.Th
open Go.RowKit Go.Proofs.YtgcgheilbngcoaaW.PrintWords Go.Proofs.YtgcgheilbngcoaaW.PrintLast Go.Proofs.YtgcgheilbngcoaaW.PrintMore Go.Proofs.Ytgcgheilbngcoaa.PA Bit Dig Flo
noncomputable def narG (w : Int) (s : Bool) (kd e : Int) (g : Nat) : Nat := if kd = 0 then mkN w 0 s else if kd = 1 then mkN w ((fmt w).rnd ((g : Rat) * tw e)) s else if kd = 2 then mkN w (fmt w).inf s else if kd = 3 then nanN w else 0
theorem narrowG (w : Int) (hw : w = 32 ∨ w = 64) (s : Bool) (kd e : Int) (g : Nat) (hg : g < 18446744073709551616) : round_Narrow.f w s kd e g = some ((narG w s kd e g : Nat) : Int) := by
  unfold round_Narrow.f narG
  by_cases h0 : kd = 0
  · rw [if_pos h0, if_pos h0, shZ w hw, Option.bind_some]
  · rw [if_neg h0, if_neg h0]
    by_cases h1 : kd = 1
    · rw [if_pos h1, if_pos h1, ofW g, Option.bind_some]
      show (round_Pack.f w s 0 (g : Int) e false).bind _ = _
      rw [pack1 w hw s g hg e, Option.bind_some]
    · rw [if_neg h1, if_neg h1]
      by_cases h2 : kd = 2
      · rw [if_pos h2, if_pos h2, shI w hw, Option.bind_some]
      · rw [if_neg h2, if_neg h2]
        by_cases h3 : kd = 3
        · rw [if_pos h3, if_pos h3, shN w hw, Option.bind_some]
        · rw [if_neg h3, if_neg h3]; rfl
def Can (w : Int) (r : Nat) : Prop := r = nanN w ∨ ∃ m s, m ≤ (fmt w).inf ∧ r = mkN w m s
theorem inf_sb (w : Int) (hw : w = 32 ∨ w = 64) : (fmt w).inf < sb w ∧ nanN w < sb w ∧ (fmt w).inf < nanN w ∧ nanN w = mkN w (nanN w) false := by
  rcases hw with rfl | rfl
  · rw [fmt32, inf32]; exact ⟨by decide, by decide, by decide, by decide⟩
  · rw [fmt64, inf64]; exact ⟨by decide, by decide, by decide, by decide⟩
theorem can_fx (w : Int) (s : Rat) (z : Bool) : Can w (fx w s z) := by
  unfold fx
  split
  · exact .inr ⟨_, _, Nat.zero_le _, rfl⟩
  · split <;> exact .inr ⟨_, _, (fmt w).rnd_le _, rfl⟩
theorem can_cut {w : Int} (hw : w = 32 ∨ w = 64) {r : Nat} (h : Can w r) : cutN w r = r ∧ r < 18446744073709551616 := by
  have hs := inf_sb w hw
  have h2 : 2 * sb w ≤ 18446744073709551616 := by unfold sb; split <;> decide
  rcases h with rfl | ⟨m, s, hm, rfl⟩
  · rw [hs.2.2.2, cut_mk w hw _ _ hs.2.1, ← hs.2.2.2]; exact ⟨rfl, by omega⟩
  · rw [cut_mk w hw _ _ (by omega)]
    refine ⟨rfl, ?_⟩
    unfold mkN; split <;> omega
theorem can_nan {w : Int} (hw : w = 32 ∨ w = 64) {r : Nat} (h : Can w r) : ((opn w r).2.1 == 3) = decide (r = nanN w) := by
  have hs := inf_sb w hw
  rcases h with rfl | ⟨m, s, hm, rfl⟩
  · rw [hs.2.2.2, opn_mk w hw _ _ hs.2.1, if_neg (by omega), if_neg (by omega), if_neg (by omega)]
    rw [← hs.2.2.2]; simp
  · rw [opn_mk w hw _ _ (by omega)]
    have hne : mkN w m s ≠ nanN w := by unfold mkN; split <;> omega
    rw [decide_eq_false hne]
    by_cases h0 : m = 0
    · rw [if_pos h0]; rfl
    · rw [if_neg h0]
      by_cases h1 : m < (fmt w).inf
      · rw [if_pos h1]; rfl
      · rw [if_neg h1, if_pos (by omega)]; rfl
def tn (r : Nat) (w : Int) : Nat := r ^^^ sb w
theorem sb_pow (w : Int) : ∃ k, sb w = 2 ^ k ∧ k < 64 := by unfold sb; split; exact ⟨31, by decide, by decide⟩; exact ⟨63, by decide, by decide⟩
theorem tn_lt {w : Int} {r : Nat} (h : r < 18446744073709551616) : tn r w < 18446744073709551616 := by
  unfold tn
  exact Nat.xor_lt_two_pow (n := 64) h (by unfold sb; split <;> decide)
theorem tn_parts (w : Int) (r : Nat) : magN w (tn r w) = magN w r ∧ sgB w (tn r w) = !sgB w r := by
  unfold magN sgB tn
  obtain ⟨k, hk, _⟩ := sb_pow w
  rw [hk]
  refine ⟨?_, ?_⟩
  · rw [Nat.xor_mod_two_pow, Nat.mod_self, Nat.xor_zero]
  · rw [← Nat.shiftRight_eq_div_pow, ← Nat.shiftRight_eq_div_pow, Nat.shiftRight_xor_distrib, Nat.shiftRight_eq_div_pow (2 ^ k), Nat.div_self (Nat.pow_pos (by decide))]
    have := @Nat.xor_mod_two_eq_one (r >>> k) 1
    by_cases h : (r >>> k) % 2 = 1 <;> simp [h, this] <;> omega
def tp (p : Pt) : Pt := if p.2.1 = 3 then p else (!p.1, p.2)
theorem opn_tn (w : Int) (hw : w = 32 ∨ w = 64) (a : Nat) : opn w (tn a w) = tp (opn w a) := by
  obtain ⟨e1, e2⟩ := tn_parts w a
  unfold opn; simp only [e1, e2]
  split
  · rfl
  · split
    · rfl
    · split <;> rfl
theorem pv_tp (p : Pt) : pv (tp p) = -pv p := by
  unfold tp pv
  obtain ⟨s, kd, e, g⟩ := p
  simp only
  by_cases h : kd = 3
  · rw [if_pos h]; simp only; rw [if_neg (by omega), Rat.neg_zero]
  · rw [if_neg h]; simp only
    split
    · cases s
      · simp
      · simp [Rat.neg_neg]
    · rw [Rat.neg_zero]
theorem xor_tn (w : Int) (hw : w = 32 ∨ w = 64) {a : Nat} (ha : a < 18446744073709551616) : Go.bits .xor .u64 (a : Int) ((mkN w 0 true : Nat) : Int) = ((tn a w : Nat) : Int) := by
  rw [show mkN w 0 true = sb w by simp [mkN], u64_xor_nat a _ ha (by unfold sb; split <;> decide)]
  rfl
theorem wAdd {A B : Nat} (h : A + B < 340282366920938463463374607431768211456) : wide_Add.f (wH A) (wL A) (wH B) (wL B) = some (wH (A + B), wL (A + B)) := by
  have := addW (A / 18446744073709551616) (A % 18446744073709551616) (B / 18446744073709551616) (B % 18446744073709551616) (hi64 (by omega)) (lo64 A) (hi64 (by omega)) (lo64 B)
  rw [wn_div, wn_div, Nat.mod_eq_of_lt h] at this
  exact this
theorem wSub {A B : Nat} (h : A < 340282366920938463463374607431768211456) (hb : B ≤ A) : wide_Sub.f (wH A) (wL A) (wH B) (wL B) = some (wH (A - B), wL (A - B)) := by
  have := subW (A / 18446744073709551616) (A % 18446744073709551616) (B / 18446744073709551616) (B % 18446744073709551616) (hi64 (by omega)) (lo64 A) (hi64 (by omega)) (lo64 B)
  rw [wn_div, wn_div, show (A + (340282366920938463463374607431768211456 - B)) % 340282366920938463463374607431768211456 = A - B by omega] at this
  exact this
theorem wCmp (A B : Nat) : wide_Cmp.f (wH A) (wL A) (wH B) (wL B) = some (cmpN A B) := by
  have := cmpW (A / 18446744073709551616) (A % 18446744073709551616) (B / 18446744073709551616) (B % 18446744073709551616) (lo64 A) (lo64 B)
  rwa [wn_div, wn_div] at this
theorem wPack (w : Int) (hw : w = 32 ∨ w = 64) (s : Bool) (V : Nat) (hV : V < 340282366920938463463374607431768211456) (e : Int) (m : Bool) : round_Pack.f w s (wH V) (wL V) e m = some ((mkN w (pkm (fmt w) V e m) s : Nat) : Int) := packV w hw s V hV e m
theorem alignE (s t : Bool) (k1 k2 : Int) {g g2 : Nat} {e e2 : Int} (hg : g < 9007199254740992) (hg2 : g2 < 9007199254740992) (h1 : -1100 ≤ e2) (h2 : e2 ≤ e) (h3 : e ≤ 1000) {u d : Nat} (hu : (u : Int) = min (e - e2) 64) (hd : (d : Int) = e - e2 - u) :
    sum_align.f s k1 e g t k2 e2 g2 = some (wH (g * 2 ^ u), wL (g * 2 ^ u), wH (g2 / 2 ^ d), wL (g2 / 2 ^ d), e - u, decide (g2 % 2 ^ d ≠ 0)) := by
  have hp : 2 ^ u ≤ 18446744073709551616 := by
    have := Nat.pow_le_pow_right (show 0 < 2 by decide) (show u ≤ 64 by omega)
    rwa [show (2 : Nat) ^ 64 = 18446744073709551616 by decide] at this
  have hm : g * 2 ^ u < 340282366920938463463374607431768211456 := by
    have := Nat.mul_le_mul (show g ≤ 9007199254740992 by omega) hp
    omega
  unfold sum_align.f
  rw [ofW g, Option.bind_some, w64_id (n := e - e2) (by omega) (by omega)]
  have hmn : mn (e - e2) 64 = (u : Int) := by unfold mn; rw [hu]; split <;> omega
  rw [hmn]
  have hl := wLeft (V := g) (by omega) u (by omega) hm
  have hr := wRight (V := g2) (by omega) d (by omega)
  rw [(wSmall (V := g) (by omega)).1, (wSmall (V := g) (by omega)).2] at hl
  rw [(wSmall (V := g2) (by omega)).1, (wSmall (V := g2) (by omega)).2] at hr
  simp only
  rw [hl, Option.bind_some, ofW g2, Option.bind_some, w64_id (n := e - e2 - u) (by omega) (by omega), ← hd]
  simp only
  rw [hr, Option.bind_some, w64_id (n := e - u) (by omega) (by omega)]
theorem natSub {a b : Nat} (h : b ≤ a) : ((a - b : Nat) : Rat) = (a : Rat) - b := by
  obtain ⟨c, rfl⟩ := Nat.le.dest h
  rw [Nat.add_sub_cancel_left, Rat.natCast_add]; grind
theorem subMul (a b c : Rat) : (a - b) * c = a * c - b * c := by grind
theorem finOrd (w : Int) (hw : w = 32 ∨ w = 64) (s t : Bool) (k1 k2 : Int) {g g2 : Nat} {e e2 : Int} (g0 : 0 < g) (g20 : 0 < g2) (hg : g < 9007199254740992) (hg2 : g2 < 9007199254740992) (h1 : -1100 ≤ e2) (h2 : e2 ≤ e) (h3 : e ≤ 1000) :
    Ev (fun k => sum_finite.j0 k w s k1 e g t k2 e2 g2) ((fx w (pv (s, 1, e, (g : Int)) + pv (t, 1, e2, (g2 : Int))) (s && t) : Nat) : Int) := by
  obtain ⟨u, hu⟩ : ∃ u : Nat, (u : Int) = min (e - e2) 64 := ⟨(min (e - e2) 64).toNat, by omega⟩
  obtain ⟨d, hd⟩ : ∃ d : Nat, (d : Int) = e - e2 - u := ⟨(e - e2 - u).toNat, by omega⟩
  have al := alignE s t k1 k2 hg hg2 h1 h2 h3 hu hd
  obtain ⟨f1, f2, f3, f4, f5⟩ := align_eq (sa := g) (sb := g2) h2 g0 hu hd
  have hp : 2 ^ u ≤ 18446744073709551616 := by
    have := Nat.pow_le_pow_right (show 0 < 2 by decide) (show u ≤ 64 by omega)
    rwa [show (2 : Nat) ^ 64 = 18446744073709551616 by decide] at this
  have hm : g * 2 ^ u < 170141183460469231731687303715884105728 := by
    have := Nat.mul_le_mul (show g ≤ 9007199254740992 by omega) hp
    omega
  have hb : g2 / 2 ^ d ≤ g2 := Nat.div_le_self _ _
  have hA : g2 % 2 ^ d ≠ 0 → 18446744073709551616 ≤ g * 2 ^ u := fun h => by
    have := (f5 h).2
    rw [this, show (2 : Nat) ^ 64 = 18446744073709551616 by decide]
    omega
  have pX := pos_tw g0 e
  have pY := pos_tw g20 e2
  rw [pv1, pv1]
  generalize (g : Rat) * tw e = X at *
  generalize (g2 : Rat) * tw e2 = Y at *
  generalize hAA : g * 2 ^ u = A at *
  generalize hBB : g2 / 2 ^ d = B at *
  generalize hEE : e - (u : Int) = E at *
  have T := tw_pos E
  obtain ⟨lost, hl⟩ : ∃ l : Bool, decide (g2 % 2 ^ d ≠ 0) = l := ⟨_, rfl⟩
  rw [hl] at al
  have c0 : lost = false → Y = (B : Rat) * tw E := fun h => f4 (by rw [h] at hl; simpa using hl)
  have c1 : lost = true → (B : Rat) * tw E < Y ∧ 18446744073709551616 ≤ A := fun h => by
    rw [h] at hl
    have : g2 % 2 ^ d ≠ 0 := by simpa using hl
    exact ⟨(f5 this).1, hA this⟩
  clear f4 f5 hA hl
  have cast1 : ∀ n : Nat, ((n + 1 : Nat) : Rat) = (n : Rat) + 1 := fun n => by push_cast; rfl
  refine Ev.step (fun _ => sum_finite.j0.eq_2 ..) (Ev.bs al ?_)
  simp only
  by_cases hst : s = t
  · subst hst
    refine Ev.pos (by simp) (Ev.bs (wAdd (by omega)) (Ev.bs (wPack w hw s _ (by omega) E lost) (Ev.out ?_)))
    have e1 : (if s then -X else X) + (if s then -Y else Y) = if s then -(X + Y) else X + Y := by cases s <;> simp <;> grind
    rw [e1, fx_sg w (by grind)]
    cases hlo : lost
    · rw [pk_ex w _ _ (by omega), f1, c0 hlo, Rat.natCast_add, Rat.add_mul]
    · rw [pk_mo w (x := X + Y) (by omega) (by have := (c1 hlo).2; omega)]
      · have := (c1 hlo).1
        rw [Rat.natCast_add, Rat.add_mul, f1]; grind
      · rw [cast1, Rat.natCast_add, f1]
        rw [cast1] at f3
        grind
  · refine Ev.neg (by simpa using hst) (Ev.bs (wCmp A B) ?_)
    have e1 : (if s then -X else X) + (if t then -Y else Y) = if s then -(X - Y) else X - Y := by revert hst; cases s <;> cases t <;> simp <;> grind
    have e2' : (if s then -X else X) + (if t then -Y else Y) = if t then -(Y - X) else Y - X := by revert hst; cases s <;> cases t <;> simp <;> grind
    have ez : (s && t) = false := by revert hst; cases s <;> cases t <;> simp
    rcases Nat.lt_trichotomy A B with hc | hc | hc
    · have hlo : lost = false := by
        cases hlo : lost
        · rfl
        · have := (c1 hlo).2; omega
      rw [show cmpN A B = -1 by unfold cmpN; rw [if_pos hc]]
      refine Ev.neg (by decide) (Ev.pos rfl (Ev.bs (wSub (by omega) (by omega)) (Ev.bs (wPack w hw t _ (by omega) E false) (Ev.out ?_))))
      have hlt : (A : Rat) * tw E < (B : Rat) * tw E := mul_lt (nat_lt.2 hc) T
      rw [e2', fx_sg w (by rw [f1, c0 hlo]; grind), pk_ex w _ _ (by omega), f1, c0 hlo]
      rw [show ((B - A : Nat) : Rat) = (B : Rat) - A by rw [natSub (by omega)], subMul]
    · have hlo : lost = false := by
        cases hlo : lost
        · rfl
        · have := (c1 hlo).2; omega
      rw [show cmpN A B = 0 by unfold cmpN; rw [if_neg (by omega), if_neg (by omega)]]
      refine Ev.pos rfl (Ev.bs (shZ w hw false) (Ev.out ?_))
      rw [e1, f1, c0 hlo, hc, show (B : Rat) * tw E - (B : Rat) * tw E = 0 by grind, ez]
      cases s <;> simp [fx_zero]
    · rw [show cmpN A B = 1 by unfold cmpN; rw [if_neg (by omega), if_pos hc]]
      refine Ev.neg (by decide) (Ev.neg (by decide) (Ev.bs (wSub (by omega) (by omega)) ?_))
      cases hlo : lost
      · refine Ev.neg (by decide) (Ev.bs (wPack w hw s _ (by omega) E false) (Ev.out ?_))
        have hlt : (B : Rat) * tw E < (A : Rat) * tw E := mul_lt (nat_lt.2 hc) T
        rw [e1, fx_sg w (by rw [f1, c0 hlo]; grind), pk_ex w _ _ (by omega), f1, c0 hlo]
        rw [show ((A - B : Nat) : Rat) = (A : Rat) - B by rw [natSub (by omega)], subMul]
      · have h64 := (c1 hlo).2
        have hlt := (c1 hlo).1
        have hle : ((B + 1 : Nat) : Rat) * tw E ≤ (A : Rat) * tw E := mul_le (nat_le.2 (by omega)) T
        have w1 : wide_Sub.f (wH (A - B)) (wL (A - B)) 0 1 = some (wH (A - B - 1), wL (A - B - 1)) := by
          have := wSub (A := A - B) (B := 1) (by omega) (by omega)
          rwa [(wSmall (V := 1) (by decide)).1, (wSmall (V := 1) (by decide)).2] at this
        refine Ev.pos rfl (Ev.bs (show wide_Of.f 1 = some (0, 1) from rfl) (Ev.bs w1 (Ev.bs (wPack w hw s _ (by omega) E true) (Ev.out ?_))))
        rw [e1, fx_sg w (by rw [f1]; grind)]
        rw [pk_mo w (x := X - Y) (by omega) (by omega)]
        · rw [f1]
          have : ((A - B - 1 : Nat) : Rat) = (A : Rat) - B - 1 := by rw [natSub (by omega), natSub (by omega)]; rfl
          rw [this]
          rw [cast1] at f3
          grind
        · rw [f1, show A - B - 1 + 1 = A - B by omega, natSub (by omega)]
          grind
end Go.Proofs.Ytgcgheilbngcoaa.Th
end
