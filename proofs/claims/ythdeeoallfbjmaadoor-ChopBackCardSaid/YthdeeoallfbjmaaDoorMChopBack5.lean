/- What the Go functions that the statement ChopBack reaches compute, and the mathematics on it, in the order in which one leans on the other; for every input. -/
import Derived.Test.YthdeeoallfbjmaaDoorVChopBack1
import Derived.Test.YthdeeoallfbjmaaDoorMChopBack0
import Derived.Test.YthdeeoallfbjmaaDoorMChopBack3
import Derived.Test.YthdeeoallfbjmaaDoorMChopBack4
import Derived.Test.YthdeeoallfbjmaaDoorMChopBack1
namespace Go.Proofs.YthdeeoallfbjmaaDoor.PA
open Go.RowKit Go.Proofs.YthdeeoallfbjmaaDoorW.PrintWords Go.Proofs.YthdeeoallfbjmaaDoorW.PrintLast Go.Proofs.YthdeeoallfbjmaaDoorW.PrintMore
attribute [local go_sem] max2_int min2_int max_two min_two max_three min_three max_four min_four   -- for this text's walks alone
set_option linter.unusedVariables false
set_option linter.unusedSimpArgs false
set_option maxHeartbeats 8000000
set_option maxRecDepth 100000
def r1_Len.l0 : Nat → Int → Int → Option (Int)
 | 0, _, _ => none
 | k + 1, x3, x4 => if x4 > 0 then (r1_Len.l0 k (wrap64 (x3 + 1)) (IntKind.u64.wrap (Int.tdiv x4 2))) else (some x3)
def r1_Len.f (k : Nat) (l0_0 : List Int) : Option (Int) := if (l0_0.length : Int) = 0 then (some 0) else (if 0 ≤ (wrap64 ((l0_0.length : Int) - 1)) then (if (wrap64 ((l0_0.length : Int) - 1)) < (l0_0.length : Int) then (r1_Len.l0 k (wrap64 (32 * (wrap64 ((l0_0.length : Int) - 1)))) (rd l0_0 (wrap64 ((l0_0.length : Int) - 1)))) else (none)) else (none))
theorem r1_Len.mono_l : ∀ k, (∀ y0 y1, LeO (r1_Len.l0 k y0 y1) (r1_Len.l0 (k + 1) y0 y1))
 | 0 => fun _ _ r h => by simp [r1_Len.l0] at h
 | k + 1 => by
  have ih0 := r1_Len.mono_l k
  ·intro y0 y1
   unfold r1_Len.l0
   repeat' first
   | (with_reducible exact ih0 _ _)
   | (with_reducible exact LeO.refl _)
   | (with_reducible exact LeO.none _)
   | (with_reducible refine LeO.ite ?_ ?_)
   | (with_reducible refine LeO.bind ?_ (fun _ => ?_))
   | exact ih0 _ _
   | exact LeO.none _
   | refine LeO.ite ?_ ?_
   | refine LeO.bind ?_ (fun _ => ?_)
theorem r1_Len.mono : ∀ a0 k, LeO (r1_Len.f k a0) (r1_Len.f (k + 1) a0) := by
 intro a0 k
 have ih0 := r1_Len.mono_l k
 unfold r1_Len.f
 repeat' first
   | (with_reducible exact ih0 _ _)
   | (with_reducible exact LeO.refl _)
   | (with_reducible exact LeO.none _)
   | (with_reducible refine LeO.ite ?_ ?_)
   | (with_reducible refine LeO.bind ?_ (fun _ => ?_))
   | exact ih0 _ _
   | exact LeO.none _
   | refine LeO.ite ?_ ?_
   | refine LeO.bind ?_ (fun _ => ?_)
theorem r1_Len.calls (k : Nat) (A0_0 : Option Addr) (c0_0 : Nat) (l0_0 : List Int) (r : Int) (w : World) (hr0_0 : Kd.C (Kd.int .u64) w A0_0 l0_0.length l0_0) (hc0_0 : l0_0.length ≤ c0_0) (h : r1_Len.f k l0_0 = some r) :
  Calls Tryd.prog 94 #[.agg #[.slice A0_0 l0_0.length c0_0]] w fun e w' => e = .returned (.int .i64 r) ∧ Below w.heap.size w w' := by
 have hu67 := Tryd.underlying67
 have HR0_0 := A_ hr0_0;have HC0_0 := A_ hc0_0;clear hr0_0 hc0_0
 have HB := A_ (Below.refl w.heap.size w)
 have H : (if (l0_0.length : Int) = 0 then (some 0) else (if 0 ≤ (wrap64 ((l0_0.length : Int) - 1)) then (if (wrap64 ((l0_0.length : Int) - 1)) < (l0_0.length : Int) then (r1_Len.l0 k (wrap64 (32 * (wrap64 ((l0_0.length : Int) - 1)))) (rd l0_0 (wrap64 ((l0_0.length : Int) - 1)))) else (none)) else (none))) = some r := h
 clear h
 by_cases c2 : (l0_0.length : Int) = 0
 ·rw [if_pos c2] at H
  have c2b0 : ((l0_0.length : Int) == 0) = true := beq_iff_eq.mpr c2
  have c2b1 : ((l0_0.length : Int) != 0) = false := bne_eq_false_iff_eq.mpr c2
  clear c2
  obtain rfl := Option.some.inj H
  go_enter Tryd.func94, Tryd.ntmps94
  go_wp2_with (first | ((with_reducible refine gate_dst (N := 1) rfl ?_); refine be_ 1 #[.slice A0_0 l0_0.length c0_0] 67 ?_; intro gb363 hg w3 hbox hb; have BK363 := A_ (hbox); have GW363 := A_ (sz_ hg (hb_ HB.out)); have GE363 := A_ (sz_ hg (hb_ HB.out)); replace HB := A_ (below_step (hb_ HB.out) hb); clear hb hbox hg; have hcz4_0 := bv_ BK363.out 0; have hfz4_0 := blk_frozen BK363.out 0))
  go_ret
  exact ⟨er_, hb1_ HB.out GE363.out⟩
 ·rw [if_neg c2] at H
  have c2b0 : ((l0_0.length : Int) == 0) = false := beq_eq_false_iff_ne.mpr c2
  have c2b1 : ((l0_0.length : Int) != 0) = true := bne_iff_ne.mpr c2
  have c2b2 : ¬ (l0_0 = []) := fun h_ => c2 (by rw [h_]; rfl)
  obtain ⟨ji5, hji5⟩ : ∃ j_ : Int, (wrap64 ((l0_0.length : Int) - 1)) = j_ := ⟨_, rfl⟩
  replace H : (if 0 ≤ (ji5) then (if (ji5) < (l0_0.length : Int) then (r1_Len.l0 k (wrap64 (32 * (ji5))) (rd l0_0 (ji5))) else (none)) else (none)) = some r := by first | (rw [hji5] at H; exact H) | (simp only [hji5] at H ⊢; exact H)
  have hji5w : (IntKind.i64.wrap ((l0_0.length : Int) - 1)) = ji5 := (i64_w _).trans hji5
  by_cases c6 : 0 ≤ (ji5)
  ·rw [if_pos c6] at H
   have c6b0 : decide (0 ≤ (ji5)) = true := decide_eq_true c6
   clear c6
   by_cases c7 : (ji5) < (l0_0.length : Int)
   ·rw [if_pos c7] at H
    have c7b0 : decide ((ji5) < (l0_0.length : Int)) = true := decide_eq_true c7
    clear c7
    have H' := A_ H
    clear H
    go_enter Tryd.func94, Tryd.ntmps94
    go_wp2_with (first | ((with_reducible refine gate_dst (N := 1) rfl ?_); refine be_ 1 #[.slice A0_0 l0_0.length c0_0] 67 ?_; intro gb363 hg w8 hbox hb; have BK363 := A_ (hbox); have GW363 := A_ (sz_ hg (hb_ HB.out)); have GE363 := A_ (sz_ hg (hb_ HB.out)); replace HB := A_ (below_step (hb_ HB.out) hb); clear hb hbox hg; have hcz9_0 := bv_ BK363.out 0; have hfz9_0 := blk_frozen BK363.out 0; have p364 : 0 ≤ ((ji5) : Int) := of_decide_eq_true (by first | (with_reducible assumption) | assumption); have q364 : (ji5) < (l0_0.length : Int) := of_decide_eq_true (by first | (with_reducible assumption) | assumption); obtain ⟨ad364, e364, hx364_0⟩ := Kd.at_int HR0_0.out (ji5) p364 q364; cases e364; replace hx364_0 := (HB.out.cell (World.block_lt_of_cell? w _ hx364_0)).trans hx364_0; replace p364 := eq_true p364; replace q364 := eq_true q364))
    go_loopg [3, 4] k (fun kq v3 v4 w' => ∃ (x3_1 : Int) (x4_1 : Int), v3 = .int .i64 x3_1 ∧ v4 = .int .u64 x4_1 ∧ Aside0 (r1_Len.l0 kq x3_1 x4_1 = some r) ∧ Aside0 (kq ≤ k) ∧ Aside0 (w'.heap[gb363]? = some (.cells #[(.slice (some ad364) l0_0.length c0_0)] 67 (0, 0))) ∧ Aside0 (Below w.heap.size w w'))
    case atStart => exact ⟨(wrap64 (32 * (ji5))), (rd l0_0 (ji5)), (by first | rfl | (simp; done) | (simp only [← hji5] <;> (first | rfl | simp)) | (simp [*]; done)), (by first | rfl | (simp; done) | (simp only [← hji5] <;> (first | rfl | simp)) | (simp [*]; done)), H', ⟨Nat.le_refl _⟩, ⟨bk_ BK363.out⟩, ⟨hb1_ HB.out GE363.out⟩⟩
    case round =>
     clear H'
     try clear c2
     try clear c2b0
     try clear c2b1
     try clear c2b2
     try clear p2
     try clear p3
     try clear q3
     try clear hx3
     try clear c6
     try clear c6b0
     try clear p6
     try clear c7
     try clear c7b0
     try clear c9
     try clear hcz4_0
     try clear hcz9_0
     try clear hfz4_0
     try clear hfz9_0
     try clear hx364_0
     try clear p364
     try clear q364
     obtain ⟨x3_1, x4_1, rfl, rfl, HA, HK1, BK363, HB⟩ := hrel
     cases gk with
     | zero => exact absurd HA.out (by simp [r1_Len.l0])
     | succ k1 =>
      have H := HA.out
      clear HA
      simp only [r1_Len.l0] at H
      by_cases c10 : x4_1 > 0
      ·rw [if_pos c10] at H
       have c10b0 : decide (0 < x4_1) = true := decide_eq_true c10
       clear c10
       have H' := A_ H
       clear H
       go_wp2
       go_roundg k1
       case measure => have := HK1.out; omega
       case rel => exact ⟨(wrap64 (x3_1 + 1)), (IntKind.u64.wrap (Int.tdiv x4_1 2)), sm_, sm_, H', ⟨by have := HK1.out; omega⟩, ⟨bk_ BK363.out⟩, ⟨hb1_ HB.out GE363.out⟩⟩
      ·rw [if_neg c10] at H
       have c10b0 : decide (0 < x4_1) = false := decide_eq_false c10
       clear c10
       obtain rfl := Option.some.inj H
       go_wp2
       go_ret
       exact ⟨by first | rfl | (simp [errW_none, errW_some] <;> rfl) | (simp only [← hji5]; first | rfl | (simp [errW_none, errW_some] <;> rfl)) | (simp [*, errW_none, errW_some] <;> rfl), hb1_ HB.out GE363.out⟩
   ·rw [if_neg c7] at H
    exact absurd H (by simp)
  ·rw [if_neg c6] at H
   exact absurd H (by simp)
end Go.Proofs.YthdeeoallfbjmaaDoor.PA
namespace Dig
def valB (B : Nat) : List Int → Nat
  | [] => 0
  | d :: l => d.toNat + B * valB B l
def OkB (B : Nat) (l : List Int) : Prop := ∀ d ∈ l, 0 ≤ d ∧ d < B
section
variable {B : Nat}
theorem OkB.nil : OkB B [] := fun _ h => by cases h
theorem OkB.cons {d : Int} {l : List Int} (h : 0 ≤ d ∧ d < B) (k : OkB B l) : OkB B (d :: l) := fun x hx => by
  rcases List.mem_cons.1 hx with rfl | hx
  · exact h
  · exact k x hx
theorem OkB.head {d : Int} {l : List Int} (k : OkB B (d :: l)) : 0 ≤ d ∧ d < B := k d List.mem_cons_self
theorem OkB.take {l : List Int} (k : OkB B l) (i : Nat) : OkB B (l.take i) := fun x hx => k x (List.mem_of_mem_take hx)
end
theorem W2 : 2 ≤ 4294967296 := by decide
def val (l : List Int) : Nat := valB 4294967296 l
def Ok (l : List Int) : Prop := ∀ d ∈ l, 0 ≤ d ∧ d < 4294967296
theorem Ok.up {l : List Int} (h : Ok l) : OkB 4294967296 l := h
theorem Ok.nil : Ok [] := fun _ h => by cases h
theorem Ok.cons {d : Int} {l : List Int} (h : 0 ≤ d ∧ d < 4294967296) (k : Ok l) : Ok (d :: l) := OkB.cons (B := 4294967296) h k
theorem Ok.take {l : List Int} (k : Ok l) (i : Nat) : Ok (l.take i) := OkB.take (B := 4294967296) k i
end Dig
section
set_option linter.unusedVariables false
set_option linter.unusedSimpArgs false
namespace Go.Proofs.YthdeeoallfbjmaaDoor.Th
open Go.RowKit Go.Proofs.YthdeeoallfbjmaaDoorW.PrintWords Go.Proofs.YthdeeoallfbjmaaDoorW.PrintLast Go.Proofs.YthdeeoallfbjmaaDoorW.PrintMore Go.Proofs.YthdeeoallfbjmaaDoor.PA Dig

def bl (n : Nat) : Nat := if n = 0 then 0 else n.log2 + 1
theorem bl_zero : bl 0 = 0 := rfl
theorem bl_half {n : Nat} (h : 0 < n) : bl n = bl (n / 2) + 1 := by
  unfold bl
  rw [if_neg (by omega)]
  by_cases h2 : n < 2
  · obtain rfl : n = 1 := by omega
    rfl
  · rw [if_neg (by omega), Nat.log2_def, if_pos (by omega)]
theorem bl_le {n k : Nat} : bl n ≤ k ↔ n < 2 ^ k := by
  unfold bl
  split
  · subst_vars; simp [Nat.pow_pos]
  · rw [← Nat.log2_lt ‹_›]; omega
theorem lt_bl {n k : Nat} : k < bl n ↔ 2 ^ k ≤ n := by
  have := @bl_le n k; omega
theorem bl_shift (n k : Nat) (h : 0 < n) : bl (n * 2 ^ k) = bl n + k := by
  refine Nat.le_antisymm ?_ ?_
  · rw [bl_le, Nat.pow_add]
    exact Nat.mul_lt_mul_of_pos_right (bl_le.1 (Nat.le_refl _)) (Nat.pow_pos (by decide))
  · have h1 : 2 ^ (bl n - 1) ≤ n := lt_bl.1 (by have := (lt_bl (n := n) (k := 0)).2 (by rw [Nat.pow_zero]; omega); omega)
    have h0 : 0 < bl n := (lt_bl (n := n) (k := 0)).2 (by rw [Nat.pow_zero]; omega)
    have h2 : bl n + k - 1 < bl (n * 2 ^ k) := by
      rw [lt_bl, show bl n + k - 1 = (bl n - 1) + k by omega, Nat.pow_add]
      exact Nat.mul_le_mul_right _ h1
    omega
theorem bl_add_low (a b k : Nat) (ha : 0 < a) (hb : b < 2 ^ k) : bl (a * 2 ^ k + b) = bl a + k := by
  refine Nat.le_antisymm ?_ ?_
  · rw [bl_le, Nat.pow_add]
    have h1 : a + 1 ≤ 2 ^ bl a := bl_le.1 (Nat.le_refl _)
    have h2 := Nat.mul_le_mul_right (2 ^ k) h1
    rw [Nat.add_mul] at h2
    omega
  · rw [← bl_shift a k ha]
    have h0 : 0 < bl (a * 2 ^ k) := (lt_bl (n := a * 2 ^ k) (k := 0)).2 (by rw [Nat.pow_zero]; exact Nat.mul_pos ha (Nat.pow_pos (by decide)))
    have h1 : bl (a * 2 ^ k) - 1 < bl (a * 2 ^ k + b) := by
      rw [lt_bl]
      have : 2 ^ (bl (a * 2 ^ k) - 1) ≤ a * 2 ^ k := lt_bl.1 (by omega)
      omega
    omega
theorem lt_two_bl (n : Nat) : n < 2 ^ bl n := bl_le.1 (Nat.le_refl _)
theorem bl_pos {n : Nat} : 0 < bl n ↔ 0 < n := by
  have := (lt_bl (n := n) (k := 0)); rw [Nat.pow_zero] at this; omega
theorem two_bl_le {n : Nat} (h : 0 < n) : 2 ^ (bl n - 1) ≤ n := lt_bl.1 (by have := bl_pos.2 h; omega)
theorem bl64 {n : Nat} (h : n < 18446744073709551616) : bl n ≤ 64 := bl_le.2 h

end Go.Proofs.YthdeeoallfbjmaaDoor.Th
end
section
set_option linter.unusedVariables false
set_option linter.unusedSimpArgs false
namespace Go.Proofs.YthdeeoallfbjmaaDoor.Th
open Flo
def pkc (F : Fmt) (S : Nat) (e : Int) (m : Nat) : Nat :=
  if (bl S : Int) - F.f - 1 ≤ 0 ∧ F.low - e ≤ 0 then F.fin (e - (min ((F.f : Int) + 1 - bl S) (e - F.low)).toNat - F.low).toNat (S * 2 ^ (min ((F.f : Int) + 1 - bl S) (e - F.low)).toNat)
  else F.fin (e + max ((bl S : Int) - F.f - 1) (F.low - e) - F.low).toNat (rne (2 * S + m) (2 ^ ((max ((bl S : Int) - F.f - 1) (F.low - e)).toNat + 1)))
def pkm (F : Fmt) (S : Nat) (e : Int) (m : Bool) : Nat :=
  if S = 0 ∧ m = false then 0 else if 1048576 < e then F.inf else if e < -1048576 then 0 else
  if m = true ∧ bl S < 127 then pkc F (2 * S + 1) (e - 1) 0 else pkc F S e (if m then 1 else 0)
theorem dbl (S : Nat) (e : Int) : ((2 * S + 0 : Nat) : Rat) * tw (e - 1) = (S : Rat) * tw e := by
  rw [tw_pred e]; push_cast; grind
theorem pkc_dn (F : Fmt) {S m : Nat} {e : Int} (hm : m ≤ 1) (hS : 0 < S) (h : ¬ ((bl S : Int) - F.f - 1 ≤ 0 ∧ F.low - e ≤ 0)) :
    ∃ q n j : Nat, (j : Int) + 1 = max ((bl S : Int) - F.f - 1) (F.low - e) ∧ (q : Int) = e + (j + 1 : Nat) - F.low ∧ n = rne (2 * S + m) (2 ^ (j + 2)) ∧ pkc F S e m = F.fin q n ∧
    F.Rnd (F.Up (((2 * S + m : Nat) : Rat) * tw (e - 1))) (F.fin q n) ∧ n ≤ 2 ^ (F.f + 1) ∧ (0 < q → 2 ^ F.f ≤ n) := by
  have h1 := two_bl_le hS
  have h2 := lt_two_bl S
  have h0 := bl_pos.2 hS
  have h3 : 2 ^ bl S ≤ 2 * S := by
    have : 2 ^ bl S = 2 ^ (bl S - 1) * 2 := by rw [← Nat.pow_succ]; congr 1; omega
    omega
  obtain ⟨j, hj⟩ : ∃ j : Nat, (j : Int) + 1 = max ((bl S : Int) - F.f - 1) (F.low - e) := ⟨(max ((bl S : Int) - F.f - 1) (F.low - e) - 1).toNat, by omega⟩
  obtain ⟨q, hq⟩ : ∃ q : Nat, (q : Int) = e + (j + 1 : Nat) - F.low := ⟨(e + (j + 1 : Nat) - F.low).toNat, by omega⟩
  have P := Fmt.Rnd.pack_dn F (S := S) (la := bl S) (j := j) (m := m) (e := e) (q := q) hm h3 h2 (by omega) hq
  refine ⟨q, _, j, hj, hq, rfl, ?_, P.1, P.2.1, P.2.2⟩
  unfold pkc
  rw [if_neg h, ← hj, show ((j : Int) + 1).toNat + 1 = j + 2 by omega, show (e + ((j : Int) + 1) - F.low).toNat = q by omega]
theorem pkc_up (F : Fmt) {S : Nat} {e : Int} (hS : 0 < S) (h : (bl S : Int) - F.f - 1 ≤ 0 ∧ F.low - e ≤ 0) :
    ∃ q u : Nat, (u : Int) = min ((F.f : Int) + 1 - bl S) (e - F.low) ∧ (q : Int) = e - u - F.low ∧ pkc F S e 0 = F.fin q (S * 2 ^ u) ∧
    F.Rnd (F.Up (((2 * S + 0 : Nat) : Rat) * tw (e - 1))) (F.fin q (S * 2 ^ u)) ∧ S * 2 ^ u ≤ 2 ^ (F.f + 1) ∧ (0 < q → 2 ^ F.f ≤ S * 2 ^ u) := by
  have h1 := two_bl_le hS
  have h2 := lt_two_bl S
  have h0 := bl_pos.2 hS
  have h3 : 2 ^ bl S ≤ 2 * S := by
    have : 2 ^ bl S = 2 ^ (bl S - 1) * 2 := by rw [← Nat.pow_succ]; congr 1; omega
    omega
  obtain ⟨u, hu⟩ : ∃ u : Nat, (u : Int) = min ((F.f : Int) + 1 - bl S) (e - F.low) := ⟨(min ((F.f : Int) + 1 - bl S) (e - F.low)).toNat, by omega⟩
  obtain ⟨q, hq⟩ : ∃ q : Nat, (q : Int) = e - u - F.low := ⟨(e - u - F.low).toNat, by omega⟩
  have P := Fmt.Rnd.pack_up F (S := S) (la := bl S) (e := e) (u := u) (q := q) h3 h2 (by omega) (by omega) hu hq
  refine ⟨q, u, hu, hq, ?_, by rw [dbl]; exact P.1, P.2.1, P.2.2⟩
  unfold pkc
  rw [if_pos h, ← hu, show ((u : Nat) : Int).toNat = u by omega, show (e - (u : Int) - F.low).toNat = q by omega]
end Go.Proofs.YthdeeoallfbjmaaDoor.Th
end
namespace Go.Proofs.YthdeeoallfbjmaaDoor.PA
open Go.RowKit Go.Proofs.YthdeeoallfbjmaaDoorW.PrintWords Go.Proofs.YthdeeoallfbjmaaDoorW.PrintLast Go.Proofs.YthdeeoallfbjmaaDoorW.PrintMore
attribute [local go_sem] max2_int min2_int max_two min_two max_three min_three max_four min_four   -- for this text's walks alone
set_option linter.unusedVariables false
set_option linter.unusedSimpArgs false
set_option maxHeartbeats 8000000
set_option maxRecDepth 100000
def shape_format_split.f (a0_0 : Int) (a0_1 : Int) (a1 : Int) : Option (Int × Int × Bool × Int × Int) := if 0 ≤ (wrap64 (a0_0 + a0_1)) then (if 0 ≤ a0_1 then ((shape_format_ones.f a0_0 a0_1).bind fun t308 => (some (a0_0, a0_1, ((Go.bits .and .u64 (shr .u64 a1 (wrap64 (a0_0 + a0_1))) 1) == 1), Go.bits .and .u64 (shr .u64 a1 a0_1) t308, Go.bits .and .u64 a1 (IntKind.u64.wrap ((shl .u64 1 a0_1) - 1))))) else (none)) else (none)
def shape_format_split.T1 : Bool × List (List Nat × List Nat) := (true, [([], []), ([], []), ([], []), ([2], [2]), ([], []), ([4], [4]), ([3, 5], [3, 5]), ([1, 6], [1, 6]), ([7], [7]), ([8], [8]), ([], []), ([], []), ([11], [11]), ([10, 12], [10, 12]), ([], []), ([14], [14]), ([13, 15], [13, 15]), ([], []), ([], []), ([18], [18]), ([19], [19]), ([20], [20]), ([17, 21], [17, 21]), ([0, 9, 16, 22], [0, 9, 16, 22]), ([23, 15, 0, 1, 2, 3, 4, 5, 6, 7, 8, 9, 10, 11, 12, 13, 14, 15, 16, 17, 18, 19, 20, 21, 22, 23], [23])])
def shape_format_split.B1 : List Nat := [0, 0, 0, 4, 0, 16, 60, 126, 254, 510, 0, 0, 2048, 7168, 0, 16384, 64512, 0, 0, 262144, 786432, 1835008, 4063232, 8388607, 16777215]
theorem shape_format_split.tab1 : rtab .any (opsOf Tryd.f87 1) = shape_format_split.T1 := by kernel_rfl
theorem shape_format_split.bits1 : waitsOk shape_format_split.T1.2 shape_format_split.B1 = true := by kernel_rfl
theorem shape_format_split.calls (a0_0 : Int) (a0_1 : Int) (a1 : Int) (r1 : Int) (r2 : Int) (r3 : Bool) (r4 : Int) (r5 : Int) (w : World) (h : shape_format_split.f a0_0 a0_1 a1 = some (r1, r2, r3, r4, r5)) :
  Calls Tryd.prog 87 #[.agg #[.int .i64 a0_0, .int .i64 a0_1], .int .u64 a1] w fun e w' => e = .returned (.agg #[.int .i64 r1, .int .i64 r2, .bool r3, .int .u64 r4, .int .u64 r5]) ∧ Below w.heap.size w w' := by
 have hu78 := Tryd.underlying78
 have hu102 := Tryd.underlying102
 have HB := A_ (Below.refl w.heap.size w)
 have H : (if 0 ≤ (wrap64 (a0_0 + a0_1)) then (if 0 ≤ a0_1 then ((shape_format_ones.f a0_0 a0_1).bind fun t308 => (some (a0_0, a0_1, ((Go.bits .and .u64 (shr .u64 a1 (wrap64 (a0_0 + a0_1))) 1) == 1), Go.bits .and .u64 (shr .u64 a1 a0_1) t308, Go.bits .and .u64 a1 (IntKind.u64.wrap ((shl .u64 1 a0_1) - 1))))) else (none)) else (none)) = some (r1, r2, r3, r4, r5) := h
 clear h
 obtain ⟨ji3, hji3⟩ : ∃ j_ : Int, (wrap64 (a0_0 + a0_1)) = j_ := ⟨_, rfl⟩
 replace H : (if 0 ≤ (ji3) then (if 0 ≤ a0_1 then ((shape_format_ones.f a0_0 a0_1).bind fun t308 => (some (a0_0, a0_1, ((Go.bits .and .u64 (shr .u64 a1 (ji3)) 1) == 1), Go.bits .and .u64 (shr .u64 a1 a0_1) t308, Go.bits .and .u64 a1 (IntKind.u64.wrap ((shl .u64 1 a0_1) - 1))))) else (none)) else (none)) = some (r1, r2, r3, r4, r5) := by first | (rw [hji3] at H; exact H) | (simp only [hji3] at H ⊢; exact H)
 have hji3w : (IntKind.i64.wrap (a0_0 + a0_1)) = ji3 := (i64_w _).trans hji3
 by_cases c4 : 0 ≤ (ji3)
 ·rw [if_pos c4] at H
  have c4b0 := eq_true c4
  have c4b1 : decide (0 ≤ (ji3)) = true := decide_eq_true c4
  clear c4
  obtain ⟨ji5, hji5⟩ : ∃ j_ : Int, (shr .u64 a1 (ji3)) = j_ := ⟨_, rfl⟩
  replace H : (if 0 ≤ a0_1 then ((shape_format_ones.f a0_0 a0_1).bind fun t308 => (some (a0_0, a0_1, ((Go.bits .and .u64 (ji5) 1) == 1), Go.bits .and .u64 (shr .u64 a1 a0_1) t308, Go.bits .and .u64 a1 (IntKind.u64.wrap ((shl .u64 1 a0_1) - 1))))) else (none)) = some (r1, r2, r3, r4, r5) := by first | (rw [hji5] at H; exact H) | (simp only [hji5] at H ⊢; exact H)
  have hji5_ : (a1 / 2 ^ min (ji3).toNat 64) = ji5 := hji5
  have hji5z : (ji3) ≤ 64 → (a1 / 2 ^ (ji3).toNat) = ji5 := shr_small hji5
  by_cases c6 : 0 ≤ a0_1
  ·rw [if_pos c6] at H
   have c6b0 := eq_true c6
   have c6b1 : decide (0 ≤ a0_1) = true := decide_eq_true c6
   clear c6
   obtain ⟨ji7, hji7⟩ : ∃ j_ : Int, (shr .u64 a1 a0_1) = j_ := ⟨_, rfl⟩
   replace H : ((shape_format_ones.f a0_0 a0_1).bind fun t308 => (some (a0_0, a0_1, ((Go.bits .and .u64 (ji5) 1) == 1), Go.bits .and .u64 (ji7) t308, Go.bits .and .u64 a1 (IntKind.u64.wrap ((shl .u64 1 a0_1) - 1))))) = some (r1, r2, r3, r4, r5) := by first | (rw [hji7] at H; exact H) | (simp only [hji7] at H ⊢; exact H)
   have hji7_ : (a1 / 2 ^ min a0_1.toNat 64) = ji7 := hji7
   have hji7z : a0_1 ≤ 64 → (a1 / 2 ^ a0_1.toNat) = ji7 := shr_small hji7
   replace H := ob_ H
   obtain ⟨t308, A80, H⟩ := H
   replace H : (some (a0_0, a0_1, ((Go.bits .and .u64 (ji5) 1) == 1), Go.bits .and .u64 (ji7) t308, Go.bits .and .u64 a1 (IntKind.u64.wrap ((shl .u64 1 a0_1) - 1)))) = some (r1, r2, r3, r4, r5) := H
   have A8 := A_ A80;clear A80
   have c9b0 := eq_true (of_decide_eq_true (by first | (with_reducible assumption) | assumption) : 0 ≤ a0_1)
   obtain ⟨ji10, hji10⟩ : ∃ j_ : Int, (shl .u64 1 a0_1) = j_ := ⟨_, rfl⟩
   replace H : (some (a0_0, a0_1, ((Go.bits .and .u64 (ji5) 1) == 1), Go.bits .and .u64 (ji7) t308, Go.bits .and .u64 a1 (IntKind.u64.wrap ((ji10) - 1)))) = some (r1, r2, r3, r4, r5) := by first | (rw [hji10] at H; exact H) | (simp only [hji10] at H ⊢; exact H)
   (try rw [hji10] at A8)
   have hji10_ : (IntKind.u64.wrap (1 * 2 ^ min a0_1.toNat 64)) = ji10 := hji10
   have hji10z : a0_1 ≤ 64 → (IntKind.u64.wrap (1 * 2 ^ a0_1.toNat)) = ji10 := shl_small hji10
   have hji10u : (IntKind.u64.wrap (2 ^ min a0_1.toNat 64)) = ji10 := by have h_ := hji10_; rw [Int.one_mul] at h_; exact h_
   have hji10v : a0_1 ≤ 64 → (IntKind.u64.wrap (2 ^ a0_1.toNat)) = ji10 := fun hle_ => by have h_ := hji10z hle_; rw [Int.one_mul] at h_; exact h_
   simp only [Option.some.injEq, Prod.mk.injEq] at H
   obtain ⟨rfl, rfl, rfl, rfl, rfl⟩ := H
   go_enter Tryd.func87, Tryd.ntmps87
   try go_wp2_with (first | ((with_reducible refine gate_dst (N := 2) rfl ?_); refine be_ 2 #[.int .i64 a0_0, .int .i64 a0_1] 78 ?_; intro gb306 hg w11 hbox hb; have BK306 := A_ (hbox); have GW306 := A_ (sz_ hg (hb_ HB.out)); have GE306 := A_ (sz_ hg (hb_ HB.out)); replace HB := A_ (below_step (hb_ HB.out) hb); clear hb hbox hg) | ((with_reducible refine gate_dst (N := 4) rfl ?_); refine be_ 4 #[.int .i64 0, .int .i64 0, .bool false, .int .u64 0, .int .u64 0] 102 ?_; intro gb307 hg w12 hbox hb; have BK307 := A_ (hbox); have GW307 := A_ (sz_ hg (hb1_ HB.out GE306.out)); have GE307 := A_ (sz_ hg (hb1_ HB.out GE306.out)); have NB306_307 := A_ (nl_ hg BK306.out); have NB307_306 := A_ (ng_ hg BK306.out); replace BK306 := A_ (bb_ BK306.out hb); replace HB := A_ (below_step (hb1_ HB.out GE306.out) hb); clear hb hbox hg))
   replace BK306 := A_ (blk_drew BK306.out)
   replace BK307 := A_ (blk_drew BK307.out)
   replace HB := A_ (below_drew1 HB.out)
   refine start_ (n := 25) (S := fun w' => w'.cell? ⟨gb306, 0, none⟩ = some (.int .i64 a0_0) ∧ w'.cell? ⟨gb306, 1, none⟩ = some (.int .i64 a0_1)) (ds := []) #[false, false, false, false, false, false, false, false, false, false, false, false, false, false, false, false, false, false, false, false, false, false, false, false, false] (by kernel_rfl) rfl rfl ⟨bc_ BK306.out 0, bc_ BK306.out 1⟩ (fun hHeld => ?_); refine with_tabW shape_format_split.tab1 shape_format_split.bits1 (fun HT_ HW_ => ?_)
   generalize w12.drew = w13 at BK306 BK307 HB hHeld ⊢
   refine pu_ 1 (some 6) #[false, true, false, false, false, false, false, false, false, false, false, false, false, false, false, false, false, false, false, false, false, false, false, false, false] rfl rfl (any_of HT_.out (by kernel_rfl)) ?_
   refine pu_ 2 (some 7) #[false, true, true, false, false, false, false, false, false, false, false, false, false, false, false, false, false, false, false, false, false, false, false, false, false] rfl rfl (any_of HT_.out (by kernel_rfl)) ?_
   refine pu_ 4 (some 9) #[false, true, true, false, true, false, false, false, false, false, false, false, false, false, false, false, false, false, false, false, false, false, false, false, false] rfl rfl (any_of HT_.out (by kernel_rfl)) ?_
   refine pu_ 10 (some 15) #[false, true, true, false, true, false, false, false, false, false, true, false, false, false, false, false, false, false, false, false, false, false, false, false, false] rfl rfl (any_of HT_.out (by kernel_rfl)) ?_
   refine pu_ 11 (some 16) #[false, true, true, false, true, false, false, false, false, false, true, true, false, false, false, false, false, false, false, false, false, false, false, false, false] rfl rfl (any_of HT_.out (by kernel_rfl)) ?_
   refine pu_ 17 (some 22) #[false, true, true, false, true, false, false, false, false, false, true, true, false, false, false, false, false, true, false, false, false, false, false, false, false] rfl rfl (any_of HT_.out (by kernel_rfl)) ?_
   refine pu_ 18 (some 23) #[false, true, true, false, true, false, false, false, false, false, true, true, false, false, false, false, false, true, true, false, false, false, false, false, false] rfl rfl (any_of HT_.out (by kernel_rfl)) ?_
   refine tk2_ 0 (some 5) #[true, true, true, false, true, false, false, false, false, false, true, true, false, false, false, false, false, true, true, false, false, false, false, false, false] rfl rfl (take_ofW HT_.out HW_.out (by kernel_rfl)) hHeld ?_
   refine tk2_ 3 (some 8) #[true, true, true, true, true, false, false, false, false, false, true, true, false, false, false, false, false, true, true, false, false, false, false, false, false] rfl rfl (take_ofW HT_.out HW_.out (by kernel_rfl)) hHeld ?_
   refine tk2_ 5 (some 10) #[true, true, true, true, true, true, false, false, false, false, true, true, false, false, false, false, false, true, true, false, false, false, false, false, false] rfl rfl (take_ofW HT_.out HW_.out (by kernel_rfl)) hHeld ?_
   refine pu_ 6 (some 11) #[true, true, true, true, true, true, true, false, false, false, true, true, false, false, false, false, false, true, true, false, false, false, false, false, false] rfl rfl (any_of HT_.out (by kernel_rfl)) ?_
   refine pu_ 7 (some 12) #[true, true, true, true, true, true, true, true, false, false, true, true, false, false, false, false, false, true, true, false, false, false, false, false, false] rfl rfl (any_of HT_.out (by kernel_rfl)) ?_
   refine pu_ 8 (some 13) #[true, true, true, true, true, true, true, true, true, false, true, true, false, false, false, false, false, true, true, false, false, false, false, false, false] rfl rfl (any_of HT_.out (by kernel_rfl)) ?_
   refine pu_ 9 (some 14) #[true, true, true, true, true, true, true, true, true, true, true, true, false, false, false, false, false, true, true, false, false, false, false, false, false] rfl rfl (any_of HT_.out (by kernel_rfl)) ?_
   refine tk2_ 12 (some 17) #[true, true, true, true, true, true, true, true, true, true, true, true, true, false, false, false, false, true, true, false, false, false, false, false, false] rfl rfl (take_ofW HT_.out HW_.out (by kernel_rfl)) hHeld ?_
   refine pu_ 13 (some 18) #[true, true, true, true, true, true, true, true, true, true, true, true, true, true, false, false, false, true, true, false, false, false, false, false, false] rfl rfl (any_of HT_.out (by kernel_rfl)) ?_
   refine tk2_ 14 (some 19) #[true, true, true, true, true, true, true, true, true, true, true, true, true, true, true, false, false, true, true, false, false, false, false, false, false] rfl rfl (take_ofW HT_.out HW_.out (by kernel_rfl)) hHeld ?_
   refine tk2_ 19 (some 24) #[true, true, true, true, true, true, true, true, true, true, true, true, true, true, true, false, false, true, true, true, false, false, false, false, false] rfl rfl (take_ofW HT_.out HW_.out (by kernel_rfl)) hHeld ?_
   refine pu_ 20 (some 25) #[true, true, true, true, true, true, true, true, true, true, true, true, true, true, true, false, false, true, true, true, true, false, false, false, false] rfl rfl (any_of HT_.out (by kernel_rfl)) ?_
   refine pu_ 21 (some 26) #[true, true, true, true, true, true, true, true, true, true, true, true, true, true, true, false, false, true, true, true, true, true, false, false, false] rfl rfl (any_of HT_.out (by kernel_rfl)) ?_
   refine pu_ 22 (some 27) #[true, true, true, true, true, true, true, true, true, true, true, true, true, true, true, false, false, true, true, true, true, true, true, false, false] rfl rfl (any_of HT_.out (by kernel_rfl)) ?_
   refine one_ (i := 15) (N := some 20) #[true, true, true, true, true, true, true, true, true, true, true, true, true, true, true, true, false, true, true, true, true, true, true, false, false] rfl rfl (one_of HT_.out (by kernel_rfl)) (by decide) (fun K hK => ?_)
   refine goes_ Tryd.func65 (by kernel_rfl) rfl #[.agg #[.int .i64 a0_0, .int .i64 a0_1]] (by rfl) rfl rfl mp_ ?_
   with_reducible refine (shape_format_ones.calls a0_0 a0_1 t308 _ A8.out).mono ?_
   rintro e w14 ⟨rfl, hb⟩
   refine ⟨_, rfl, ?_⟩
   replace BK306 := A_ (bb_ BK306.out hb)
   replace BK307 := A_ (bb_ BK307.out hb)
   replace HB := A_ (below_step (hb2_ HB.out GE306.out GE307.out) hb);(try clear hb);(try clear hb2);(try clear hk);(try clear hi)
   refine hK.out _ _ ⟨bc_ BK306.out 0, bc_ BK306.out 1⟩ (fun hHeld => ?_)
   clear hK K
   refine norm_ (a' := ?_) ?_ ?_
   rotate_left
   ·show Act.put _ (some 20) _ = _
    simp only [Act.put, lI_, l0_, lS_, i64_w, i32_w]
    rfl
   refine pu_ 16 (some 21) #[true, true, true, true, true, true, true, true, true, true, true, true, true, true, true, true, true, true, true, true, true, true, true, false, false] rfl rfl (any_of HT_.out (by kernel_rfl)) ?_
   refine pu_ 23 (some 28) #[true, true, true, true, true, true, true, true, true, true, true, true, true, true, true, true, true, true, true, true, true, true, true, true, false] rfl rfl (any_of HT_.out (by kernel_rfl)) ?_
   refine one_ (i := 24) (N := none) #[true, true, true, true, true, true, true, true, true, true, true, true, true, true, true, true, true, true, true, true, true, true, true, true, true] rfl rfl (one_of HT_.out (by kernel_rfl)) (by decide) (fun K hK => ?_)
   have hs15 : w14.cell? ⟨gb307, 0, none⟩ = some (.int .i64 0) := bc_ BK307.out 0
   have hfs15 := blk_frozen BK307.out 0
   have hns15_0 := NB306_307.out
   have hms15_0 := NB307_306.out
   have hs16 : w14.cell? ⟨gb307, 1, none⟩ = some (.int .i64 0) := bc_ BK307.out 1
   have hfs16 := blk_frozen BK307.out 1
   have hns16_0 := NB306_307.out
   have hms16_0 := NB307_306.out
   have hs17 : w14.cell? ⟨gb307, 2, none⟩ = some (.bool false) := bc_ BK307.out 2
   have hfs17 := blk_frozen BK307.out 2
   have hns17_0 := NB306_307.out
   have hms17_0 := NB307_306.out
   have hs18 : w14.cell? ⟨gb307, 3, none⟩ = some (.int .u64 0) := bc_ BK307.out 3
   have hfs18 := blk_frozen BK307.out 3
   have hns18_0 := NB306_307.out
   have hms18_0 := NB307_306.out
   have hs19 : w14.cell? ⟨gb307, 4, none⟩ = some (.int .u64 0) := bc_ BK307.out 4
   have hfs19 := blk_frozen BK307.out 4
   have hns19_0 := NB306_307.out
   have hms19_0 := NB307_306.out
   refine skip_ (w1 := ?_) (by rfl) rfl ?_ ?_
   rotate_left
   ·go_simp
    rfl
   refine hK.out _ _ ⟨((cell_far (p := ⟨gb307, _, none⟩) NB306_307.out _).trans (((cell_far (p := ⟨gb307, _, none⟩) NB306_307.out _).trans (((cell_far (p := ⟨gb307, _, none⟩) NB306_307.out _).trans (((cell_far (p := ⟨gb307, _, none⟩) NB306_307.out _).trans (((cell_far (p := ⟨gb307, _, none⟩) NB306_307.out _).trans (hHeld.1)))))))))), ((cell_far (p := ⟨gb307, _, none⟩) NB306_307.out _).trans (((cell_far (p := ⟨gb307, _, none⟩) NB306_307.out _).trans (((cell_far (p := ⟨gb307, _, none⟩) NB306_307.out _).trans (((cell_far (p := ⟨gb307, _, none⟩) NB306_307.out _).trans (((cell_far (p := ⟨gb307, _, none⟩) NB306_307.out _).trans (hHeld.2))))))))))⟩ (fun hHeld => ?_)
   clear hK K
   refine done_ (done_of HT_.out (by kernel_rfl)) ?_
   try go_wp2
   refine bodyPost_ret (results_cell_row rfl _ _ gb307 102 #[.int .i64 a0_0, .int .i64 a0_1, .bool ((Go.bits .and .u64 (ji5) 1) == 1), .int .u64 (Go.bits .and .u64 (ji7) t308), .int .u64 (Go.bits .and .u64 a1 (IntKind.u64.wrap ((ji10) - 1)))] (0, 0) _ rfl (by (with_reducible repeat (first | refine blk_drewN ?_ _ | refine blk_drew ?_ | refine blk_alloc ?_ _)); refine blk_put (cs := #[.int .i64 a0_0, .int .i64 a0_1, .bool ((Go.bits .and .u64 (ji5) 1) == 1), .int .u64 (Go.bits .and .u64 (ji7) t308), .int .u64 0]) ?_ 4 _ rfl; (with_reducible repeat (first | refine blk_drewN ?_ _ | refine blk_drew ?_ | refine blk_alloc ?_ _)); refine blk_put (cs := #[.int .i64 a0_0, .int .i64 a0_1, .bool ((Go.bits .and .u64 (ji5) 1) == 1), .int .u64 0, .int .u64 0]) ?_ 3 _ rfl; (with_reducible repeat (first | refine blk_drewN ?_ _ | refine blk_drew ?_ | refine blk_alloc ?_ _)); refine blk_put (cs := #[.int .i64 a0_0, .int .i64 a0_1, .bool false, .int .u64 0, .int .u64 0]) ?_ 2 _ rfl; (with_reducible repeat (first | refine blk_drewN ?_ _ | refine blk_drew ?_ | refine blk_alloc ?_ _)); refine blk_put (cs := #[.int .i64 a0_0, .int .i64 0, .bool false, .int .u64 0, .int .u64 0]) ?_ 1 _ rfl; (with_reducible repeat (first | refine blk_drewN ?_ _ | refine blk_drew ?_ | refine blk_alloc ?_ _)); refine blk_put (cs := #[.int .i64 0, .int .i64 0, .bool false, .int .u64 0, .int .u64 0]) ?_ 0 _ rfl; (with_reducible repeat (first | refine blk_drewN ?_ _ | refine blk_drew ?_ | refine blk_alloc ?_ _)); exact BK307.out) Tryd.underlying102 rfl (by kernel_rfl)) rfl ?_
   exact ⟨by first | rfl | (simp [errW_none, errW_some] <;> rfl) | (simp only [← hji3, ← hji5, ← hji7, ← hji10]; first | rfl | (simp [errW_none, errW_some] <;> rfl)) | (simp [*, errW_none, errW_some] <;> rfl), hb2_ HB.out GE306.out GE307.out⟩
  ·rw [if_neg c6] at H
   exact absurd H (by simp)
 ·rw [if_neg c4] at H
  exact absurd H (by simp)
mutual
def shape_Open.j0 : Nat → Bool → Int → Int → Bool → Int → Int → Option (Bool × Int × Int × Int)
 | 0, _, _, _, _, _, _ => none
 | k + 1, x19, x320000, x320001, x320002, x320003, x320004 => if x19 = true then (some (false, 3, 0, 0)) else ((shape_format_ones.f x320000 x320001).bind fun t321 => (if x320003 = t321 then (some (x320002, 2, 0, 0)) else (if x320003 = 0 then (shape_Open.j1 k (x320004 == 0) x320000 x320001 x320002 x320003 x320004) else (shape_Open.j1 k false x320000 x320001 x320002 x320003 x320004))))
def shape_Open.j1 : Nat → Bool → Int → Int → Bool → Int → Int → Option (Bool × Int × Int × Int)
 | 0, _, _, _, _, _, _ => none
 | k + 1, x42, x320000, x320001, x320002, x320003, x320004 => if x42 = true then (some (x320002, 0, 0, 0)) else (if x320003 = 0 then ((shape_format_low.f x320000 x320001).bind fun t322 => (some (x320002, 1, t322, x320004))) else ((shape_format_low.f x320000 x320001).bind fun t323 => (if 0 ≤ x320001 then (some (x320002, 1, wrap64 ((wrap64 (t323 + (wrap64 (x320003)))) - 1), Go.bits .or .u64 (shl .u64 1 x320001) x320004)) else (none))))
end
def shape_Open.f (k : Nat) (a0 : Int) (a1 : Int) : Option (Bool × Int × Int × Int) := (shape_of.f a0).bind fun bt310 => (if bt310.2.2 = true then ((shape_format_split.f bt310.1 bt310.2.1 a1).bind fun bt314 => ((shape_format_ones.f bt314.1 bt314.2.1).bind fun t320 => (if bt314.2.2.2.1 = t320 then (shape_Open.j0 k (bt314.2.2.2.2 != 0) bt314.1 bt314.2.1 bt314.2.2.1 bt314.2.2.2.1 bt314.2.2.2.2) else (shape_Open.j0 k false bt314.1 bt314.2.1 bt314.2.2.1 bt314.2.2.2.1 bt314.2.2.2.2)))) else (some (false, 0, 0, 0)))
theorem shape_Open.mono_l : ∀ k, (∀ y0 y1 y2 y3 y4 y5, LeO (shape_Open.j0 k y0 y1 y2 y3 y4 y5) (shape_Open.j0 (k + 1) y0 y1 y2 y3 y4 y5)) ∧ (∀ y0 y1 y2 y3 y4 y5, LeO (shape_Open.j1 k y0 y1 y2 y3 y4 y5) (shape_Open.j1 (k + 1) y0 y1 y2 y3 y4 y5))
 | 0 => ⟨fun _ _ _ _ _ _ r h => by simp [shape_Open.j0] at h, fun _ _ _ _ _ _ r h => by simp [shape_Open.j1] at h⟩
 | k + 1 => by
  obtain ⟨ih0, ih1⟩ := shape_Open.mono_l k
  refine ⟨?_, ?_⟩
  ·intro y0 y1 y2 y3 y4 y5
   unfold shape_Open.j0
   repeat' first
   | (with_reducible exact ih0 _ _ _ _ _ _)
   | (with_reducible exact ih1 _ _ _ _ _ _)
   | (with_reducible exact LeO.refl _)
   | (with_reducible exact LeO.none _)
   | (with_reducible refine LeO.ite ?_ ?_)
   | (with_reducible refine LeO.bind ?_ (fun _ => ?_))
   | exact ih0 _ _ _ _ _ _
   | exact ih1 _ _ _ _ _ _
   | exact LeO.none _
   | refine LeO.ite ?_ ?_
   | refine LeO.bind ?_ (fun _ => ?_)
  ·intro y0 y1 y2 y3 y4 y5
   unfold shape_Open.j1
   repeat' first
   | (with_reducible exact ih0 _ _ _ _ _ _)
   | (with_reducible exact ih1 _ _ _ _ _ _)
   | (with_reducible exact LeO.refl _)
   | (with_reducible exact LeO.none _)
   | (with_reducible refine LeO.ite ?_ ?_)
   | (with_reducible refine LeO.bind ?_ (fun _ => ?_))
   | exact ih0 _ _ _ _ _ _
   | exact ih1 _ _ _ _ _ _
   | exact LeO.none _
   | refine LeO.ite ?_ ?_
   | refine LeO.bind ?_ (fun _ => ?_)
theorem shape_Open.mono : ∀ a0 a1 k, LeO (shape_Open.f k a0 a1) (shape_Open.f (k + 1) a0 a1) := by
 intro a0 a1 k
 obtain ⟨ih0, ih1⟩ := shape_Open.mono_l k
 unfold shape_Open.f
 repeat' first
   | (with_reducible exact ih0 _ _ _ _ _ _)
   | (with_reducible exact ih1 _ _ _ _ _ _)
   | (with_reducible exact LeO.refl _)
   | (with_reducible exact LeO.none _)
   | (with_reducible refine LeO.ite ?_ ?_)
   | (with_reducible refine LeO.bind ?_ (fun _ => ?_))
   | exact ih0 _ _ _ _ _ _
   | exact ih1 _ _ _ _ _ _
   | exact LeO.none _
   | refine LeO.ite ?_ ?_
   | refine LeO.bind ?_ (fun _ => ?_)
def shape_Open.T5 : Bool × List (List Nat × List Nat) := (true, [([], []), ([0], [0]), ([], []), ([2], [2]), ([3], [3]), ([1, 4], [1, 4]), ([5, 4], [5]), ([6], [6]), ([7, 6], [6, 7]), ([8, 6], [6, 8]), ([6, 9], [6, 9]), ([10, 6], [10])])
def shape_Open.B5 : List Nat := [0, 1, 0, 4, 12, 31, 63, 127, 255, 511, 1023, 2047]
theorem shape_Open.tab5 : rtab .any (opsOf Tryd.f62 5) = shape_Open.T5 := by kernel_rfl
theorem shape_Open.bits5 : waitsOk shape_Open.T5.2 shape_Open.B5 = true := by kernel_rfl
def shape_Open.T12 : Bool × List (List Nat × List Nat) := (true, [([], []), ([0], [0]), ([], []), ([2], [2]), ([3], [3]), ([], []), ([5], [5]), ([1, 4, 6], [1, 4, 6]), ([7, 4, 0, 1, 2, 3, 4, 5, 6, 7], [7])])
def shape_Open.B12 : List Nat := [0, 1, 0, 4, 12, 0, 32, 127, 255]
theorem shape_Open.tab12 : rtab .any (opsOf Tryd.f62 12) = shape_Open.T12 := by kernel_rfl
theorem shape_Open.bits12 : waitsOk shape_Open.T12.2 shape_Open.B12 = true := by kernel_rfl
def shape_Open.T13 : Bool × List (List Nat × List Nat) := (true, [([], []), ([0], [0]), ([], []), ([2], [2]), ([3], [3]), ([], []), ([5], [5]), ([6], [6]), ([4, 7], [4, 7]), ([8], [8]), ([], []), ([10], [10]), ([11], [11]), ([12], [12]), ([], []), ([14], [14]), ([13, 15], [13, 15]), ([1, 9, 16], [1, 9, 16]), ([17, 4, 0, 1, 2, 3, 4, 5, 6, 7, 8, 9, 10, 11, 12, 13, 14, 15, 16, 17], [17])])
def shape_Open.B13 : List Nat := [0, 1, 0, 4, 12, 0, 32, 96, 252, 508, 0, 1024, 3072, 7168, 0, 16384, 64512, 131071, 262143]
theorem shape_Open.tab13 : rtab .any (opsOf Tryd.f62 13) = shape_Open.T13 := by kernel_rfl
theorem shape_Open.bits13 : waitsOk shape_Open.T13.2 shape_Open.B13 = true := by kernel_rfl
theorem shape_Open.calls (k : Nat) (a0 : Int) (a1 : Int) (r1 : Bool) (r2 : Int) (r3 : Int) (r4 : Int) (w : World) (h : shape_Open.f k a0 a1 = some (r1, r2, r3, r4)) :
  Calls Tryd.prog 62 #[.int .i64 a0, .int .u64 a1] w fun e w' => e = .returned (.agg #[.bool r1, .int .i64 r2, .int .i64 r3, .int .u64 r4]) ∧ Below w.heap.size w w' := by
 have hu75 := Tryd.underlying75
 have hu78 := Tryd.underlying78
 have hu102 := Tryd.underlying102
 have HB := A_ (Below.refl w.heap.size w)
 have H : ((shape_of.f a0).bind fun bt310 => (if bt310.2.2 = true then ((shape_format_split.f bt310.1 bt310.2.1 a1).bind fun bt314 => ((shape_format_ones.f bt314.1 bt314.2.1).bind fun t320 => (if bt314.2.2.2.1 = t320 then (shape_Open.j0 k (bt314.2.2.2.2 != 0) bt314.1 bt314.2.1 bt314.2.2.1 bt314.2.2.2.1 bt314.2.2.2.2) else (shape_Open.j0 k false bt314.1 bt314.2.1 bt314.2.2.1 bt314.2.2.2.1 bt314.2.2.2.2)))) else (some (false, 0, 0, 0)))) = some (r1, r2, r3, r4) := h
 clear h
 replace H := ob_ H
 obtain ⟨⟨t310, t311, t312⟩, A30, H⟩ := H
 replace H : (if t312 = true then ((shape_format_split.f t310 t311 a1).bind fun bt314 => ((shape_format_ones.f bt314.1 bt314.2.1).bind fun t320 => (if bt314.2.2.2.1 = t320 then (shape_Open.j0 k (bt314.2.2.2.2 != 0) bt314.1 bt314.2.1 bt314.2.2.1 bt314.2.2.2.1 bt314.2.2.2.2) else (shape_Open.j0 k false bt314.1 bt314.2.1 bt314.2.2.1 bt314.2.2.2.1 bt314.2.2.2.2)))) else (some (false, 0, 0, 0))) = some (r1, r2, r3, r4) := H
 have A3 := A_ A30;clear A30
 by_cases c4 : t312 = true
 ·subst c4
  have H1 : ((shape_format_split.f t310 t311 a1).bind fun bt314 => ((shape_format_ones.f bt314.1 bt314.2.1).bind fun t320 => (if bt314.2.2.2.1 = t320 then (shape_Open.j0 k (bt314.2.2.2.2 != 0) bt314.1 bt314.2.1 bt314.2.2.1 bt314.2.2.2.1 bt314.2.2.2.2) else (shape_Open.j0 k false bt314.1 bt314.2.1 bt314.2.2.1 bt314.2.2.2.1 bt314.2.2.2.2)))) = some (r1, r2, r3, r4) := by rw [if_pos rfl] at H; exact H
  clear H;have H := H1;clear H1
  replace H := ob_ H
  obtain ⟨⟨t314, t315, t316, t317, t318⟩, A50, H⟩ := H
  replace H : ((shape_format_ones.f t314 t315).bind fun t320 => (if t317 = t320 then (shape_Open.j0 k (t318 != 0) t314 t315 t316 t317 t318) else (shape_Open.j0 k false t314 t315 t316 t317 t318))) = some (r1, r2, r3, r4) := H
  have A5 := A_ A50;clear A50;have HC6 := A_ H;clear H
  go_enter Tryd.func62, Tryd.ntmps62
  go_upto_region 5 with (first | ((with_reducible refine gate_dst (N := 4) rfl ?_); refine be_ 4 #[.bool false, .int .i64 0, .int .i64 0, .int .u64 0] 75 ?_; intro gb309 hg w7 hbox hb; have BK309 := A_ (hbox); have GW309 := A_ (sz_ hg (hb_ HB.out)); have GE309 := A_ (sz_ hg (hb_ HB.out)); replace HB := A_ (below_step (hb_ HB.out) hb); clear hb hbox hg) | ((with_reducible refine gate_callee (f := 63) rfl ?_); refine goesL_ (some 10) rfl rfl Tryd.func63 (by kernel_rfl) rfl #[.int .i64 a0] rfl mp_ ?_; (with_reducible refine (shape_of.calls a0 t310 t311 true _ A3.out).mono ?_); rintro e w8 ⟨rfl, hb⟩; refine ⟨_, rfl, ?_⟩; replace BK309 := A_ (bb_ BK309.out hb); replace HB := A_ (below_step (hb1_ HB.out GE309.out) hb); (try clear hb); (try clear hb2); (try clear hk); (try clear hi)) | ((with_reducible refine gate_dst (N := 5) rfl ?_); refine be_ 5 #[.int .i64 0, .int .i64 0] 78 ?_; intro gb313 hg w9 hbox hb; have BK313 := A_ (hbox); have GW313 := A_ (sz_ hg (hb1_ HB.out GE309.out)); have GE313 := A_ (sz_ hg (hb1_ HB.out GE309.out)); have NB309_313 := A_ (nl_ hg BK309.out); have NB313_309 := A_ (ng_ hg BK309.out); replace BK309 := A_ (bb_ BK309.out hb); replace HB := A_ (below_step (hb1_ HB.out GE309.out) hb); clear hb hbox hg; have hnb10 := NB313_309.out; have hnc10 := NB309_313.out; have hcz11_0 := bv_ BK313.out 0; have hcz11_1 := bv_ BK313.out 1; have hfz11_0 := blk_frozen BK313.out 0; have hfz11_1 := blk_frozen BK313.out 1) | ((with_reducible refine gate_callee (f := 87) rfl ?_); refine goesL_ (some 18) rfl rfl Tryd.func87 (by kernel_rfl) rfl #[.agg #[.int .i64 t310, .int .i64 t311], .int .u64 a1] rfl mp_ ?_; (with_reducible refine (shape_format_split.calls t310 t311 a1 t314 t315 t316 t317 t318 _ A5.out).mono ?_); rintro e w12 ⟨rfl, hb⟩; refine ⟨_, rfl, ?_⟩; replace BK309 := A_ (blk_below (g := gb309) (o := .cells #[.bool false, .int .i64 0, .int .i64 0, .int .u64 0] 75 (0, 0)) (bf2_ BK309.out NB309_313.out NB309_313.out) hb); replace BK313 := A_ (blk_below (g := gb313) (o := .cells #[.int .i64 t310, .int .i64 t311] 78 (0, 0)) (by (with_reducible repeat (first | refine blk_drewN ?_ _ | refine blk_drew ?_ | refine blk_alloc ?_ _)); refine blk_put (cs := #[.int .i64 t310, .int .i64 0]) ?_ 1 _ rfl; (with_reducible repeat (first | refine blk_drewN ?_ _ | refine blk_drew ?_ | refine blk_alloc ?_ _)); refine blk_put (cs := #[.int .i64 0, .int .i64 0]) ?_ 0 _ rfl; (with_reducible repeat (first | refine blk_drewN ?_ _ | refine blk_drew ?_ | refine blk_alloc ?_ _)); exact BK313.out) hb); replace HB := A_ (below_step (hb2_ HB.out GE309.out GE313.out) hb); (try clear hb); (try clear hb2); (try clear hk); (try clear hi)) | ((with_reducible refine gate_dst (N := 7) rfl ?_); refine be_ 7 #[.int .i64 0, .int .i64 0, .bool false, .int .u64 0, .int .u64 0] 102 ?_; intro gb319 hg w13 hbox hb; have BK319 := A_ (hbox); have GW319 := A_ (sz_ hg (hb2_ HB.out GE309.out GE313.out)); have GE319 := A_ (sz_ hg (hb2_ HB.out GE309.out GE313.out)); have NB309_319 := A_ (nl_ hg BK309.out); have NB319_309 := A_ (ng_ hg BK309.out); have NB313_319 := A_ (nl_ hg BK313.out); have NB319_313 := A_ (ng_ hg BK313.out); replace BK309 := A_ (bb_ BK309.out hb); replace BK313 := A_ (bb_ BK313.out hb); replace HB := A_ (below_step (hb2_ HB.out GE309.out GE313.out) hb); clear hb hbox hg; have hnb14 := NB319_309.out; have hnc14 := NB309_319.out; have hnb15 := NB319_313.out; have hnc15 := NB313_319.out; have hcz16_0 := bv_ BK319.out 0; have hcz16_1 := bv_ BK319.out 1; have hcz16_2 := bv_ BK319.out 2; have hcz16_3 := bv_ BK319.out 3; have hcz16_4 := bv_ BK319.out 4; have hfz16_0 := blk_frozen BK319.out 0; have hfz16_1 := blk_frozen BK319.out 1; have hfz16_2 := blk_frozen BK319.out 2; have hfz16_3 := blk_frozen BK319.out 3; have hfz16_4 := blk_frozen BK319.out 4))
  (try simp only [Act.put, lI_, l0_, lS_])
  go_cut [19] (fun v19 wc => ∃ (kq : Nat) (x19_5 : Bool), v19 = .bool x19_5 ∧ Aside0 (shape_Open.j0 kq x19_5 t314 t315 t316 t317 t318 = some (r1, r2, r3, r4)) ∧ Aside0 (kq ≤ k) ∧ Aside0 (wc.heap[gb309]? = some (.cells #[.bool false, .int .i64 0, .int .i64 0, .int .u64 0] 75 (0, 0))) ∧ Aside0 (wc.heap[gb313]? = some (.cells #[.int .i64 t310, .int .i64 t311] 78 (0, 0))) ∧ Aside0 (wc.heap[gb319]? = some (.cells #[.int .i64 t314, .int .i64 t315, .bool t316, .int .u64 t317, .int .u64 t318] 102 (0, 0))) ∧ Aside0 (Below w.heap.size w wc))
  case first =>
   have H := HC6.out
   clear HC6
   replace H := ob_ H
   obtain ⟨t320, A170, H⟩ := H
   replace H : (if t317 = t320 then (shape_Open.j0 k (t318 != 0) t314 t315 t316 t317 t318) else (shape_Open.j0 k false t314 t315 t316 t317 t318)) = some (r1, r2, r3, r4) := H
   have A17 := A_ A170;clear A170
   by_cases c18 : t317 = t320
   ·rw [if_pos c18] at H
    have c18b0 : (t317 == t320) = true := beq_iff_eq.mpr c18
    have c18b1 : (t317 != t320) = false := bne_eq_false_iff_eq.mpr c18
    clear c18
    (first | rw [c18b0] | (simp only [i64_w, i32_w]; rw [c18b0]) | skip)
    have H' := A_ H
    clear H
    try go_wp2
    have n0_ : Aside0 ((((((w13.setCell ⟨gb319, 0, none⟩ (.int .i64 t314)).setCell ⟨gb319, 1, none⟩ (.int .i64 t315)).setCell ⟨gb319, 2, none⟩ (.bool t316)).setCell ⟨gb319, 3, none⟩ (.int .u64 t317)).setCell ⟨gb319, 4, none⟩ (.int .u64 t318)).heap[gb309]? = some (.cells #[.bool false, .int .i64 0, .int .i64 0, .int .u64 0] 75 (0, 0))) := ⟨bf5_ BK309.out NB309_319.out NB309_319.out NB309_319.out NB309_319.out NB309_319.out⟩
    have n1_ : Aside0 ((((((w13.setCell ⟨gb319, 0, none⟩ (.int .i64 t314)).setCell ⟨gb319, 1, none⟩ (.int .i64 t315)).setCell ⟨gb319, 2, none⟩ (.bool t316)).setCell ⟨gb319, 3, none⟩ (.int .u64 t317)).setCell ⟨gb319, 4, none⟩ (.int .u64 t318)).heap[gb313]? = some (.cells #[.int .i64 t310, .int .i64 t311] 78 (0, 0))) := ⟨bf5_ BK313.out NB313_319.out NB313_319.out NB313_319.out NB313_319.out NB313_319.out⟩
    have n2_ : Aside0 ((((((w13.setCell ⟨gb319, 0, none⟩ (.int .i64 t314)).setCell ⟨gb319, 1, none⟩ (.int .i64 t315)).setCell ⟨gb319, 2, none⟩ (.bool t316)).setCell ⟨gb319, 3, none⟩ (.int .u64 t317)).setCell ⟨gb319, 4, none⟩ (.int .u64 t318)).heap[gb319]? = some (.cells #[.int .i64 t314, .int .i64 t315, .bool t316, .int .u64 t317, .int .u64 t318] 102 (0, 0))) := ⟨by (with_reducible repeat (first | refine blk_drewN ?_ _ | refine blk_drew ?_ | refine blk_alloc ?_ _)); refine blk_put (cs := #[.int .i64 t314, .int .i64 t315, .bool t316, .int .u64 t317, .int .u64 0]) ?_ 4 _ rfl; (with_reducible repeat (first | refine blk_drewN ?_ _ | refine blk_drew ?_ | refine blk_alloc ?_ _)); refine blk_put (cs := #[.int .i64 t314, .int .i64 t315, .bool t316, .int .u64 0, .int .u64 0]) ?_ 3 _ rfl; (with_reducible repeat (first | refine blk_drewN ?_ _ | refine blk_drew ?_ | refine blk_alloc ?_ _)); refine blk_put (cs := #[.int .i64 t314, .int .i64 t315, .bool false, .int .u64 0, .int .u64 0]) ?_ 2 _ rfl; (with_reducible repeat (first | refine blk_drewN ?_ _ | refine blk_drew ?_ | refine blk_alloc ?_ _)); refine blk_put (cs := #[.int .i64 t314, .int .i64 0, .bool false, .int .u64 0, .int .u64 0]) ?_ 1 _ rfl; (with_reducible repeat (first | refine blk_drewN ?_ _ | refine blk_drew ?_ | refine blk_alloc ?_ _)); refine blk_put (cs := #[.int .i64 0, .int .i64 0, .bool false, .int .u64 0, .int .u64 0]) ?_ 0 _ rfl; (with_reducible repeat (first | refine blk_drewN ?_ _ | refine blk_drew ?_ | refine blk_alloc ?_ _)); exact BK319.out⟩
    have n3_ : Aside0 (Below w.heap.size w (((((w13.setCell ⟨gb319, 0, none⟩ (.int .i64 t314)).setCell ⟨gb319, 1, none⟩ (.int .i64 t315)).setCell ⟨gb319, 2, none⟩ (.bool t316)).setCell ⟨gb319, 3, none⟩ (.int .u64 t317)).setCell ⟨gb319, 4, none⟩ (.int .u64 t318))) := ⟨hb3_ HB.out GE309.out GE313.out GE319.out⟩
    (try clear BK309);(try clear BK313);(try clear BK319);(try clear HB)
    generalize (((((w13.setCell ⟨gb319, 0, none⟩ (.int .i64 t314)).setCell ⟨gb319, 1, none⟩ (.int .i64 t315)).setCell ⟨gb319, 2, none⟩ (.bool t316)).setCell ⟨gb319, 3, none⟩ (.int .u64 t317)).setCell ⟨gb319, 4, none⟩ (.int .u64 t318)) = w19 at n0_ n1_ n2_ n3_ ⊢
    have BK309 := n0_;have BK313 := n1_;have BK319 := n2_;have HB := n3_;clear n0_ n1_ n2_ n3_
    replace BK309 := A_ (blk_drew BK309.out)
    replace BK313 := A_ (blk_drew BK313.out)
    replace BK319 := A_ (blk_drew BK319.out)
    replace HB := A_ (below_drew1 HB.out)
    refine start_ (n := 12) (S := fun w' => w'.cell? ⟨gb319, 0, none⟩ = some (.int .i64 t314) ∧ w'.cell? ⟨gb319, 1, none⟩ = some (.int .i64 t315) ∧ w'.cell? ⟨gb319, 2, none⟩ = some (.bool t316) ∧ w'.cell? ⟨gb319, 3, none⟩ = some (.int .u64 t317) ∧ w'.cell? ⟨gb319, 4, none⟩ = some (.int .u64 t318)) (ds := []) #[false, false, false, false, false, false, false, false, false, false, false, false] (by kernel_rfl) rfl rfl ⟨bc_ BK319.out 0, bc_ BK319.out 1, bc_ BK319.out 2, bc_ BK319.out 3, bc_ BK319.out 4⟩ (fun hHeld => ?_); refine with_tabW shape_Open.tab5 shape_Open.bits5 (fun HT_ HW_ => ?_)
    generalize w19.drew = w20 at BK309 BK313 BK319 HB hHeld ⊢
    refine pu_ 0 (some 20) #[true, false, false, false, false, false, false, false, false, false, false, false] rfl rfl (any_of HT_.out (by kernel_rfl)) ?_
    refine pu_ 2 (some 22) #[true, false, true, false, false, false, false, false, false, false, false, false] rfl rfl (any_of HT_.out (by kernel_rfl)) ?_
    refine tk5_ 1 (some 21) #[true, true, true, false, false, false, false, false, false, false, false, false] rfl rfl (take_ofW HT_.out HW_.out (by kernel_rfl)) hHeld ?_
    refine tk5_ 3 (some 23) #[true, true, true, true, false, false, false, false, false, false, false, false] rfl rfl (take_ofW HT_.out HW_.out (by kernel_rfl)) hHeld ?_
    refine one_ (i := 4) (N := some 24) #[true, true, true, true, true, false, false, false, false, false, false, false] rfl rfl (one_of HT_.out (by kernel_rfl)) (by decide) (fun K hK => ?_)
    refine goes_ Tryd.func65 (by kernel_rfl) rfl #[.agg #[.int .i64 t314, .int .i64 t315]] (by rfl) rfl rfl mp_ ?_
    with_reducible refine (shape_format_ones.calls t314 t315 t320 _ A17.out).mono ?_
    rintro e w21 ⟨rfl, hb⟩
    refine ⟨_, rfl, ?_⟩
    replace BK309 := A_ (bb_ BK309.out hb)
    replace BK313 := A_ (bb_ BK313.out hb)
    replace BK319 := A_ (bb_ BK319.out hb)
    replace HB := A_ (below_step (hb3_ HB.out GE309.out GE313.out GE319.out) hb);(try clear hb);(try clear hb2);(try clear hk);(try clear hi)
    refine hK.out _ _ ⟨bc_ BK319.out 0, bc_ BK319.out 1, bc_ BK319.out 2, bc_ BK319.out 3, bc_ BK319.out 4⟩ (fun hHeld => ?_)
    clear hK K
    refine norm_ (a' := ?_) ?_ ?_
    rotate_left
    ·show Act.put _ (some 24) _ = _
     simp only [Act.put, lI_, l0_, lS_, i64_w, i32_w]
     rfl
    refine pu_ 5 (some 25) #[true, true, true, true, true, true, false, false, false, false, false, false] rfl rfl (any_of HT_.out (by kernel_rfl)) ?_
    refine pu_ 6 (some 26) #[true, true, true, true, true, true, true, false, false, false, false, false] rfl rfl (any_of HT_.out (by kernel_rfl)) ?_
    refine pu_ 7 (some 27) #[true, true, true, true, true, true, true, true, false, false, false, false] rfl rfl (any_of HT_.out (by kernel_rfl)) ?_
    refine tk5_ 8 (some 28) #[true, true, true, true, true, true, true, true, true, false, false, false] rfl rfl (take_ofW HT_.out HW_.out (by kernel_rfl)) hHeld ?_
    refine pu_ 9 (some 29) #[true, true, true, true, true, true, true, true, true, true, false, false] rfl rfl (any_of HT_.out (by kernel_rfl)) ?_
    refine pu_ 10 (some 30) #[true, true, true, true, true, true, true, true, true, true, true, false] rfl rfl (any_of HT_.out (by kernel_rfl)) ?_
    refine pu_ 11 (some 19) #[true, true, true, true, true, true, true, true, true, true, true, true] rfl rfl (any_of HT_.out (by kernel_rfl)) ?_
    refine done_ (done_of HT_.out (by kernel_rfl)) ?_
    try go_wp2
    go_meet
    case rel => exact ⟨_, ((t318 != 0)), sm_, H', ⟨by first | omega | exact Nat.le_refl _⟩, ⟨bk_ BK309.out⟩, ⟨bk_ BK313.out⟩, ⟨bk_ BK319.out⟩, ⟨hb3_ HB.out GE309.out GE313.out GE319.out⟩⟩
   ·rw [if_neg c18] at H
    have c18b0 : (t317 == t320) = false := beq_eq_false_iff_ne.mpr c18
    have c18b1 : (t317 != t320) = true := bne_iff_ne.mpr c18
    (first | rw [c18b0] | (simp only [i64_w, i32_w]; rw [c18b0]) | skip)
    have H' := A_ H
    clear H
    try go_wp2
    have n0_ : Aside0 ((((((w13.setCell ⟨gb319, 0, none⟩ (.int .i64 t314)).setCell ⟨gb319, 1, none⟩ (.int .i64 t315)).setCell ⟨gb319, 2, none⟩ (.bool t316)).setCell ⟨gb319, 3, none⟩ (.int .u64 t317)).setCell ⟨gb319, 4, none⟩ (.int .u64 t318)).heap[gb309]? = some (.cells #[.bool false, .int .i64 0, .int .i64 0, .int .u64 0] 75 (0, 0))) := ⟨bf5_ BK309.out NB309_319.out NB309_319.out NB309_319.out NB309_319.out NB309_319.out⟩
    have n1_ : Aside0 ((((((w13.setCell ⟨gb319, 0, none⟩ (.int .i64 t314)).setCell ⟨gb319, 1, none⟩ (.int .i64 t315)).setCell ⟨gb319, 2, none⟩ (.bool t316)).setCell ⟨gb319, 3, none⟩ (.int .u64 t317)).setCell ⟨gb319, 4, none⟩ (.int .u64 t318)).heap[gb313]? = some (.cells #[.int .i64 t310, .int .i64 t311] 78 (0, 0))) := ⟨bf5_ BK313.out NB313_319.out NB313_319.out NB313_319.out NB313_319.out NB313_319.out⟩
    have n2_ : Aside0 ((((((w13.setCell ⟨gb319, 0, none⟩ (.int .i64 t314)).setCell ⟨gb319, 1, none⟩ (.int .i64 t315)).setCell ⟨gb319, 2, none⟩ (.bool t316)).setCell ⟨gb319, 3, none⟩ (.int .u64 t317)).setCell ⟨gb319, 4, none⟩ (.int .u64 t318)).heap[gb319]? = some (.cells #[.int .i64 t314, .int .i64 t315, .bool t316, .int .u64 t317, .int .u64 t318] 102 (0, 0))) := ⟨by (with_reducible repeat (first | refine blk_drewN ?_ _ | refine blk_drew ?_ | refine blk_alloc ?_ _)); refine blk_put (cs := #[.int .i64 t314, .int .i64 t315, .bool t316, .int .u64 t317, .int .u64 0]) ?_ 4 _ rfl; (with_reducible repeat (first | refine blk_drewN ?_ _ | refine blk_drew ?_ | refine blk_alloc ?_ _)); refine blk_put (cs := #[.int .i64 t314, .int .i64 t315, .bool t316, .int .u64 0, .int .u64 0]) ?_ 3 _ rfl; (with_reducible repeat (first | refine blk_drewN ?_ _ | refine blk_drew ?_ | refine blk_alloc ?_ _)); refine blk_put (cs := #[.int .i64 t314, .int .i64 t315, .bool false, .int .u64 0, .int .u64 0]) ?_ 2 _ rfl; (with_reducible repeat (first | refine blk_drewN ?_ _ | refine blk_drew ?_ | refine blk_alloc ?_ _)); refine blk_put (cs := #[.int .i64 t314, .int .i64 0, .bool false, .int .u64 0, .int .u64 0]) ?_ 1 _ rfl; (with_reducible repeat (first | refine blk_drewN ?_ _ | refine blk_drew ?_ | refine blk_alloc ?_ _)); refine blk_put (cs := #[.int .i64 0, .int .i64 0, .bool false, .int .u64 0, .int .u64 0]) ?_ 0 _ rfl; (with_reducible repeat (first | refine blk_drewN ?_ _ | refine blk_drew ?_ | refine blk_alloc ?_ _)); exact BK319.out⟩
    have n3_ : Aside0 (Below w.heap.size w (((((w13.setCell ⟨gb319, 0, none⟩ (.int .i64 t314)).setCell ⟨gb319, 1, none⟩ (.int .i64 t315)).setCell ⟨gb319, 2, none⟩ (.bool t316)).setCell ⟨gb319, 3, none⟩ (.int .u64 t317)).setCell ⟨gb319, 4, none⟩ (.int .u64 t318))) := ⟨hb3_ HB.out GE309.out GE313.out GE319.out⟩
    (try clear BK309);(try clear BK313);(try clear BK319);(try clear HB)
    generalize (((((w13.setCell ⟨gb319, 0, none⟩ (.int .i64 t314)).setCell ⟨gb319, 1, none⟩ (.int .i64 t315)).setCell ⟨gb319, 2, none⟩ (.bool t316)).setCell ⟨gb319, 3, none⟩ (.int .u64 t317)).setCell ⟨gb319, 4, none⟩ (.int .u64 t318)) = w22 at n0_ n1_ n2_ n3_ ⊢
    have BK309 := n0_;have BK313 := n1_;have BK319 := n2_;have HB := n3_;clear n0_ n1_ n2_ n3_
    replace BK309 := A_ (blk_drew BK309.out)
    replace BK313 := A_ (blk_drew BK313.out)
    replace BK319 := A_ (blk_drew BK319.out)
    replace HB := A_ (below_drew1 HB.out)
    refine start_ (n := 12) (S := fun w' => w'.cell? ⟨gb319, 0, none⟩ = some (.int .i64 t314) ∧ w'.cell? ⟨gb319, 1, none⟩ = some (.int .i64 t315) ∧ w'.cell? ⟨gb319, 2, none⟩ = some (.bool t316) ∧ w'.cell? ⟨gb319, 3, none⟩ = some (.int .u64 t317) ∧ w'.cell? ⟨gb319, 4, none⟩ = some (.int .u64 t318)) (ds := []) #[false, false, false, false, false, false, false, false, false, false, false, false] (by kernel_rfl) rfl rfl ⟨bc_ BK319.out 0, bc_ BK319.out 1, bc_ BK319.out 2, bc_ BK319.out 3, bc_ BK319.out 4⟩ (fun hHeld => ?_); refine with_tabW shape_Open.tab5 shape_Open.bits5 (fun HT_ HW_ => ?_)
    generalize w22.drew = w23 at BK309 BK313 BK319 HB hHeld ⊢
    refine pu_ 0 (some 20) #[true, false, false, false, false, false, false, false, false, false, false, false] rfl rfl (any_of HT_.out (by kernel_rfl)) ?_
    refine pu_ 2 (some 22) #[true, false, true, false, false, false, false, false, false, false, false, false] rfl rfl (any_of HT_.out (by kernel_rfl)) ?_
    refine tk5_ 1 (some 21) #[true, true, true, false, false, false, false, false, false, false, false, false] rfl rfl (take_ofW HT_.out HW_.out (by kernel_rfl)) hHeld ?_
    refine tk5_ 3 (some 23) #[true, true, true, true, false, false, false, false, false, false, false, false] rfl rfl (take_ofW HT_.out HW_.out (by kernel_rfl)) hHeld ?_
    refine one_ (i := 4) (N := some 24) #[true, true, true, true, true, false, false, false, false, false, false, false] rfl rfl (one_of HT_.out (by kernel_rfl)) (by decide) (fun K hK => ?_)
    refine goes_ Tryd.func65 (by kernel_rfl) rfl #[.agg #[.int .i64 t314, .int .i64 t315]] (by rfl) rfl rfl mp_ ?_
    with_reducible refine (shape_format_ones.calls t314 t315 t320 _ A17.out).mono ?_
    rintro e w24 ⟨rfl, hb⟩
    refine ⟨_, rfl, ?_⟩
    replace BK309 := A_ (bb_ BK309.out hb)
    replace BK313 := A_ (bb_ BK313.out hb)
    replace BK319 := A_ (bb_ BK319.out hb)
    replace HB := A_ (below_step (hb3_ HB.out GE309.out GE313.out GE319.out) hb);(try clear hb);(try clear hb2);(try clear hk);(try clear hi)
    refine hK.out _ _ ⟨bc_ BK319.out 0, bc_ BK319.out 1, bc_ BK319.out 2, bc_ BK319.out 3, bc_ BK319.out 4⟩ (fun hHeld => ?_)
    clear hK K
    refine norm_ (a' := ?_) ?_ ?_
    rotate_left
    ·show Act.put _ (some 24) _ = _
     simp only [Act.put, lI_, l0_, lS_, i64_w, i32_w]
     rfl
    refine pu_ 5 (some 25) #[true, true, true, true, true, true, false, false, false, false, false, false] rfl rfl (any_of HT_.out (by kernel_rfl)) ?_
    refine pu_ 6 (some 26) #[true, true, true, true, true, true, true, false, false, false, false, false] rfl rfl (any_of HT_.out (by kernel_rfl)) ?_
    refine pure_ (i := 7) (N := some 27) (v := undef) (a' := ?_) #[true, true, true, true, true, true, true, true, false, false, false, false] rfl rfl (any_of HT_.out (by kernel_rfl)) (fun _ _ _ h => h) (Or.inr ⟨by rfl, rfl⟩) ?_ ?_
    rotate_left
    ·simp only [Act.put, lI_, l0_, lS_, i64_w, i32_w]
     rfl
    refine pure_ (i := 8) (N := some 28) (v := undef) (a' := ?_) #[true, true, true, true, true, true, true, true, true, false, false, false] rfl rfl (any_of HT_.out (by kernel_rfl)) (fun _ _ _ h => h) (Or.inr ⟨by rfl, rfl⟩) ?_ ?_
    rotate_left
    ·simp only [Act.put, lI_, l0_, lS_, i64_w, i32_w]
     rfl
    refine pure_ (i := 9) (N := some 29) (v := undef) (a' := ?_) #[true, true, true, true, true, true, true, true, true, true, false, false] rfl rfl (any_of HT_.out (by kernel_rfl)) (fun _ _ _ h => h) (Or.inr ⟨by rfl, rfl⟩) ?_ ?_
    rotate_left
    ·simp only [Act.put, lI_, l0_, lS_, i64_w, i32_w]
     rfl
    refine pu_ 10 (some 30) #[true, true, true, true, true, true, true, true, true, true, true, false] rfl rfl (any_of HT_.out (by kernel_rfl)) ?_
    refine pu_ 11 (some 19) #[true, true, true, true, true, true, true, true, true, true, true, true] rfl rfl (any_of HT_.out (by kernel_rfl)) ?_
    refine done_ (done_of HT_.out (by kernel_rfl)) ?_
    try go_wp2
    go_meet
    case rel => exact ⟨_, (false), sm_, H', ⟨by first | omega | exact Nat.le_refl _⟩, ⟨bk_ BK309.out⟩, ⟨bk_ BK313.out⟩, ⟨bk_ BK319.out⟩, ⟨hb3_ HB.out GE309.out GE313.out GE319.out⟩⟩
  case rest =>
   clear HC6
   try clear c1
   try clear p2
   try clear c4
   try clear c6
   try clear c8
   try clear c10
   try clear c14
   try clear c15
   try clear c18
   try clear c18b0
   try clear c18b1
   try clear hcz11_0
   try clear hcz11_1
   try clear hcz16_0
   try clear hcz16_1
   try clear hcz16_2
   try clear hcz16_3
   try clear hcz16_4
   try clear hfz11_0
   try clear hfz11_1
   try clear hfz16_0
   try clear hfz16_1
   try clear hfz16_2
   try clear hfz16_3
   try clear hfz16_4
   obtain ⟨kq, x19_5, rfl, HA, HJ5, BK309, BK313, BK319, HB⟩ := hcut
   cases kq with
   | zero => exact absurd HA.out (by simp [shape_Open.j0])
   | succ kj5 =>
    have H := HA.out
    clear HA
    simp only [shape_Open.j0] at H
    by_cases c25 : x19_5 = true
    ·subst c25
     have H1 : (some (false, 3, 0, 0)) = some (r1, r2, r3, r4) := by rw [if_pos rfl] at H; exact H
     clear H;have H := H1;clear H1
     simp only [Option.some.injEq, Prod.mk.injEq] at H
     obtain ⟨rfl, rfl, rfl, rfl⟩ := H
     have hnb26 := NB309_313.out
     have hnc26 := NB313_309.out
     have hnb27 := NB309_319.out
     have hnc27 := NB319_309.out
     have hcz28_0 := bv_ BK309.out 0
     have hcz28_1 := bv_ BK309.out 1
     have hcz28_2 := bv_ BK309.out 2
     have hcz28_3 := bv_ BK309.out 3
     have hfz28_0 := blk_frozen BK309.out 0
     have hfz28_1 := blk_frozen BK309.out 1
     have hfz28_2 := blk_frozen BK309.out 2
     have hfz28_3 := blk_frozen BK309.out 3
     go_wp2
     refine bodyPost_ret (results_cell_row rfl _ _ gb309 75 #[.bool false, .int .i64 3, .int .i64 0, .int .u64 0] (0, 0) _ rfl (by (with_reducible repeat (first | refine blk_drewN ?_ _ | refine blk_drew ?_ | refine blk_alloc ?_ _)); refine blk_put (cs := #[.bool false, .int .i64 3, .int .i64 0, .int .u64 0]) ?_ 3 _ rfl; (with_reducible repeat (first | refine blk_drewN ?_ _ | refine blk_drew ?_ | refine blk_alloc ?_ _)); refine blk_put (cs := #[.bool false, .int .i64 3, .int .i64 0, .int .u64 0]) ?_ 2 _ rfl; (with_reducible repeat (first | refine blk_drewN ?_ _ | refine blk_drew ?_ | refine blk_alloc ?_ _)); refine blk_put (cs := #[.bool false, .int .i64 0, .int .i64 0, .int .u64 0]) ?_ 1 _ rfl; (with_reducible repeat (first | refine blk_drewN ?_ _ | refine blk_drew ?_ | refine blk_alloc ?_ _)); refine blk_put (cs := #[.bool false, .int .i64 0, .int .i64 0, .int .u64 0]) ?_ 0 _ rfl; (with_reducible repeat (first | refine blk_drewN ?_ _ | refine blk_drew ?_ | refine blk_alloc ?_ _)); exact BK309.out) Tryd.underlying75 rfl (by kernel_rfl)) rfl ?_
     exact ⟨er_, hb3_ HB.out GE309.out GE313.out GE319.out⟩
    ·replace c25 := Bool.eq_false_iff.mpr c25
     subst c25
     have H1 : ((shape_format_ones.f t314 t315).bind fun t321 => (if t317 = t321 then (some (t316, 2, 0, 0)) else (if t317 = 0 then (shape_Open.j1 kj5 (t318 == 0) t314 t315 t316 t317 t318) else (shape_Open.j1 kj5 false t314 t315 t316 t317 t318)))) = some (r1, r2, r3, r4) := by rw [if_neg (show ¬ (false = true) by decide)] at H; exact H
     clear H;have H := H1;clear H1
     replace H := ob_ H
     obtain ⟨t321, A290, H⟩ := H
     replace H : (if t317 = t321 then (some (t316, 2, 0, 0)) else (if t317 = 0 then (shape_Open.j1 kj5 (t318 == 0) t314 t315 t316 t317 t318) else (shape_Open.j1 kj5 false t314 t315 t316 t317 t318))) = some (r1, r2, r3, r4) := H
     have A29 := A_ A290;clear A290
     by_cases c30 : t317 = t321
     ·rw [if_pos c30] at H
      have c30b0 : (t317 == t321) = true := beq_iff_eq.mpr c30
      have c30b1 : (t317 != t321) = false := bne_eq_false_iff_eq.mpr c30
      clear c30
      simp only [Option.some.injEq, Prod.mk.injEq] at H
      obtain ⟨rfl, rfl, rfl, rfl⟩ := H
      try go_wp2
      replace BK309 := A_ (blk_drew BK309.out)
      replace BK313 := A_ (blk_drew BK313.out)
      replace BK319 := A_ (blk_drew BK319.out)
      replace HB := A_ (below_drew1 HB.out)
      refine start_ (n := 7) (S := fun w' => w'.cell? ⟨gb319, 0, none⟩ = some (.int .i64 t314) ∧ w'.cell? ⟨gb319, 1, none⟩ = some (.int .i64 t315) ∧ w'.cell? ⟨gb319, 2, none⟩ = some (.bool t316) ∧ w'.cell? ⟨gb319, 3, none⟩ = some (.int .u64 t317) ∧ w'.cell? ⟨gb319, 4, none⟩ = some (.int .u64 t318)) (ds := []) #[false, false, false, false, false, false, false] (by kernel_rfl) rfl rfl ⟨bc_ BK319.out 0, bc_ BK319.out 1, bc_ BK319.out 2, bc_ BK319.out 3, bc_ BK319.out 4⟩ (fun hHeld => ?_)
      generalize wc.drew = w31 at BK309 BK313 BK319 HB hHeld ⊢
      refine pu_ 0 (some 33) #[true, false, false, false, false, false, false] rfl rfl (by kernel_rfl) ?_
      refine pu_ 2 (some 35) #[true, false, true, false, false, false, false] rfl rfl (by kernel_rfl) ?_
      refine tk5_ 1 (some 34) #[true, true, true, false, false, false, false] rfl rfl (by kernel_rfl) hHeld ?_
      refine tk5_ 3 (some 36) #[true, true, true, true, false, false, false] rfl rfl (by kernel_rfl) hHeld ?_
      refine one_ (i := 4) (N := some 37) #[true, true, true, true, true, false, false] rfl rfl (by kernel_rfl) (by decide) (fun K hK => ?_)
      refine goes_ Tryd.func65 (by kernel_rfl) rfl #[.agg #[.int .i64 t314, .int .i64 t315]] (by rfl) rfl rfl mp_ ?_
      with_reducible refine (shape_format_ones.calls t314 t315 t321 _ A29.out).mono ?_
      rintro e w32 ⟨rfl, hb⟩
      refine ⟨_, rfl, ?_⟩
      replace BK309 := A_ (bb_ BK309.out hb)
      replace BK313 := A_ (bb_ BK313.out hb)
      replace BK319 := A_ (bb_ BK319.out hb)
      replace HB := A_ (below_step (hb3_ HB.out GE309.out GE313.out GE319.out) hb);(try clear hb);(try clear hb2);(try clear hk);(try clear hi)
      refine hK.out _ _ ⟨bc_ BK319.out 0, bc_ BK319.out 1, bc_ BK319.out 2, bc_ BK319.out 3, bc_ BK319.out 4⟩ (fun hHeld => ?_)
      clear hK K
      refine norm_ (a' := ?_) ?_ ?_
      rotate_left
      ·show Act.put _ (some 37) _ = _
       simp only [Act.put, lI_, l0_, lS_, i64_w, i32_w]
       rfl
      refine pu_ 5 (some 38) #[true, true, true, true, true, true, false] rfl rfl (by kernel_rfl) ?_
      refine pu_ 6 (some 32) #[true, true, true, true, true, true, true] rfl rfl (by kernel_rfl) ?_
      refine done_ (by kernel_rfl) ?_
      have hnb33 := NB319_309.out
      have hnc33 := NB309_319.out
      have hnb34 := NB319_313.out
      have hnc34 := NB313_319.out
      have hcz35_0 := bv_ BK319.out 0
      have hcz35_1 := bv_ BK319.out 1
      have hcz35_2 := bv_ BK319.out 2
      have hcz35_3 := bv_ BK319.out 3
      have hcz35_4 := bv_ BK319.out 4
      have hfz35_0 := blk_frozen BK319.out 0
      have hfz35_1 := blk_frozen BK319.out 1
      have hfz35_2 := blk_frozen BK319.out 2
      have hfz35_3 := blk_frozen BK319.out 3
      have hfz35_4 := blk_frozen BK319.out 4
      have hnb36 := NB309_313.out
      have hnc36 := NB313_309.out
      have hcz37_0 := bv_ BK309.out 0
      have hcz37_1 := bv_ BK309.out 1
      have hcz37_2 := bv_ BK309.out 2
      have hcz37_3 := bv_ BK309.out 3
      have hfz37_0 := blk_frozen BK309.out 0
      have hfz37_1 := blk_frozen BK309.out 1
      have hfz37_2 := blk_frozen BK309.out 2
      have hfz37_3 := blk_frozen BK309.out 3
      try go_wp2
      refine bodyPost_ret (results_cell_row rfl _ _ gb309 75 #[.bool t316, .int .i64 2, .int .i64 0, .int .u64 0] (0, 0) _ rfl (by (with_reducible repeat (first | refine blk_drewN ?_ _ | refine blk_drew ?_ | refine blk_alloc ?_ _)); refine blk_put (cs := #[.bool t316, .int .i64 2, .int .i64 0, .int .u64 0]) ?_ 3 _ rfl; (with_reducible repeat (first | refine blk_drewN ?_ _ | refine blk_drew ?_ | refine blk_alloc ?_ _)); refine blk_put (cs := #[.bool t316, .int .i64 2, .int .i64 0, .int .u64 0]) ?_ 2 _ rfl; (with_reducible repeat (first | refine blk_drewN ?_ _ | refine blk_drew ?_ | refine blk_alloc ?_ _)); refine blk_put (cs := #[.bool t316, .int .i64 0, .int .i64 0, .int .u64 0]) ?_ 1 _ rfl; (with_reducible repeat (first | refine blk_drewN ?_ _ | refine blk_drew ?_ | refine blk_alloc ?_ _)); refine blk_put (cs := #[.bool false, .int .i64 0, .int .i64 0, .int .u64 0]) ?_ 0 _ rfl; (with_reducible repeat (first | refine blk_drewN ?_ _ | refine blk_drew ?_ | refine blk_alloc ?_ _)); exact BK309.out) Tryd.underlying75 rfl (by kernel_rfl)) rfl ?_
      exact ⟨er_, hb3_ HB.out GE309.out GE313.out GE319.out⟩
     ·rw [if_neg c30] at H
      have c30b0 : (t317 == t321) = false := beq_eq_false_iff_ne.mpr c30
      have c30b1 : (t317 != t321) = true := bne_iff_ne.mpr c30
      have HC38 := A_ H;clear H
      try go_wp2
      replace BK309 := A_ (blk_drew BK309.out)
      replace BK313 := A_ (blk_drew BK313.out)
      replace BK319 := A_ (blk_drew BK319.out)
      replace HB := A_ (below_drew1 HB.out)
      refine start_ (n := 7) (S := fun w' => w'.cell? ⟨gb319, 0, none⟩ = some (.int .i64 t314) ∧ w'.cell? ⟨gb319, 1, none⟩ = some (.int .i64 t315) ∧ w'.cell? ⟨gb319, 2, none⟩ = some (.bool t316) ∧ w'.cell? ⟨gb319, 3, none⟩ = some (.int .u64 t317) ∧ w'.cell? ⟨gb319, 4, none⟩ = some (.int .u64 t318)) (ds := []) #[false, false, false, false, false, false, false] (by kernel_rfl) rfl rfl ⟨bc_ BK319.out 0, bc_ BK319.out 1, bc_ BK319.out 2, bc_ BK319.out 3, bc_ BK319.out 4⟩ (fun hHeld => ?_)
      generalize wc.drew = w39 at BK309 BK313 BK319 HB hHeld ⊢
      refine pu_ 0 (some 33) #[true, false, false, false, false, false, false] rfl rfl (by kernel_rfl) ?_
      refine pu_ 2 (some 35) #[true, false, true, false, false, false, false] rfl rfl (by kernel_rfl) ?_
      refine tk5_ 1 (some 34) #[true, true, true, false, false, false, false] rfl rfl (by kernel_rfl) hHeld ?_
      refine tk5_ 3 (some 36) #[true, true, true, true, false, false, false] rfl rfl (by kernel_rfl) hHeld ?_
      refine one_ (i := 4) (N := some 37) #[true, true, true, true, true, false, false] rfl rfl (by kernel_rfl) (by decide) (fun K hK => ?_)
      refine goes_ Tryd.func65 (by kernel_rfl) rfl #[.agg #[.int .i64 t314, .int .i64 t315]] (by rfl) rfl rfl mp_ ?_
      with_reducible refine (shape_format_ones.calls t314 t315 t321 _ A29.out).mono ?_
      rintro e w40 ⟨rfl, hb⟩
      refine ⟨_, rfl, ?_⟩
      replace BK309 := A_ (bb_ BK309.out hb)
      replace BK313 := A_ (bb_ BK313.out hb)
      replace BK319 := A_ (bb_ BK319.out hb)
      replace HB := A_ (below_step (hb3_ HB.out GE309.out GE313.out GE319.out) hb);(try clear hb);(try clear hb2);(try clear hk);(try clear hi)
      refine hK.out _ _ ⟨bc_ BK319.out 0, bc_ BK319.out 1, bc_ BK319.out 2, bc_ BK319.out 3, bc_ BK319.out 4⟩ (fun hHeld => ?_)
      clear hK K
      refine norm_ (a' := ?_) ?_ ?_
      rotate_left
      ·show Act.put _ (some 37) _ = _
       simp only [Act.put, lI_, l0_, lS_, i64_w, i32_w]
       rfl
      refine pu_ 5 (some 38) #[true, true, true, true, true, true, false] rfl rfl (by kernel_rfl) ?_
      refine pu_ 6 (some 32) #[true, true, true, true, true, true, true] rfl rfl (by kernel_rfl) ?_
      refine done_ (by kernel_rfl) ?_
      go_upto_region 9 with (fail)
      go_cut [42] (fun v42 wc => ∃ (kq : Nat) (x42_37 : Bool), v42 = .bool x42_37 ∧ Aside0 (shape_Open.j1 kq x42_37 t314 t315 t316 t317 t318 = some (r1, r2, r3, r4)) ∧ Aside0 (kq ≤ kj5) ∧ Aside0 (wc.heap[gb309]? = some (.cells #[.bool false, .int .i64 0, .int .i64 0, .int .u64 0] 75 (0, 0))) ∧ Aside0 (wc.heap[gb313]? = some (.cells #[.int .i64 t310, .int .i64 t311] 78 (0, 0))) ∧ Aside0 (wc.heap[gb319]? = some (.cells #[.int .i64 t314, .int .i64 t315, .bool t316, .int .u64 t317, .int .u64 t318] 102 (0, 0))) ∧ Aside0 (Below w.heap.size w wc))
      case first =>
       have H := HC38.out
       clear HC38
       by_cases c41 : t317 = 0
       ·rw [if_pos c41] at H
        have c41b0 : (t317 == 0) = true := beq_iff_eq.mpr c41
        have c41b1 : (t317 != 0) = false := bne_eq_false_iff_eq.mpr c41
        clear c41
        (first | rw [c41b0] | (simp only [i64_w, i32_w]; rw [c41b0]) | skip)
        have H' := A_ H
        clear H
        have hnb42 := NB319_309.out
        have hnc42 := NB309_319.out
        have hnb43 := NB319_313.out
        have hnc43 := NB313_319.out
        have hcz44_0 := bv_ BK319.out 0
        have hcz44_1 := bv_ BK319.out 1
        have hcz44_2 := bv_ BK319.out 2
        have hcz44_3 := bv_ BK319.out 3
        have hcz44_4 := bv_ BK319.out 4
        have hfz44_0 := blk_frozen BK319.out 0
        have hfz44_1 := blk_frozen BK319.out 1
        have hfz44_2 := blk_frozen BK319.out 2
        have hfz44_3 := blk_frozen BK319.out 3
        have hfz44_4 := blk_frozen BK319.out 4
        go_wp2
        go_meet
        case rel => exact ⟨_, ((t318 == 0)), sm_, H', ⟨by have := HJ5.out; first | omega | exact Nat.le_refl _⟩, ⟨bk_ BK309.out⟩, ⟨bk_ BK313.out⟩, ⟨bk_ BK319.out⟩, ⟨hb3_ HB.out GE309.out GE313.out GE319.out⟩⟩
       ·rw [if_neg c41] at H
        have c41b0 : (t317 == 0) = false := beq_eq_false_iff_ne.mpr c41
        have c41b1 : (t317 != 0) = true := bne_iff_ne.mpr c41
        (first | rw [c41b0] | (simp only [i64_w, i32_w]; rw [c41b0]) | skip)
        have H' := A_ H
        clear H
        have hnb45 := NB319_309.out
        have hnc45 := NB309_319.out
        have hnb46 := NB319_313.out
        have hnc46 := NB313_319.out
        have hcz47_0 := bv_ BK319.out 0
        have hcz47_1 := bv_ BK319.out 1
        have hcz47_2 := bv_ BK319.out 2
        have hcz47_3 := bv_ BK319.out 3
        have hcz47_4 := bv_ BK319.out 4
        have hfz47_0 := blk_frozen BK319.out 0
        have hfz47_1 := blk_frozen BK319.out 1
        have hfz47_2 := blk_frozen BK319.out 2
        have hfz47_3 := blk_frozen BK319.out 3
        have hfz47_4 := blk_frozen BK319.out 4
        go_wp2
        go_meet
        case rel => exact ⟨_, (false), sm_, H', ⟨by have := HJ5.out; first | omega | exact Nat.le_refl _⟩, ⟨bk_ BK309.out⟩, ⟨bk_ BK313.out⟩, ⟨bk_ BK319.out⟩, ⟨hb3_ HB.out GE309.out GE313.out GE319.out⟩⟩
      case rest =>
       clear HC38
       try clear c1
       try clear c2
       try clear p2
       try clear c3
       try clear c4
       try clear c6
       try clear c8
       try clear c10
       try clear c14
       try clear c15
       try clear c18
       try clear c18b0
       try clear c18b1
       try clear c25
       try clear c26
       try clear c27
       try clear c30
       try clear c30b0
       try clear c30b1
       try clear c33
       try clear c34
       try clear c36
       try clear c41
       try clear c41b0
       try clear c41b1
       try clear c42
       try clear c43
       try clear c45
       try clear c46
       try clear hcz11_0
       try clear hcz11_1
       try clear hcz16_0
       try clear hcz16_1
       try clear hcz16_2
       try clear hcz16_3
       try clear hcz16_4
       try clear hcz28_0
       try clear hcz28_1
       try clear hcz28_2
       try clear hcz28_3
       try clear hcz35_0
       try clear hcz35_1
       try clear hcz35_2
       try clear hcz35_3
       try clear hcz35_4
       try clear hcz37_0
       try clear hcz37_1
       try clear hcz37_2
       try clear hcz37_3
       try clear hcz44_0
       try clear hcz44_1
       try clear hcz44_2
       try clear hcz44_3
       try clear hcz44_4
       try clear hcz47_0
       try clear hcz47_1
       try clear hcz47_2
       try clear hcz47_3
       try clear hcz47_4
       try clear hfz11_0
       try clear hfz11_1
       try clear hfz16_0
       try clear hfz16_1
       try clear hfz16_2
       try clear hfz16_3
       try clear hfz16_4
       try clear hfz28_0
       try clear hfz28_1
       try clear hfz28_2
       try clear hfz28_3
       try clear hfz35_0
       try clear hfz35_1
       try clear hfz35_2
       try clear hfz35_3
       try clear hfz35_4
       try clear hfz37_0
       try clear hfz37_1
       try clear hfz37_2
       try clear hfz37_3
       try clear hfz44_0
       try clear hfz44_1
       try clear hfz44_2
       try clear hfz44_3
       try clear hfz44_4
       try clear hfz47_0
       try clear hfz47_1
       try clear hfz47_2
       try clear hfz47_3
       try clear hfz47_4
       try clear p2
       obtain ⟨kq, x42_37, rfl, HA, HJ37, BK309, BK313, BK319, HB⟩ := hcut
       cases kq with
       | zero => exact absurd HA.out (by simp [shape_Open.j1])
       | succ kj37 =>
        have H := HA.out
        clear HA
        simp only [shape_Open.j1] at H
        by_cases c48 : x42_37 = true
        ·subst c48
         have H1 : (some (t316, 0, 0, 0)) = some (r1, r2, r3, r4) := by rw [if_pos rfl] at H; exact H
         clear H;have H := H1;clear H1
         simp only [Option.some.injEq, Prod.mk.injEq] at H
         obtain ⟨rfl, rfl, rfl, rfl⟩ := H
         have hnb49 := NB319_309.out
         have hnc49 := NB309_319.out
         have hnb50 := NB319_313.out
         have hnc50 := NB313_319.out
         have hcz51_0 := bv_ BK319.out 0
         have hcz51_1 := bv_ BK319.out 1
         have hcz51_2 := bv_ BK319.out 2
         have hcz51_3 := bv_ BK319.out 3
         have hcz51_4 := bv_ BK319.out 4
         have hfz51_0 := blk_frozen BK319.out 0
         have hfz51_1 := blk_frozen BK319.out 1
         have hfz51_2 := blk_frozen BK319.out 2
         have hfz51_3 := blk_frozen BK319.out 3
         have hfz51_4 := blk_frozen BK319.out 4
         have hnb52 := NB309_313.out
         have hnc52 := NB313_309.out
         have hcz53_0 := bv_ BK309.out 0
         have hcz53_1 := bv_ BK309.out 1
         have hcz53_2 := bv_ BK309.out 2
         have hcz53_3 := bv_ BK309.out 3
         have hfz53_0 := blk_frozen BK309.out 0
         have hfz53_1 := blk_frozen BK309.out 1
         have hfz53_2 := blk_frozen BK309.out 2
         have hfz53_3 := blk_frozen BK309.out 3
         go_wp2
         refine bodyPost_ret (results_cell_row rfl _ _ gb309 75 #[.bool t316, .int .i64 0, .int .i64 0, .int .u64 0] (0, 0) _ rfl (by (with_reducible repeat (first | refine blk_drewN ?_ _ | refine blk_drew ?_ | refine blk_alloc ?_ _)); refine blk_put (cs := #[.bool t316, .int .i64 0, .int .i64 0, .int .u64 0]) ?_ 3 _ rfl; (with_reducible repeat (first | refine blk_drewN ?_ _ | refine blk_drew ?_ | refine blk_alloc ?_ _)); refine blk_put (cs := #[.bool t316, .int .i64 0, .int .i64 0, .int .u64 0]) ?_ 2 _ rfl; (with_reducible repeat (first | refine blk_drewN ?_ _ | refine blk_drew ?_ | refine blk_alloc ?_ _)); refine blk_put (cs := #[.bool t316, .int .i64 0, .int .i64 0, .int .u64 0]) ?_ 1 _ rfl; (with_reducible repeat (first | refine blk_drewN ?_ _ | refine blk_drew ?_ | refine blk_alloc ?_ _)); refine blk_put (cs := #[.bool false, .int .i64 0, .int .i64 0, .int .u64 0]) ?_ 0 _ rfl; (with_reducible repeat (first | refine blk_drewN ?_ _ | refine blk_drew ?_ | refine blk_alloc ?_ _)); exact BK309.out) Tryd.underlying75 rfl (by kernel_rfl)) rfl ?_
         exact ⟨er_, hb3_ HB.out GE309.out GE313.out GE319.out⟩
        ·replace c48 := Bool.eq_false_iff.mpr c48
         subst c48
         have H1 : (if t317 = 0 then ((shape_format_low.f t314 t315).bind fun t322 => (some (t316, 1, t322, t318))) else ((shape_format_low.f t314 t315).bind fun t323 => (if 0 ≤ t315 then (some (t316, 1, wrap64 ((wrap64 (t323 + (wrap64 (t317)))) - 1), Go.bits .or .u64 (shl .u64 1 t315) t318)) else (none)))) = some (r1, r2, r3, r4) := by rw [if_neg (show ¬ (false = true) by decide)] at H; exact H
         clear H;have H := H1;clear H1
         by_cases c54 : t317 = 0
         ·rw [if_pos c54] at H
          have c54b0 : (t317 == 0) = true := beq_iff_eq.mpr c54
          have c54b1 : (t317 != 0) = false := bne_eq_false_iff_eq.mpr c54
          clear c54
          replace H := ob_ H
          obtain ⟨t322, A550, H⟩ := H
          replace H : (some (t316, 1, t322, t318)) = some (r1, r2, r3, r4) := H
          have A55 := A_ A550;clear A550
          simp only [Option.some.injEq, Prod.mk.injEq] at H
          obtain ⟨rfl, rfl, rfl, rfl⟩ := H
          have hnb56 := NB319_309.out
          have hnc56 := NB309_319.out
          have hnb57 := NB319_313.out
          have hnc57 := NB313_319.out
          have hcz58_0 := bv_ BK319.out 0
          have hcz58_1 := bv_ BK319.out 1
          have hcz58_2 := bv_ BK319.out 2
          have hcz58_3 := bv_ BK319.out 3
          have hcz58_4 := bv_ BK319.out 4
          have hfz58_0 := blk_frozen BK319.out 0
          have hfz58_1 := blk_frozen BK319.out 1
          have hfz58_2 := blk_frozen BK319.out 2
          have hfz58_3 := blk_frozen BK319.out 3
          have hfz58_4 := blk_frozen BK319.out 4
          try go_wp2
          replace BK309 := A_ (blk_drew BK309.out)
          replace BK313 := A_ (blk_drew BK313.out)
          replace BK319 := A_ (blk_drew BK319.out)
          replace HB := A_ (below_drew1 HB.out)
          refine start_ (n := 9) (S := fun w' => w'.cell? ⟨gb319, 0, none⟩ = some (.int .i64 t314) ∧ w'.cell? ⟨gb319, 1, none⟩ = some (.int .i64 t315) ∧ w'.cell? ⟨gb319, 2, none⟩ = some (.bool t316) ∧ w'.cell? ⟨gb319, 3, none⟩ = some (.int .u64 t317) ∧ w'.cell? ⟨gb319, 4, none⟩ = some (.int .u64 t318)) (ds := []) #[false, false, false, false, false, false, false, false, false] (by kernel_rfl) rfl rfl ⟨bc_ BK319.out 0, bc_ BK319.out 1, bc_ BK319.out 2, bc_ BK319.out 3, bc_ BK319.out 4⟩ (fun hHeld => ?_); refine with_tabW shape_Open.tab12 shape_Open.bits12 (fun HT_ HW_ => ?_)
          generalize wc.drew = w59 at BK309 BK313 BK319 HB hHeld ⊢
          refine pu_ 0 (some 58) #[true, false, false, false, false, false, false, false, false] rfl rfl (any_of HT_.out (by kernel_rfl)) ?_
          refine pu_ 2 (some 60) #[true, false, true, false, false, false, false, false, false] rfl rfl (any_of HT_.out (by kernel_rfl)) ?_
          refine pu_ 5 (some 63) #[true, false, true, false, false, true, false, false, false] rfl rfl (any_of HT_.out (by kernel_rfl)) ?_
          refine tk5_ 1 (some 59) #[true, true, true, false, false, true, false, false, false] rfl rfl (take_ofW HT_.out HW_.out (by kernel_rfl)) hHeld ?_
          refine tk5_ 3 (some 61) #[true, true, true, true, false, true, false, false, false] rfl rfl (take_ofW HT_.out HW_.out (by kernel_rfl)) hHeld ?_
          refine tk5_ 6 (some 64) #[true, true, true, true, false, true, true, false, false] rfl rfl (take_ofW HT_.out HW_.out (by kernel_rfl)) hHeld ?_
          refine one_ (i := 4) (N := some 62) #[true, true, true, true, true, true, true, false, false] rfl rfl (one_of HT_.out (by kernel_rfl)) (by decide) (fun K hK => ?_)
          refine goes_ Tryd.func88 (by kernel_rfl) rfl #[.agg #[.int .i64 t314, .int .i64 t315]] (by rfl) rfl rfl mp_ ?_
          with_reducible refine (shape_format_low.calls t314 t315 t322 _ A55.out).mono ?_
          rintro e w60 ⟨rfl, hb⟩
          refine ⟨_, rfl, ?_⟩
          replace BK309 := A_ (bb_ BK309.out hb)
          replace BK313 := A_ (bb_ BK313.out hb)
          replace BK319 := A_ (bb_ BK319.out hb)
          replace HB := A_ (below_step (hb3_ HB.out GE309.out GE313.out GE319.out) hb);(try clear hb);(try clear hb2);(try clear hk);(try clear hi)
          refine hK.out _ _ ⟨bc_ BK319.out 0, bc_ BK319.out 1, bc_ BK319.out 2, bc_ BK319.out 3, bc_ BK319.out 4⟩ (fun hHeld => ?_)
          clear hK K
          refine norm_ (a' := ?_) ?_ ?_
          rotate_left
          ·show Act.put _ (some 62) _ = _
           simp only [Act.put, lI_, l0_, lS_, i64_w, i32_w]
           rfl
          refine pu_ 7 (some 65) #[true, true, true, true, true, true, true, true, false] rfl rfl (any_of HT_.out (by kernel_rfl)) ?_
          refine one_ (i := 8) (N := none) #[true, true, true, true, true, true, true, true, true] rfl rfl (one_of HT_.out (by kernel_rfl)) (by decide) (fun K hK => ?_)
          have hs61 : w60.cell? ⟨gb309, 0, none⟩ = some (.bool false) := bc_ BK309.out 0
          have hfs61 := blk_frozen BK309.out 0
          have hns61_1 := NB313_309.out
          have hns61_2 := NB319_309.out
          have hms61_1 := NB309_313.out
          have hms61_2 := NB309_319.out
          have hs62 : w60.cell? ⟨gb309, 1, none⟩ = some (.int .i64 0) := bc_ BK309.out 1
          have hfs62 := blk_frozen BK309.out 1
          have hns62_1 := NB313_309.out
          have hns62_2 := NB319_309.out
          have hms62_1 := NB309_313.out
          have hms62_2 := NB309_319.out
          have hs63 : w60.cell? ⟨gb309, 2, none⟩ = some (.int .i64 0) := bc_ BK309.out 2
          have hfs63 := blk_frozen BK309.out 2
          have hns63_1 := NB313_309.out
          have hns63_2 := NB319_309.out
          have hms63_1 := NB309_313.out
          have hms63_2 := NB309_319.out
          have hs64 : w60.cell? ⟨gb309, 3, none⟩ = some (.int .u64 0) := bc_ BK309.out 3
          have hfs64 := blk_frozen BK309.out 3
          have hns64_1 := NB313_309.out
          have hns64_2 := NB319_309.out
          have hms64_1 := NB309_313.out
          have hms64_2 := NB309_319.out
          refine skip_ (w1 := ?_) (by rfl) rfl ?_ ?_
          rotate_left
          ·go_simp
           rfl
          refine hK.out _ _ ⟨((cell_far (p := ⟨gb309, _, none⟩) NB319_309.out _).trans (((cell_far (p := ⟨gb309, _, none⟩) NB319_309.out _).trans (((cell_far (p := ⟨gb309, _, none⟩) NB319_309.out _).trans (((cell_far (p := ⟨gb309, _, none⟩) NB319_309.out _).trans (hHeld.1)))))))), ((cell_far (p := ⟨gb309, _, none⟩) NB319_309.out _).trans (((cell_far (p := ⟨gb309, _, none⟩) NB319_309.out _).trans (((cell_far (p := ⟨gb309, _, none⟩) NB319_309.out _).trans (((cell_far (p := ⟨gb309, _, none⟩) NB319_309.out _).trans (hHeld.2.1)))))))), ((cell_far (p := ⟨gb309, _, none⟩) NB319_309.out _).trans (((cell_far (p := ⟨gb309, _, none⟩) NB319_309.out _).trans (((cell_far (p := ⟨gb309, _, none⟩) NB319_309.out _).trans (((cell_far (p := ⟨gb309, _, none⟩) NB319_309.out _).trans (hHeld.2.2.1)))))))), ((cell_far (p := ⟨gb309, _, none⟩) NB319_309.out _).trans (((cell_far (p := ⟨gb309, _, none⟩) NB319_309.out _).trans (((cell_far (p := ⟨gb309, _, none⟩) NB319_309.out _).trans (((cell_far (p := ⟨gb309, _, none⟩) NB319_309.out _).trans (hHeld.2.2.2.1)))))))), ((cell_far (p := ⟨gb309, _, none⟩) NB319_309.out _).trans (((cell_far (p := ⟨gb309, _, none⟩) NB319_309.out _).trans (((cell_far (p := ⟨gb309, _, none⟩) NB319_309.out _).trans (((cell_far (p := ⟨gb309, _, none⟩) NB319_309.out _).trans (hHeld.2.2.2.2))))))))⟩ (fun hHeld => ?_)
          clear hK K
          refine done_ (done_of HT_.out (by kernel_rfl)) ?_
          try go_wp2
          refine bodyPost_ret (results_cell_row rfl _ _ gb309 75 #[.bool t316, .int .i64 1, .int .i64 t322, .int .u64 t318] (0, 0) _ rfl (by (with_reducible repeat (first | refine blk_drewN ?_ _ | refine blk_drew ?_ | refine blk_alloc ?_ _)); refine blk_put (cs := #[.bool t316, .int .i64 1, .int .i64 t322, .int .u64 0]) ?_ 3 _ rfl; (with_reducible repeat (first | refine blk_drewN ?_ _ | refine blk_drew ?_ | refine blk_alloc ?_ _)); refine blk_put (cs := #[.bool t316, .int .i64 1, .int .i64 0, .int .u64 0]) ?_ 2 _ rfl; (with_reducible repeat (first | refine blk_drewN ?_ _ | refine blk_drew ?_ | refine blk_alloc ?_ _)); refine blk_put (cs := #[.bool t316, .int .i64 0, .int .i64 0, .int .u64 0]) ?_ 1 _ rfl; (with_reducible repeat (first | refine blk_drewN ?_ _ | refine blk_drew ?_ | refine blk_alloc ?_ _)); refine blk_put (cs := #[.bool false, .int .i64 0, .int .i64 0, .int .u64 0]) ?_ 0 _ rfl; (with_reducible repeat (first | refine blk_drewN ?_ _ | refine blk_drew ?_ | refine blk_alloc ?_ _)); exact BK309.out) Tryd.underlying75 rfl (by kernel_rfl)) rfl ?_
          exact ⟨er_, hb3_ HB.out GE309.out GE313.out GE319.out⟩
         ·rw [if_neg c54] at H
          have c54b0 : (t317 == 0) = false := beq_eq_false_iff_ne.mpr c54
          have c54b1 : (t317 != 0) = true := bne_iff_ne.mpr c54
          replace H := ob_ H
          obtain ⟨t323, A650, H⟩ := H
          replace H : (if 0 ≤ t315 then (some (t316, 1, wrap64 ((wrap64 (t323 + (wrap64 (t317)))) - 1), Go.bits .or .u64 (shl .u64 1 t315) t318)) else (none)) = some (r1, r2, r3, r4) := H
          have A65 := A_ A650;clear A650
          by_cases c66 : 0 ≤ t315
          ·rw [if_pos c66] at H
           have c66b0 := eq_true c66
           have c66b1 : decide (0 ≤ t315) = true := decide_eq_true c66
           clear c66
           obtain ⟨ji67, hji67⟩ : ∃ j_ : Int, (shl .u64 1 t315) = j_ := ⟨_, rfl⟩
           replace H : (some (t316, 1, wrap64 ((wrap64 (t323 + (wrap64 (t317)))) - 1), Go.bits .or .u64 (ji67) t318)) = some (r1, r2, r3, r4) := by first | (rw [hji67] at H; exact H) | (simp only [hji67] at H ⊢; exact H)
           (try rw [hji67] at A65)
           have hji67_ : (IntKind.u64.wrap (1 * 2 ^ min t315.toNat 64)) = ji67 := hji67
           have hji67z : t315 ≤ 64 → (IntKind.u64.wrap (1 * 2 ^ t315.toNat)) = ji67 := shl_small hji67
           have hji67u : (IntKind.u64.wrap (2 ^ min t315.toNat 64)) = ji67 := by have h_ := hji67_; rw [Int.one_mul] at h_; exact h_
           have hji67v : t315 ≤ 64 → (IntKind.u64.wrap (2 ^ t315.toNat)) = ji67 := fun hle_ => by have h_ := hji67z hle_; rw [Int.one_mul] at h_; exact h_
           simp only [Option.some.injEq, Prod.mk.injEq] at H
           obtain ⟨rfl, rfl, rfl, rfl⟩ := H
           have hnb68 := NB319_309.out
           have hnc68 := NB309_319.out
           have hnb69 := NB319_313.out
           have hnc69 := NB313_319.out
           have hcz70_0 := bv_ BK319.out 0
           have hcz70_1 := bv_ BK319.out 1
           have hcz70_2 := bv_ BK319.out 2
           have hcz70_3 := bv_ BK319.out 3
           have hcz70_4 := bv_ BK319.out 4
           have hfz70_0 := blk_frozen BK319.out 0
           have hfz70_1 := blk_frozen BK319.out 1
           have hfz70_2 := blk_frozen BK319.out 2
           have hfz70_3 := blk_frozen BK319.out 3
           have hfz70_4 := blk_frozen BK319.out 4
           try go_wp2
           replace BK309 := A_ (blk_drew BK309.out)
           replace BK313 := A_ (blk_drew BK313.out)
           replace BK319 := A_ (blk_drew BK319.out)
           replace HB := A_ (below_drew1 HB.out)
           refine start_ (n := 19) (S := fun w' => w'.cell? ⟨gb319, 0, none⟩ = some (.int .i64 t314) ∧ w'.cell? ⟨gb319, 1, none⟩ = some (.int .i64 t315) ∧ w'.cell? ⟨gb319, 2, none⟩ = some (.bool t316) ∧ w'.cell? ⟨gb319, 3, none⟩ = some (.int .u64 t317) ∧ w'.cell? ⟨gb319, 4, none⟩ = some (.int .u64 t318)) (ds := []) #[false, false, false, false, false, false, false, false, false, false, false, false, false, false, false, false, false, false, false] (by kernel_rfl) rfl rfl ⟨bc_ BK319.out 0, bc_ BK319.out 1, bc_ BK319.out 2, bc_ BK319.out 3, bc_ BK319.out 4⟩ (fun hHeld => ?_); refine with_tabW shape_Open.tab13 shape_Open.bits13 (fun HT_ HW_ => ?_)
           generalize wc.drew = w71 at BK309 BK313 BK319 HB hHeld ⊢
           refine pu_ 0 (some 66) #[true, false, false, false, false, false, false, false, false, false, false, false, false, false, false, false, false, false, false] rfl rfl (any_of HT_.out (by kernel_rfl)) ?_
           refine pu_ 2 (some 68) #[true, false, true, false, false, false, false, false, false, false, false, false, false, false, false, false, false, false, false] rfl rfl (any_of HT_.out (by kernel_rfl)) ?_
           refine pu_ 5 (some 71) #[true, false, true, false, false, true, false, false, false, false, false, false, false, false, false, false, false, false, false] rfl rfl (any_of HT_.out (by kernel_rfl)) ?_
           refine pu_ 10 (some 76) #[true, false, true, false, false, true, false, false, false, false, true, false, false, false, false, false, false, false, false] rfl rfl (any_of HT_.out (by kernel_rfl)) ?_
           refine pu_ 11 (some 77) #[true, false, true, false, false, true, false, false, false, false, true, true, false, false, false, false, false, false, false] rfl rfl (any_of HT_.out (by kernel_rfl)) ?_
           refine pu_ 14 (some 80) #[true, false, true, false, false, true, false, false, false, false, true, true, false, false, true, false, false, false, false] rfl rfl (any_of HT_.out (by kernel_rfl)) ?_
           refine tk5_ 1 (some 67) #[true, true, true, false, false, true, false, false, false, false, true, true, false, false, true, false, false, false, false] rfl rfl (take_ofW HT_.out HW_.out (by kernel_rfl)) hHeld ?_
           refine tk5_ 3 (some 69) #[true, true, true, true, false, true, false, false, false, false, true, true, false, false, true, false, false, false, false] rfl rfl (take_ofW HT_.out HW_.out (by kernel_rfl)) hHeld ?_
           refine tk5_ 6 (some 72) #[true, true, true, true, false, true, true, false, false, false, true, true, false, false, true, false, false, false, false] rfl rfl (take_ofW HT_.out HW_.out (by kernel_rfl)) hHeld ?_
           refine pu_ 7 (some 73) #[true, true, true, true, false, true, true, true, false, false, true, true, false, false, true, false, false, false, false] rfl rfl (any_of HT_.out (by kernel_rfl)) ?_
           refine tk5_ 12 (some 78) #[true, true, true, true, false, true, true, true, false, false, true, true, true, false, true, false, false, false, false] rfl rfl (take_ofW HT_.out HW_.out (by kernel_rfl)) hHeld ?_
           refine pu_ 13 (some 79) #[true, true, true, true, false, true, true, true, false, false, true, true, true, true, true, false, false, false, false] rfl rfl (any_of HT_.out (by kernel_rfl)) ?_
           refine tk5_ 15 (some 81) #[true, true, true, true, false, true, true, true, false, false, true, true, true, true, true, true, false, false, false] rfl rfl (take_ofW HT_.out HW_.out (by kernel_rfl)) hHeld ?_
           refine pu_ 16 (some 82) #[true, true, true, true, false, true, true, true, false, false, true, true, true, true, true, true, true, false, false] rfl rfl (any_of HT_.out (by kernel_rfl)) ?_
           refine one_ (i := 4) (N := some 70) #[true, true, true, true, true, true, true, true, false, false, true, true, true, true, true, true, true, false, false] rfl rfl (one_of HT_.out (by kernel_rfl)) (by decide) (fun K hK => ?_)
           refine goes_ Tryd.func88 (by kernel_rfl) rfl #[.agg #[.int .i64 t314, .int .i64 t315]] (by rfl) rfl rfl mp_ ?_
           with_reducible refine (shape_format_low.calls t314 t315 t323 _ A65.out).mono ?_
           rintro e w72 ⟨rfl, hb⟩
           refine ⟨_, rfl, ?_⟩
           replace BK309 := A_ (bb_ BK309.out hb)
           replace BK313 := A_ (bb_ BK313.out hb)
           replace BK319 := A_ (bb_ BK319.out hb)
           replace HB := A_ (below_step (hb3_ HB.out GE309.out GE313.out GE319.out) hb);(try clear hb);(try clear hb2);(try clear hk);(try clear hi)
           refine hK.out _ _ ⟨bc_ BK319.out 0, bc_ BK319.out 1, bc_ BK319.out 2, bc_ BK319.out 3, bc_ BK319.out 4⟩ (fun hHeld => ?_)
           clear hK K
           refine norm_ (a' := ?_) ?_ ?_
           rotate_left
           ·show Act.put _ (some 70) _ = _
            simp only [Act.put, lI_, l0_, lS_, i64_w, i32_w]
            rfl
           refine pu_ 8 (some 74) #[true, true, true, true, true, true, true, true, true, false, true, true, true, true, true, true, true, false, false] rfl rfl (any_of HT_.out (by kernel_rfl)) ?_
           refine pu_ 9 (some 75) #[true, true, true, true, true, true, true, true, true, true, true, true, true, true, true, true, true, false, false] rfl rfl (any_of HT_.out (by kernel_rfl)) ?_
           refine pu_ 17 (some 83) #[true, true, true, true, true, true, true, true, true, true, true, true, true, true, true, true, true, true, false] rfl rfl (any_of HT_.out (by kernel_rfl)) ?_
           refine one_ (i := 18) (N := none) #[true, true, true, true, true, true, true, true, true, true, true, true, true, true, true, true, true, true, true] rfl rfl (one_of HT_.out (by kernel_rfl)) (by decide) (fun K hK => ?_)
           have hs73 : w72.cell? ⟨gb309, 0, none⟩ = some (.bool false) := bc_ BK309.out 0
           have hfs73 := blk_frozen BK309.out 0
           have hns73_1 := NB313_309.out
           have hns73_2 := NB319_309.out
           have hms73_1 := NB309_313.out
           have hms73_2 := NB309_319.out
           have hs74 : w72.cell? ⟨gb309, 1, none⟩ = some (.int .i64 0) := bc_ BK309.out 1
           have hfs74 := blk_frozen BK309.out 1
           have hns74_1 := NB313_309.out
           have hns74_2 := NB319_309.out
           have hms74_1 := NB309_313.out
           have hms74_2 := NB309_319.out
           have hs75 : w72.cell? ⟨gb309, 2, none⟩ = some (.int .i64 0) := bc_ BK309.out 2
           have hfs75 := blk_frozen BK309.out 2
           have hns75_1 := NB313_309.out
           have hns75_2 := NB319_309.out
           have hms75_1 := NB309_313.out
           have hms75_2 := NB309_319.out
           have hs76 : w72.cell? ⟨gb309, 3, none⟩ = some (.int .u64 0) := bc_ BK309.out 3
           have hfs76 := blk_frozen BK309.out 3
           have hns76_1 := NB313_309.out
           have hns76_2 := NB319_309.out
           have hms76_1 := NB309_313.out
           have hms76_2 := NB309_319.out
           refine skip_ (w1 := ?_) (by rfl) rfl ?_ ?_
           rotate_left
           ·go_simp
            rfl
           refine hK.out _ _ ⟨((cell_far (p := ⟨gb309, _, none⟩) NB319_309.out _).trans (((cell_far (p := ⟨gb309, _, none⟩) NB319_309.out _).trans (((cell_far (p := ⟨gb309, _, none⟩) NB319_309.out _).trans (((cell_far (p := ⟨gb309, _, none⟩) NB319_309.out _).trans (hHeld.1)))))))), ((cell_far (p := ⟨gb309, _, none⟩) NB319_309.out _).trans (((cell_far (p := ⟨gb309, _, none⟩) NB319_309.out _).trans (((cell_far (p := ⟨gb309, _, none⟩) NB319_309.out _).trans (((cell_far (p := ⟨gb309, _, none⟩) NB319_309.out _).trans (hHeld.2.1)))))))), ((cell_far (p := ⟨gb309, _, none⟩) NB319_309.out _).trans (((cell_far (p := ⟨gb309, _, none⟩) NB319_309.out _).trans (((cell_far (p := ⟨gb309, _, none⟩) NB319_309.out _).trans (((cell_far (p := ⟨gb309, _, none⟩) NB319_309.out _).trans (hHeld.2.2.1)))))))), ((cell_far (p := ⟨gb309, _, none⟩) NB319_309.out _).trans (((cell_far (p := ⟨gb309, _, none⟩) NB319_309.out _).trans (((cell_far (p := ⟨gb309, _, none⟩) NB319_309.out _).trans (((cell_far (p := ⟨gb309, _, none⟩) NB319_309.out _).trans (hHeld.2.2.2.1)))))))), ((cell_far (p := ⟨gb309, _, none⟩) NB319_309.out _).trans (((cell_far (p := ⟨gb309, _, none⟩) NB319_309.out _).trans (((cell_far (p := ⟨gb309, _, none⟩) NB319_309.out _).trans (((cell_far (p := ⟨gb309, _, none⟩) NB319_309.out _).trans (hHeld.2.2.2.2))))))))⟩ (fun hHeld => ?_)
           clear hK K
           refine done_ (done_of HT_.out (by kernel_rfl)) ?_
           try go_wp2
           refine bodyPost_ret (results_cell_row rfl _ _ gb309 75 #[.bool t316, .int .i64 1, .int .i64 (wrap64 ((wrap64 (t323 + (wrap64 (t317)))) - 1)), .int .u64 (Go.bits .or .u64 (ji67) t318)] (0, 0) _ rfl (by (with_reducible repeat (first | refine blk_drewN ?_ _ | refine blk_drew ?_ | refine blk_alloc ?_ _)); refine blk_put (cs := #[.bool t316, .int .i64 1, .int .i64 (wrap64 ((wrap64 (t323 + (wrap64 (t317)))) - 1)), .int .u64 0]) ?_ 3 _ rfl; (with_reducible repeat (first | refine blk_drewN ?_ _ | refine blk_drew ?_ | refine blk_alloc ?_ _)); refine blk_put (cs := #[.bool t316, .int .i64 1, .int .i64 0, .int .u64 0]) ?_ 2 _ rfl; (with_reducible repeat (first | refine blk_drewN ?_ _ | refine blk_drew ?_ | refine blk_alloc ?_ _)); refine blk_put (cs := #[.bool t316, .int .i64 0, .int .i64 0, .int .u64 0]) ?_ 1 _ rfl; (with_reducible repeat (first | refine blk_drewN ?_ _ | refine blk_drew ?_ | refine blk_alloc ?_ _)); refine blk_put (cs := #[.bool false, .int .i64 0, .int .i64 0, .int .u64 0]) ?_ 0 _ rfl; (with_reducible repeat (first | refine blk_drewN ?_ _ | refine blk_drew ?_ | refine blk_alloc ?_ _)); exact BK309.out) Tryd.underlying75 rfl (by kernel_rfl)) rfl ?_
           exact ⟨by first | rfl | (simp [errW_none, errW_some] <;> rfl) | (simp only [← hji67]; first | rfl | (simp [errW_none, errW_some] <;> rfl)) | (simp [*, errW_none, errW_some] <;> rfl), hb3_ HB.out GE309.out GE313.out GE319.out⟩
          ·rw [if_neg c66] at H
           exact absurd H (by simp)
 ·replace c4 := Bool.eq_false_iff.mpr c4
  subst c4
  have H1 : (some (false, 0, 0, 0)) = some (r1, r2, r3, r4) := by rw [if_neg (show ¬ (false = true) by decide)] at H; exact H
  clear H;have H := H1;clear H1
  simp only [Option.some.injEq, Prod.mk.injEq] at H
  obtain ⟨rfl, rfl, rfl, rfl⟩ := H
  go_enter Tryd.func62, Tryd.ntmps62
  go_wp2_with (first | ((with_reducible refine gate_dst (N := 4) rfl ?_); refine be_ 4 #[.bool false, .int .i64 0, .int .i64 0, .int .u64 0] 75 ?_; intro gb309 hg w77 hbox hb; have BK309 := A_ (hbox); have GW309 := A_ (sz_ hg (hb_ HB.out)); have GE309 := A_ (sz_ hg (hb_ HB.out)); replace HB := A_ (below_step (hb_ HB.out) hb); clear hb hbox hg) | ((with_reducible refine gate_callee (f := 63) rfl ?_); refine goesL_ (some 10) rfl rfl Tryd.func63 (by kernel_rfl) rfl #[.int .i64 a0] rfl mp_ ?_; (with_reducible refine (shape_of.calls a0 t310 t311 false _ A3.out).mono ?_); rintro e w78 ⟨rfl, hb⟩; refine ⟨_, rfl, ?_⟩; replace BK309 := A_ (bb_ BK309.out hb); replace HB := A_ (below_step (hb1_ HB.out GE309.out) hb); (try clear hb); (try clear hb2); (try clear hk); (try clear hi)) | ((with_reducible refine gate_dst (N := 5) rfl ?_); refine be_ 5 #[.int .i64 0, .int .i64 0] 78 ?_; intro gb313 hg w79 hbox hb; have BK313 := A_ (hbox); have GW313 := A_ (sz_ hg (hb1_ HB.out GE309.out)); have GE313 := A_ (sz_ hg (hb1_ HB.out GE309.out)); have NB309_313 := A_ (nl_ hg BK309.out); have NB313_309 := A_ (ng_ hg BK309.out); replace BK309 := A_ (bb_ BK309.out hb); replace HB := A_ (below_step (hb1_ HB.out GE309.out) hb); clear hb hbox hg; have hnb80 := NB313_309.out; have hnc80 := NB309_313.out; have hcz81_0 := bv_ BK313.out 0; have hcz81_1 := bv_ BK313.out 1; have hfz81_0 := blk_frozen BK313.out 0; have hfz81_1 := blk_frozen BK313.out 1; have hcz82_0 := bv_ BK309.out 0; have hcz82_1 := bv_ BK309.out 1; have hcz82_2 := bv_ BK309.out 2; have hcz82_3 := bv_ BK309.out 3; have hfz82_0 := blk_frozen BK309.out 0; have hfz82_1 := blk_frozen BK309.out 1; have hfz82_2 := blk_frozen BK309.out 2; have hfz82_3 := blk_frozen BK309.out 3))
  refine bodyPost_ret (results_cell_row rfl _ _ gb309 75 #[.bool false, .int .i64 0, .int .i64 0, .int .u64 0] (0, 0) _ rfl (by (with_reducible repeat (first | refine blk_drewN ?_ _ | refine blk_drew ?_ | refine blk_alloc ?_ _)); refine blk_put (cs := #[.bool false, .int .i64 0, .int .i64 0, .int .u64 0]) ?_ 3 _ rfl; (with_reducible repeat (first | refine blk_drewN ?_ _ | refine blk_drew ?_ | refine blk_alloc ?_ _)); refine blk_put (cs := #[.bool false, .int .i64 0, .int .i64 0, .int .u64 0]) ?_ 2 _ rfl; (with_reducible repeat (first | refine blk_drewN ?_ _ | refine blk_drew ?_ | refine blk_alloc ?_ _)); refine blk_put (cs := #[.bool false, .int .i64 0, .int .i64 0, .int .u64 0]) ?_ 1 _ rfl; (with_reducible repeat (first | refine blk_drewN ?_ _ | refine blk_drew ?_ | refine blk_alloc ?_ _)); refine blk_put (cs := #[.bool false, .int .i64 0, .int .i64 0, .int .u64 0]) ?_ 0 _ rfl; (with_reducible repeat (first | refine blk_drewN ?_ _ | refine blk_drew ?_ | refine blk_alloc ?_ _)); refine blk_far ?_ NB309_313.out _; (with_reducible repeat (first | refine blk_drewN ?_ _ | refine blk_drew ?_ | refine blk_alloc ?_ _)); refine blk_far ?_ NB309_313.out _; (with_reducible repeat (first | refine blk_drewN ?_ _ | refine blk_drew ?_ | refine blk_alloc ?_ _)); exact BK309.out) Tryd.underlying75 rfl (by kernel_rfl)) rfl ?_
  exact ⟨er_, hb2_ HB.out GE309.out GE313.out⟩
end Go.Proofs.YthdeeoallfbjmaaDoor.PA
section
set_option linter.unusedVariables false
set_option linter.unusedSimpArgs false
namespace Go.Proofs.YthdeeoallfbjmaaDoor.Th
open Go.RowKit Go.Proofs.YthdeeoallfbjmaaDoorW.PrintWords Go.Proofs.YthdeeoallfbjmaaDoorW.PrintLast Go.Proofs.YthdeeoallfbjmaaDoorW.PrintMore Go.Proofs.YthdeeoallfbjmaaDoor.PA Bit Flo
def f32 : Fmt := ⟨23, -149, 255, by decide, by decide⟩
def f64 : Fmt := ⟨52, -1074, 2047, by decide, by decide⟩
def fmt (w : Int) : Fmt := if w = 32 then f32 else f64
def opn (w : Int) (a : Nat) : Bool × Int × Int × Int :=
  let F := fmt w
  let m := magN w a
  if m = 0 then (sgB w a, 0, 0, 0) else if m < F.inf then (sgB w a, 1, F.ex m, (F.sg m : Int)) else if m = F.inf then (sgB w a, 2, 0, 0) else (false, 3, 0, 0)

theorem ones32 : shape_format_ones.f 8 23 = some 255 := by decide +kernel
theorem low32 : shape_format_low.f 8 23 = some (-149) := by decide +kernel
theorem inf32 : f32.inf = 2139095040 := by decide
theorem sg32 (m : Nat) : f32.sg m = if m < 8388608 then m else 8388608 + m % 8388608 := by
  unfold Fmt.sg; rw [show (2 : Nat) ^ f32.f = 8388608 by decide]
theorem ex32 (m : Nat) : f32.ex m = if m < 8388608 then (-149 : Int) else ((m / 8388608 : Nat) : Int) - 1 + (-149) := by
  unfold Fmt.ex; rw [show (2 : Nat) ^ f32.f = 8388608 by decide]; rfl
theorem ones64 : shape_format_ones.f 11 52 = some 2047 := by decide +kernel
theorem low64 : shape_format_low.f 11 52 = some (-1074) := by decide +kernel
theorem inf64 : f64.inf = 9218868437227405312 := by decide
theorem sg64 (m : Nat) : f64.sg m = if m < 4503599627370496 then m else 4503599627370496 + m % 4503599627370496 := by
  unfold Fmt.sg; rw [show (2 : Nat) ^ f64.f = 4503599627370496 by decide]
theorem ex64 (m : Nat) : f64.ex m = if m < 4503599627370496 then (-1074 : Int) else ((m / 4503599627370496 : Nat) : Int) - 1 + (-1074) := by
  unfold Fmt.ex; rw [show (2 : Nat) ^ f64.f = 4503599627370496 by decide]; rfl
end Go.Proofs.YthdeeoallfbjmaaDoor.Th
end
