/- What the Go functions that the statement ProductMuls reaches compute, and the mathematics on it, in the order in which one leans on the other; for every input. -/
import Derived.Test.YtgcgheilbngcoaaVProductMuls0
import Derived.Test.YtgcgheilbngcoaaMProductMuls0
import Derived.Test.YtgcgheilbngcoaaMProductMuls1
import Derived.Deep.RegionHeld3
import Derived.Shelf.Spec.BitsCarry
import Derived.Deep.DeepCutAuto
namespace Go.Proofs.Ytgcgheilbngcoaa.PA
open Go.RowKit Go.Proofs.YtgcgheilbngcoaaW.PrintWords Go.Proofs.YtgcgheilbngcoaaW.PrintLast Go.Proofs.YtgcgheilbngcoaaW.PrintMore
attribute [local go_sem] max2_int min2_int max_two min_two max_three min_three max_four min_four   -- for this text's walks alone
set_option linter.unusedVariables false
set_option linter.unusedSimpArgs false
set_option maxHeartbeats 8000000
set_option maxRecDepth 100000
def r1_Len.l0 : Nat → Int → Int → Option (Int)
 | 0, _, _ => none
 | k + 1, x3, x4 => if x4 > 0 then (r1_Len.l0 k (wrap64 (x3 + 1)) (IntKind.u64.wrap (Int.tdiv x4 2))) else (some x3)
def r1_Len.f (k : Nat) (l0_0 : List Int) : Option (Int) := if (l0_0.length : Int) = 0 then (some 0) else (if 0 ≤ (wrap64 ((l0_0.length : Int) - 1)) then (if (wrap64 ((l0_0.length : Int) - 1)) < (l0_0.length : Int) then (r1_Len.l0 k (wrap64 (32 * (wrap64 ((l0_0.length : Int) - 1)))) (rd l0_0 (wrap64 ((l0_0.length : Int) - 1)))) else (none)) else (none))
theorem r1_Len.mono_l : ∀ k, (∀ y0 y1, LeO (r1_Len.l0 k y0 y1) (r1_Len.l0 (k + 1) y0 y1))
 | 0 => fun _ _ r h => by simp [r1_Len.l0] at h
 | k + 1 => by
  have ih0 := r1_Len.mono_l k
  ·intro y0 y1
   unfold r1_Len.l0
   repeat' first
   | (with_reducible exact ih0 _ _)
   | (with_reducible exact LeO.refl _)
   | (with_reducible exact LeO.none _)
   | (with_reducible refine LeO.ite ?_ ?_)
   | (with_reducible refine LeO.bind ?_ (fun _ => ?_))
   | exact ih0 _ _
   | exact LeO.none _
   | refine LeO.ite ?_ ?_
   | refine LeO.bind ?_ (fun _ => ?_)
theorem r1_Len.mono : ∀ a0 k, LeO (r1_Len.f k a0) (r1_Len.f (k + 1) a0) := by
 intro a0 k
 have ih0 := r1_Len.mono_l k
 unfold r1_Len.f
 repeat' first
   | (with_reducible exact ih0 _ _)
   | (with_reducible exact LeO.refl _)
   | (with_reducible exact LeO.none _)
   | (with_reducible refine LeO.ite ?_ ?_)
   | (with_reducible refine LeO.bind ?_ (fun _ => ?_))
   | exact ih0 _ _
   | exact LeO.none _
   | refine LeO.ite ?_ ?_
   | refine LeO.bind ?_ (fun _ => ?_)
theorem r1_Len.calls (k : Nat) (A0_0 : Option Addr) (c0_0 : Nat) (l0_0 : List Int) (r : Int) (w : World) (hr0_0 : Kd.C (Kd.int .u64) w A0_0 l0_0.length l0_0) (hc0_0 : l0_0.length ≤ c0_0) (h : r1_Len.f k l0_0 = some r) :
  Calls Try.prog 156 #[.agg #[.slice A0_0 l0_0.length c0_0]] w fun e w' => e = .returned (.int .i64 r) ∧ Below w.heap.size w w' := by
 have hu56 := Try.underlying56
 have HR0_0 := A_ hr0_0;have HC0_0 := A_ hc0_0;clear hr0_0 hc0_0
 have HB := A_ (Below.refl w.heap.size w)
 have H : (if (l0_0.length : Int) = 0 then (some 0) else (if 0 ≤ (wrap64 ((l0_0.length : Int) - 1)) then (if (wrap64 ((l0_0.length : Int) - 1)) < (l0_0.length : Int) then (r1_Len.l0 k (wrap64 (32 * (wrap64 ((l0_0.length : Int) - 1)))) (rd l0_0 (wrap64 ((l0_0.length : Int) - 1)))) else (none)) else (none))) = some r := h
 clear h
 by_cases c2 : (l0_0.length : Int) = 0
 ·rw [if_pos c2] at H
  have c2b0 : ((l0_0.length : Int) == 0) = true := beq_iff_eq.mpr c2
  have c2b1 : ((l0_0.length : Int) != 0) = false := bne_eq_false_iff_eq.mpr c2
  clear c2
  obtain rfl := Option.some.inj H
  go_enter Try.func156, Try.ntmps156
  go_wp2_with (first | ((with_reducible refine gate_dst (N := 1) rfl ?_); refine be_ 1 #[.slice A0_0 l0_0.length c0_0] 56 ?_; intro gb237 hg w3 hbox hb; have n0_ := A_ (below_step (hb_ HB.out) hb); have n1_ := A_ (hbox); have n2_ := A_ (sz_ hg (hb_ HB.out)); have n3_ := A_ (sz_ hg (hb_ HB.out)); clear HB; have HB := n0_; have BK237 := n1_; have GW237 := n2_; have GE237 := n3_; clear n0_ n1_ n2_ n3_; clear hb hbox hg; have hcz4_0 : w3.cell? ⟨gb237, 0, none⟩ = some (.slice A0_0 l0_0.length c0_0) := bc_ BK237.out 0; have hfz4_0 := blk_frozen BK237.out 0))
  go_ret
  exact ⟨er_, hb1_ HB.out GE237.out⟩
 ·rw [if_neg c2] at H
  have c2b0 : ((l0_0.length : Int) == 0) = false := beq_eq_false_iff_ne.mpr c2
  have c2b1 : ((l0_0.length : Int) != 0) = true := bne_iff_ne.mpr c2
  have c2b2 : ¬ (l0_0 = []) := fun h_ => c2 (by rw [h_]; rfl)
  obtain ⟨ji5, hji5⟩ : ∃ j_ : Int, (wrap64 ((l0_0.length : Int) - 1)) = j_ := ⟨_, rfl⟩
  replace H : (if 0 ≤ (ji5) then (if (ji5) < (l0_0.length : Int) then (r1_Len.l0 k (wrap64 (32 * (ji5))) (rd l0_0 (ji5))) else (none)) else (none)) = some r := by first | (rw [hji5] at H; exact H) | (simp only [hji5] at H ⊢; exact H)
  have hji5w : (IntKind.i64.wrap ((l0_0.length : Int) - 1)) = ji5 := (i64_w _).trans hji5
  by_cases c6 : 0 ≤ (ji5)
  ·rw [if_pos c6] at H
   have c6b0 : decide (0 ≤ (ji5)) = true := decide_eq_true c6
   clear c6
   by_cases c7 : (ji5) < (l0_0.length : Int)
   ·rw [if_pos c7] at H
    have c7b0 : decide ((ji5) < (l0_0.length : Int)) = true := decide_eq_true c7
    clear c7
    have H' := A_ H
    clear H
    go_enter Try.func156, Try.ntmps156
    go_wp2_with (first | ((with_reducible refine gate_dst (N := 1) rfl ?_); refine be_ 1 #[.slice A0_0 l0_0.length c0_0] 56 ?_; intro gb237 hg w8 hbox hb; have n0_ := A_ (below_step (hb_ HB.out) hb); have n1_ := A_ (hbox); have n2_ := A_ (sz_ hg (hb_ HB.out)); have n3_ := A_ (sz_ hg (hb_ HB.out)); clear HB; have HB := n0_; have BK237 := n1_; have GW237 := n2_; have GE237 := n3_; clear n0_ n1_ n2_ n3_; clear hb hbox hg; have hcz9_0 : w8.cell? ⟨gb237, 0, none⟩ = some (.slice A0_0 l0_0.length c0_0) := bc_ BK237.out 0; have hfz9_0 := blk_frozen BK237.out 0; have p238 : 0 ≤ ((ji5) : Int) := of_decide_eq_true (by first | (with_reducible assumption) | assumption); have q238 : (ji5) < (l0_0.length : Int) := of_decide_eq_true (by first | (with_reducible assumption) | assumption); obtain ⟨ad238, e238, hx238_0⟩ := Kd.at_int HR0_0.out (ji5) p238 q238; cases e238; replace hx238_0 := (HB.out.cell (World.block_lt_of_cell? w _ hx238_0)).trans hx238_0; replace p238 := eq_true p238; replace q238 := eq_true q238))
    go_loopg [3, 4] k (fun kq v3 v4 w' => ∃ (x3_1 : Int) (x4_1 : Int), v3 = .int .i64 x3_1 ∧ v4 = .int .u64 x4_1 ∧ Aside0 (r1_Len.l0 kq x3_1 x4_1 = some r) ∧ Aside0 (kq ≤ k) ∧ Aside0 (w'.heap[gb237]? = some (.cells #[(.slice (some ad238) l0_0.length c0_0)] 56 (0, 0))) ∧ Aside0 (Below w.heap.size w w'))
    case atStart => exact ⟨(wrap64 (32 * (ji5))), (rd l0_0 (ji5)), (by first | rfl | (simp; done) | (simp only [← hji5] <;> (first | rfl | simp)) | (simp [*]; done)), (by first | rfl | (simp; done) | (simp only [← hji5] <;> (first | rfl | simp)) | (simp [*]; done)), H', ⟨Nat.le_refl _⟩, ⟨bk_ BK237.out⟩, ⟨hb1_ HB.out GE237.out⟩⟩
    case round =>
     clear H'
     try clear c1
     try clear c2
     try clear c2b0
     try clear c2b1
     try clear c2b2
     try clear p2
     try clear q2
     try clear hx2
     try clear c6
     try clear c6b0
     try clear p6
     try clear c7
     try clear c7b0
     try clear hcz4_0
     try clear hcz9_0
     try clear hfz4_0
     try clear hfz9_0
     try clear hx238_0
     try clear p238
     try clear q238
     obtain ⟨x3_1, x4_1, rfl, rfl, HA, HK1, BK237, HB⟩ := hrel
     cases gk with
     | zero => exact absurd HA.out (by simp [r1_Len.l0])
     | succ k1 =>
      have H := HA.out
      clear HA
      simp only [r1_Len.l0] at H
      by_cases c10 : x4_1 > 0
      ·rw [if_pos c10] at H
       have c10b0 : decide (0 < x4_1) = true := decide_eq_true c10
       clear c10
       have H' := A_ H
       clear H
       go_wp2
       go_roundg k1
       case measure => have := HK1.out; omega
       case rel => exact ⟨(wrap64 (x3_1 + 1)), (IntKind.u64.wrap (Int.tdiv x4_1 2)), sm_, sm_, H', ⟨by have := HK1.out; omega⟩, ⟨bk_ BK237.out⟩, ⟨hb1_ HB.out GE237.out⟩⟩
      ·rw [if_neg c10] at H
       have c10b0 : decide (0 < x4_1) = false := decide_eq_false c10
       clear c10
       obtain rfl := Option.some.inj H
       go_wp2
       go_ret
       exact ⟨by first | rfl | (simp [errW_none, errW_some] <;> rfl) | (simp only [← hji5]; first | rfl | (simp [errW_none, errW_some] <;> rfl)) | (simp [*, errW_none, errW_some] <;> rfl), hb1_ HB.out GE237.out⟩
   ·rw [if_neg c7] at H
    exact absurd H (by simp)
  ·rw [if_neg c6] at H
   exact absurd H (by simp)
end Go.Proofs.Ytgcgheilbngcoaa.PA
namespace Dig
def dgB (B n : Nat) : List Int := if _h : n = 0 ∨ B < 2 then [] else ((n % B : Nat) : Int) :: dgB B (n / B)
termination_by n
decreasing_by exact Nat.div_lt_self (by omega) (by omega)
def valB (B : Nat) : List Int → Nat
  | [] => 0
  | d :: l => d.toNat + B * valB B l
def OkB (B : Nat) (l : List Int) : Prop := ∀ d ∈ l, 0 ≤ d ∧ d < B
section
variable {B : Nat}
theorem dgB_zero : dgB B 0 = [] := by rw [dgB, dif_pos (.inl rfl)]
theorem dgB_pos (hB : 2 ≤ B) {n : Nat} (h : 0 < n) : dgB B n = ((n % B : Nat) : Int) :: dgB B (n / B) := by rw [dgB, dif_neg (by omega)]
theorem OkB.nil : OkB B [] := fun _ h => by cases h
theorem OkB.cons {d : Int} {l : List Int} (h : 0 ≤ d ∧ d < B) (k : OkB B l) : OkB B (d :: l) := fun x hx => by
  rcases List.mem_cons.1 hx with rfl | hx
  · exact h
  · exact k x hx
theorem OkB.snoc {d : Int} {l : List Int} (k : OkB B l) (h : 0 ≤ d ∧ d < B) : OkB B (l ++ [d]) := fun x hx => by
  rcases List.mem_append.1 hx with hx | hx
  · exact k x hx
  · rcases List.mem_singleton.1 hx with rfl; exact h
theorem OkB.head {d : Int} {l : List Int} (k : OkB B (d :: l)) : 0 ≤ d ∧ d < B := k d List.mem_cons_self
theorem OkB.tail {d : Int} {l : List Int} (k : OkB B (d :: l)) : OkB B l := fun x hx => k x (List.mem_cons_of_mem _ hx)
theorem OkB.take {l : List Int} (k : OkB B l) (i : Nat) : OkB B (l.take i) := fun x hx => k x (List.mem_of_mem_take hx)
theorem okB_dg (hB : 2 ≤ B) (n : Nat) : OkB B (dgB B n) := by
  induction n using Nat.strongRecOn with
  | _ n ih =>
    rcases Nat.eq_zero_or_pos n with h | h
    · subst h; rw [dgB_zero]; exact OkB.nil
    · rw [dgB_pos hB h]
      refine OkB.cons ⟨by omega, ?_⟩ (ih _ (Nat.div_lt_self h (by omega)))
      have := Nat.mod_lt n (show 0 < B by omega)
      omega
theorem valB_dg (hB : 2 ≤ B) (n : Nat) : valB B (dgB B n) = n := by
  induction n using Nat.strongRecOn with
  | _ n ih =>
    rcases Nat.eq_zero_or_pos n with h | h
    · subst h; rw [dgB_zero]; rfl
    · rw [dgB_pos hB h, valB, ih _ (Nat.div_lt_self h (by omega)), Int.toNat_natCast]
      exact Nat.mod_add_div n B
theorem valB_append (l m : List Int) : valB B (l ++ m) = valB B l + B ^ l.length * valB B m := by
  induction l with
  | nil => simp [valB]
  | cons d l ih =>
    simp only [List.cons_append, valB, ih, List.length_cons, Nat.pow_succ, Nat.mul_add]
    rw [Nat.add_assoc, Nat.mul_comm (B ^ l.length) B, Nat.mul_assoc]
theorem valB_snoc (l : List Int) (d : Int) : valB B (l ++ [d]) = valB B l + B ^ l.length * d.toNat := by rw [valB_append]; simp [valB]
theorem valB_lt {l : List Int} (h : OkB B l) : valB B l < B ^ l.length := by
  induction l with
  | nil => simp [valB]
  | cons d l ih =>
    have h1 := ih h.tail
    have h2 := h.head
    simp only [valB, List.length_cons, Nat.pow_succ]
    have h4 : B * (valB B l + 1) ≤ B * B ^ l.length := Nat.mul_le_mul_left _ h1
    rw [Nat.mul_add, Nat.mul_one, Nat.mul_comm B (B ^ l.length)] at h4
    have : d.toNat < B := by omega
    omega
theorem valB_zeros (n : Nat) : valB B (List.replicate n 0) = 0 := by
  induction n with
  | zero => rfl
  | succ n ih => rw [List.replicate_succ, valB, ih]; simp
theorem okB_zeros (hB : 2 ≤ B) (n : Nat) : OkB B (List.replicate n 0) := fun x hx => by
  rw [List.eq_of_mem_replicate hx]; omega
theorem atB_val (hB : 2 ≤ B) {l : List Int} (h : OkB B l) (i : Nat) : (l.getD i 0).toNat = valB B l / B ^ i % B := by
  induction l generalizing i with
  | nil => simp [valB]
  | cons d l ih =>
    have h2 := h.head
    have h3 : d.toNat < B := by omega
    cases i with
    | zero =>
      simp only [List.getD_cons_zero, valB, Nat.pow_zero, Nat.div_one, Nat.add_mul_mod_self_left]
      rw [Nat.mod_eq_of_lt h3]
    | succ i =>
      simp only [List.getD_cons_succ, valB]
      rw [ih h.tail, Nat.pow_succ, Nat.mul_comm (B ^ i) B, ← Nat.div_div_eq_div_mul, Nat.add_mul_div_left _ _ (show 0 < B by omega), Nat.div_eq_of_lt h3, Nat.zero_add]
theorem okB_getD (hB : 2 ≤ B) {l : List Int} (h : OkB B l) (i : Nat) : 0 ≤ l.getD i 0 ∧ l.getD i 0 < B := by
  rcases Nat.lt_or_ge i l.length with hi | hi
  · rw [List.getD_eq_getElem?_getD, List.getElem?_eq_getElem hi]; exact h _ (List.getElem_mem hi)
  · rw [List.getD_eq_getElem?_getD, List.getElem?_eq_none hi]; simp; omega
theorem getDB_val (hB : 2 ≤ B) {l : List Int} (h : OkB B l) (i : Nat) : l.getD i 0 = ((valB B l / B ^ i % B : Nat) : Int) := by
  have h1 := atB_val hB h i
  have h2 := okB_getD hB h i
  rw [← h1]; omega
theorem lengthB_le (hB : 2 ≤ B) {n k : Nat} (h : n < B ^ k) : (dgB B n).length ≤ k := by
  induction k generalizing n with
  | zero => obtain rfl : n = 0 := by simpa using h
            rw [dgB_zero]; simp
  | succ k ih =>
    rcases Nat.eq_zero_or_pos n with h0 | h0
    · subst h0; rw [dgB_zero]; simp
    · rw [dgB_pos hB h0, List.length_cons]
      have : n / B < B ^ k := by rw [Nat.div_lt_iff_lt_mul (by omega)]; rwa [Nat.pow_succ] at h
      have := ih this
      omega
theorem dgB_val (hB : 2 ≤ B) {l : List Int} (h : OkB B l) (h0 : ∀ d, l.getLast? = some d → d ≠ 0) : dgB B (valB B l) = l := by
  induction l with
  | nil => rw [valB, dgB_zero]
  | cons d l ih =>
    have h2 := h.head
    have h4 : d.toNat < B := by omega
    have h3 : dgB B (valB B l) = l := by
      refine ih h.tail fun e he => ?_
      cases l with
      | nil => cases he
      | cons e' l' => exact h0 e (by rwa [List.getLast?_cons_cons])
    have hp : 0 < valB B (d :: l) := by
      rw [valB]
      rcases Nat.eq_zero_or_pos (valB B l) with hv | hv
      · rw [hv, dgB_zero] at h3
        subst h3
        have := h0 d rfl
        omega
      · have : 1 ≤ B * valB B l := Nat.mul_pos (by omega) hv
        omega
    rw [dgB_pos hB hp, valB, Nat.add_mul_mod_self_left, Nat.add_mul_div_left _ _ (by omega), Nat.mod_eq_of_lt h4, Nat.div_eq_of_lt h4, Nat.zero_add, h3, Int.toNat_of_nonneg h2.1]
theorem valB_set {l : List Int} (h : OkB B l) (i : Nat) (hi : i < l.length) (x : Int) : valB B (l.set i x) + B ^ i * (l.getD i 0).toNat = valB B l + B ^ i * x.toNat := by
  induction l generalizing i with
  | nil => simp at hi
  | cons d l ih =>
    cases i with
    | zero => simp only [List.set_cons_zero, valB, Nat.pow_zero, List.getD_cons_zero, Nat.one_mul]; omega
    | succ i =>
      have h1 := ih h.tail i (by simpa using hi)
      simp only [List.set_cons_succ, valB, List.getD_cons_succ, Nat.pow_succ]
      have h2 := congrArg (B * ·) h1
      simp only [Nat.mul_add] at h2
      rw [Nat.mul_comm (B ^ i) B, Nat.mul_assoc, Nat.mul_assoc]
      omega
theorem okB_set {l : List Int} (h : OkB B l) (i : Nat) (x : Int) (hx : 0 ≤ x ∧ x < B) : OkB B (l.set i x) := fun y hy => by
  rcases List.mem_or_eq_of_mem_set hy with hy | rfl
  · exact h y hy
  · exact hx
theorem modB_succ (n i : Nat) : n % B ^ (i + 1) = n % B ^ i + B ^ i * (n / B ^ i % B) := by
  rw [Nat.pow_succ, Nat.mod_mul]
theorem divB_step (n i : Nat) : n / B ^ i = n / B ^ (i + 1) * B + n / B ^ i % B := by
  rw [Nat.pow_succ, ← Nat.div_div_eq_div_mul]
  have := Nat.div_add_mod (n / B ^ i) B
  rw [Nat.mul_comm] at this
  omega
end
theorem W2 : 2 ≤ 4294967296 := by decide
def dg (n : Nat) : List Int := dgB 4294967296 n
def val (l : List Int) : Nat := valB 4294967296 l
def Ok (l : List Int) : Prop := ∀ d ∈ l, 0 ≤ d ∧ d < 4294967296
theorem Ok.up {l : List Int} (h : Ok l) : OkB 4294967296 l := h
theorem Ok.nil : Ok [] := fun _ h => by cases h
theorem Ok.cons {d : Int} {l : List Int} (h : 0 ≤ d ∧ d < 4294967296) (k : Ok l) : Ok (d :: l) := OkB.cons (B := 4294967296) h k
theorem Ok.snoc {d : Int} {l : List Int} (k : Ok l) (h : 0 ≤ d ∧ d < 4294967296) : Ok (l ++ [d]) := OkB.snoc (B := 4294967296) k h
theorem Ok.take {l : List Int} (k : Ok l) (i : Nat) : Ok (l.take i) := OkB.take (B := 4294967296) k i
theorem ok_set {l : List Int} (h : Ok l) (i : Nat) (x : Int) (hx : 0 ≤ x ∧ x < 4294967296) : Ok (l.set i x) := okB_set (B := 4294967296) h i x hx
theorem ok_zeros (n : Nat) : Ok (List.replicate n 0) := okB_zeros W2 n
theorem ok_dg (n : Nat) : Ok (dg n) := okB_dg W2 n
theorem dg_zero : dg 0 = [] := dgB_zero
theorem val_dg (n : Nat) : val (dg n) = n := valB_dg W2 n
theorem val_nil : val [] = 0 := rfl
theorem val_cons (d : Int) (l : List Int) : val (d :: l) = d.toNat + 4294967296 * val l := rfl
theorem val_snoc (l : List Int) (d : Int) : val (l ++ [d]) = val l + 4294967296 ^ l.length * d.toNat := valB_snoc l d
theorem val_lt {l : List Int} (h : Ok l) : val l < 4294967296 ^ l.length := valB_lt h
theorem val_zeros (n : Nat) : val (List.replicate n 0) = 0 := valB_zeros n
theorem val_set {l : List Int} (h : Ok l) (i : Nat) (hi : i < l.length) (x : Int) : val (l.set i x) + 4294967296 ^ i * (l.getD i 0).toNat = val l + 4294967296 ^ i * x.toNat := valB_set h i hi x
theorem dg_val {l : List Int} (h : Ok l) (h0 : ∀ d, l.getLast? = some d → d ≠ 0) : dg (val l) = l := dgB_val W2 h h0
theorem getD_val {l : List Int} (h : Ok l) (i : Nat) : l.getD i 0 = ((val l / 4294967296 ^ i % 4294967296 : Nat) : Int) := getDB_val W2 h i
theorem getD_dg (n i : Nat) : (dg n).getD i 0 = ((n / 4294967296 ^ i % 4294967296 : Nat) : Int) := by rw [getD_val (ok_dg n), val_dg]
theorem len_le {n k : Nat} (h : n < 4294967296 ^ k) : (dg n).length ≤ k := lengthB_le W2 h
theorem lt_len (n : Nat) : n < 4294967296 ^ (dg n).length := by
  have := val_lt (ok_dg n); rwa [val_dg] at this
theorem lt_of_len {n i : Nat} (h : (dg n).length ≤ i) : n < 4294967296 ^ i := Nat.lt_of_lt_of_le (lt_len n) (Nat.pow_le_pow_right (by decide) h)
theorem len_pos {n : Nat} : 0 < (dg n).length ↔ 0 < n := by
  rcases Nat.eq_zero_or_pos n with h | h
  · subst h; rw [dg_zero]; simp
  · unfold dg; rw [dgB_pos W2 h]; simp [h]
theorem mod_len {n i : Nat} (h : (dg n).length ≤ i) : n % 4294967296 ^ i = n := Nat.mod_eq_of_lt (lt_of_len h)
theorem mod_succ (n i : Nat) : n % 4294967296 ^ (i + 1) = n % 4294967296 ^ i + 4294967296 ^ i * (n / 4294967296 ^ i % 4294967296) := modB_succ n i
theorem div_step (n i : Nat) : n / 4294967296 ^ i = n / 4294967296 ^ (i + 1) * 4294967296 + n / 4294967296 ^ i % 4294967296 := divB_step n i
theorem word_lt (n i : Nat) : n / 4294967296 ^ i % 4294967296 < 4294967296 := Nat.mod_lt _ (by decide)
end Dig
section
set_option linter.unusedVariables false
set_option linter.unusedSimpArgs false
namespace Go.Proofs.Ytgcgheilbngcoaa.Th
open Go.RowKit Go.Proofs.YtgcgheilbngcoaaW.PrintWords Go.Proofs.YtgcgheilbngcoaaW.PrintLast Go.Proofs.YtgcgheilbngcoaaW.PrintMore Go.Proofs.Ytgcgheilbngcoaa.PA Dig

theorem at_dg (n i : Nat) : r1_at.f (dg n) i = some ((n / 4294967296 ^ i % 4294967296 : Nat) : Int) := by
  unfold r1_at.f
  by_cases h : (i : Int) < ((dg n).length : Int)
  · rw [if_pos h, if_pos (by omega)]
    unfold rd
    rw [Int.toNat_natCast, getD_dg]
  · rw [if_neg h]
    have h1 : n / 4294967296 ^ i = 0 := by
      refine Nat.div_eq_of_lt ?_
      have h1 := val_lt (ok_dg n)
      rw [val_dg] at h1
      exact Nat.lt_of_lt_of_le h1 (Nat.pow_le_pow_right (by decide) (by omega))
    rw [h1]; rfl
theorem trim_from (l : List Int) (hl : Ok l) (hn : l.length < 4611686018427387904) (i : Nat) : i ≤ l.length → val (l.take i) = val l → Ev (fun k => r1_trim.l0 k l i) (dg (val l)) := by
  induction i with
  | zero =>
    intro _ hv
    refine Ev.step (fun _ => r1_trim.l0.eq_2 ..) ?_
    refine Ev.neg (by omega) (Ev.pos (by omega) (Ev.pos (by omega) (Ev.out ?_)))
    rw [← hv]
    simp [val_nil, dg_zero]
  | succ i ih =>
    intro hi hv
    refine Ev.step (fun _ => r1_trim.l0.eq_2 ..) ?_
    have e : wrap64 (((i + 1 : Nat) : Int) - 1) = i := by rw [w64_id (by omega) (by omega)]; omega
    rw [e]
    refine Ev.pos (by omega) (Ev.pos (by omega) (Ev.pos (by omega) ?_))
    have er : rd l (i : Int) = l.getD i 0 := by unfold rd; rw [Int.toNat_natCast]
    rw [er]
    have et : l.take (i + 1) = l.take i ++ [l.getD i 0] := by
      rw [List.take_succ_eq_append_getElem (by omega), List.getD_eq_getElem?_getD, List.getElem?_eq_getElem (by omega)]; rfl
    by_cases h : l.getD i 0 = 0
    · refine Ev.pos h (ih (by omega) ?_)
      rw [et, val_snoc, h] at hv
      simpa using hv
    · refine Ev.neg h (Ev.pos (by omega) (Ev.pos (by omega) (Ev.out ?_)))
      rw [← hv, Int.toNat_natCast]
      refine (dg_val (hl.take _) fun d hd => ?_).symm
      rw [et, List.getLast?_concat] at hd
      injection hd with hd
      rw [← hd]; exact h
theorem trim_val (l : List Int) (hl : Ok l) (hn : l.length < 4611686018427387904) : Ev (fun k => r1_trim.f k l) (dg (val l)) :=
  trim_from l hl hn l.length (Nat.le_refl _) (by rw [List.take_length])

theorem of_dg (n : Nat) (hn : n < 18446744073709551616) : Ev (fun k => r1_Of.f k n) (dg n) := by
  unfold r1_Of.f
  have e1 : Int.tmod (n : Int) 4294967296 = ((n % 4294967296 : Nat) : Int) := by rw [Int.tmod_eq_emod_of_nonneg (by omega)]; omega
  have e2 : IntKind.u64.wrap (Int.tdiv (n : Int) 4294967296) = ((n / 4294967296 : Nat) : Int) := by
    rw [Int.tdiv_eq_ediv_of_nonneg (by omega), u64_id (by omega) (by omega)]; omega
  rw [e1, e2]
  refine Ev.bind (trim_val _ (Ok.cons (by omega) (Ok.cons (by omega) Ok.nil)) (by simp)) (Ev.out ?_)
  congr 1
  simp only [val_cons, val_nil, Int.toNat_natCast]
  omega

theorem add_loop (m n : Nat) (hm : (dg m).length < 1000000000000) (hn : (dg n).length < 1000000000000) (d : Nat) : ∀ (x : List Int) (c i : Nat), Ok x → x.length = i → c ≤ 1 → i ≤ max (dg m).length (dg n).length + 1 →
    val x + c * 4294967296 ^ i = m % 4294967296 ^ i + n % 4294967296 ^ i → max (dg m).length (dg n).length + 1 - i = d →
    Ev (fun k => r1_Add.l0 k x c i (dg m) (dg n)) (dg (m + n)) := by
  induction d with
  | zero =>
    intro x c i hx hl hc hi hv hd
    have h1 := mod_len (n := m) (i := i) (by omega)
    have h2 := mod_len (n := n) (i := i) (by omega)
    rw [h1, h2] at hv
    refine Ev.step (fun _ => r1_Add.l0.eq_2 ..) ?_
    have hm' : m < 4294967296 ^ (i - 1) := by
      have h1 := val_lt (ok_dg m)
      rw [val_dg] at h1
      exact Nat.lt_of_lt_of_le h1 (Nat.pow_le_pow_right (by decide) (by omega))
    have hn' : n < 4294967296 ^ (i - 1) := by
      have h1 := val_lt (ok_dg n)
      rw [val_dg] at h1
      exact Nat.lt_of_lt_of_le h1 (Nat.pow_le_pow_right (by decide) (by omega))
    have e : 4294967296 ^ i = 4294967296 ^ (i - 1) * 4294967296 := by rw [← Nat.pow_succ]; congr 1; omega
    have hc0 : c = 0 := by
      rcases Nat.eq_zero_or_pos c with h | h
      · exact h
      · obtain rfl : c = 1 := by omega
        rw [e] at hv
        omega
    subst hc0
    have hmx : mx ((dg m).length : Int) ((dg n).length : Int) = ((max (dg m).length (dg n).length : Nat) : Int) := by unfold mx; split <;> omega
    rw [hmx]
    refine Ev.neg (by omega) ?_
    refine Ev.step (fun _ => r1_Add.j1.eq_2 ..) ?_
    refine Ev.neg (by simp) (Ev.bind (trim_val x hx (by omega)) (Ev.out ?_))
    congr 1
    omega
  | succ d ih =>
    intro x c i hx hl hc hi hv hd
    refine Ev.step (fun _ => r1_Add.l0.eq_2 ..) ?_
    have hmx : mx ((dg m).length : Int) ((dg n).length : Int) = ((max (dg m).length (dg n).length : Nat) : Int) := by unfold mx; split <;> omega
    rw [hmx]
    -- the round
    have round : Ev (fun k => r1_Add.j1 k x c i true (dg m) (dg n)) (dg (m + n)) := by
      refine Ev.step (fun _ => r1_Add.j1.eq_2 ..) ?_
      refine Ev.pos rfl (Ev.bs (at_dg m i) (Ev.bs (at_dg n i) (Ev.pos (by omega) ?_)))
      have h1 := word_lt m i
      have h2 := word_lt n i
      have s1 := mod_succ m i
      have s2 := mod_succ n i
      generalize m / 4294967296 ^ i % 4294967296 = A at *
      generalize n / 4294967296 ^ i % 4294967296 = A' at *
      rw [u64_id (n := (A : Int) + A') (by omega) (by omega), u64_id (by omega) (by omega), Int.tmod_eq_emod_of_nonneg (by omega), Int.tdiv_eq_ediv_of_nonneg (by omega), u64_id (by omega) (by omega), w64_id (by omega) (by omega)]
      rw [show ((A : Int) + A' + c) % 4294967296 = (((A + A' + c) % 4294967296 : Nat) : Int) by omega, show ((A : Int) + A' + c) / 4294967296 = (((A + A' + c) / 4294967296 : Nat) : Int) by omega, show (i : Int) + 1 = ((i + 1 : Nat) : Int) by omega]
      refine ih (x ++ [(((A + A' + c) % 4294967296 : Nat) : Int)]) ((A + A' + c) / 4294967296) (i + 1) (hx.snoc (by omega)) (by simp [hl]) (by omega) (by omega) ?_ (by omega)
      rw [val_snoc, hl, s1, s2, Int.toNat_natCast, Nat.pow_succ]
      have h4 : 4294967296 ^ i * ((A + A' + c) % 4294967296) + (A + A' + c) / 4294967296 * (4294967296 ^ i * 4294967296) = 4294967296 ^ i * A + 4294967296 ^ i * A' + c * 4294967296 ^ i := by
        have h5 := Nat.mod_add_div (A + A' + c) 4294967296
        have h6 := congrArg (4294967296 ^ i * ·) h5
        simp only [Nat.mul_add] at h6
        rw [Nat.mul_comm c, ← h6]
        congr 1
        rw [Nat.mul_comm ((A + A' + c) / 4294967296), Nat.mul_assoc]
      omega
    by_cases h : (i : Int) < ((max (dg m).length (dg n).length : Nat) : Int)
    · exact Ev.pos h round
    · refine Ev.neg h ?_
      by_cases h0 : c = 0
      · subst h0
        have h1 := mod_len (n := m) (i := i) (by omega)
        have h2 := mod_len (n := n) (i := i) (by omega)
        rw [h1, h2] at hv
        refine Ev.step (fun _ => r1_Add.j1.eq_2 ..) ?_
        refine Ev.neg (by simp) (Ev.bind (trim_val x hx (by omega)) (Ev.out ?_))
        congr 1
        omega
      · have : decide ((c : Int) > 0) = true := by simp; omega
        rw [this]; exact round
theorem add_dg (m n : Nat) (hm : (dg m).length < 1000000000000) (hn : (dg n).length < 1000000000000) : Ev (fun k => r1_Add.f k (dg m) (dg n)) (dg (m + n)) := by
  have h := add_loop m n hm hn _ [] 0 0 Ok.nil rfl (by omega) (by omega) (by simp [val_nil, Nat.mod_one]) rfl
  exact h

theorem sub_loop (m n : Nat) (hmn : n ≤ m) (hm : (dg m).length < 1000000000000) (d : Nat) : ∀ (x : List Int) (c i : Nat), Ok x → x.length = i → c ≤ 1 → i ≤ (dg m).length →
    val x + n % 4294967296 ^ i = m % 4294967296 ^ i + c * 4294967296 ^ i → (dg m).length - i = d →
    Ev (fun k => r1_Sub.l0 k x c i (dg m) (dg n)) (dg (m - n)) := by
  induction d with
  | zero =>
    intro x c i hx hl hc hi hv hd
    have h1 := mod_len (n := m) (i := i) (by omega)
    have h2 : n % 4294967296 ^ i = n := Nat.mod_eq_of_lt (Nat.lt_of_le_of_lt hmn (lt_of_len (by omega)))
    rw [h1, h2] at hv
    have h3 := val_lt hx
    rw [hl] at h3
    have h4 := lt_of_len (n := m) (i := i) (by omega)
    refine Ev.step (fun _ => r1_Sub.l0.eq_2 ..) ?_
    refine Ev.neg (by omega) (Ev.bind (trim_val x hx (by omega)) (Ev.out ?_))
    congr 1
    rcases Nat.eq_zero_or_pos c with h | h
    · subst h; omega
    · obtain rfl : c = 1 := by omega
      omega
  | succ d ih =>
    intro x c i hx hl hc hi hv hd
    refine Ev.step (fun _ => r1_Sub.l0.eq_2 ..) ?_
    have er : rd (dg m) (i : Int) = ((m / 4294967296 ^ i % 4294967296 : Nat) : Int) := by unfold rd; rw [Int.toNat_natCast, getD_dg]
    refine Ev.pos (by omega) (Ev.pos (by omega) (Ev.bs (at_dg n i) (Ev.pos (by omega) ?_)))
    rw [er]
    have h1 := word_lt m i
    have h2 := word_lt n i
    have s1 := mod_succ m i
    have s2 := mod_succ n i
    generalize m / 4294967296 ^ i % 4294967296 = A at *
    generalize n / 4294967296 ^ i % 4294967296 = A' at *
    rw [u64_id (n := (A : Int) + 4294967296) (by omega) (by omega), u64_id (n := (A : Int) + 4294967296 - A') (by omega) (by omega), u64_id (n := (A : Int) + 4294967296 - A' - c) (by omega) (by omega), Int.tmod_eq_emod_of_nonneg (by omega), Int.tdiv_eq_ediv_of_nonneg (by omega),
      u64_id (n := ((A : Int) + 4294967296 - A' - c) / 4294967296) (by omega) (by omega), u64_id (by omega) (by omega), w64_id (by omega) (by omega)]
    rw [show ((A : Int) + 4294967296 - A' - c) % 4294967296 = (((A + 4294967296 - A' - c) % 4294967296 : Nat) : Int) by omega, show 1 - ((A : Int) + 4294967296 - A' - c) / 4294967296 = ((1 - (A + 4294967296 - A' - c) / 4294967296 : Nat) : Int) by omega, show (i : Int) + 1 = ((i + 1 : Nat) : Int) by omega]
    refine ih (x ++ [(((A + 4294967296 - A' - c) % 4294967296 : Nat) : Int)]) (1 - (A + 4294967296 - A' - c) / 4294967296) (i + 1) (hx.snoc (by omega)) (by simp [hl]) (by omega) (by omega) ?_ (by omega)
    rw [val_snoc, hl, s1, s2, Int.toNat_natCast, Nat.pow_succ]
    have h4 : c + (A + 4294967296 - A' - c) % 4294967296 + A' = A + 4294967296 * (1 - (A + 4294967296 - A' - c) / 4294967296) := by omega
    have h5 := congrArg (4294967296 ^ i * ·) h4
    simp only [Nat.mul_add] at h5
    rw [Nat.mul_comm (1 - _), Nat.mul_assoc]
    rw [Nat.mul_comm c] at hv
    omega
theorem sub_dg (m n : Nat) (hmn : n ≤ m) (hm : (dg m).length < 1000000000000) : Ev (fun k => r1_Sub.f k (dg m) (dg n)) (dg (m - n)) :=
  sub_loop m n hmn hm _ [] 0 0 Ok.nil rfl (by omega) (by omega) (by simp [val_nil, Nat.mod_one]) rfl

theorem shl_l2 (m q u : Nat) (hq : q < 1000000000) (hu : u ≤ 2147483648) (hu0 : 0 < u) (hm : (dg m).length < 1000000000000) (d : Nat) : ∀ (x : List Int) (c i : Nat), Ok x → x.length = q + i → c < u → i ≤ (dg m).length →
    val x + c * 4294967296 ^ (q + i) = (m % 4294967296 ^ i) * u * 4294967296 ^ q → (dg m).length - i = d →
    Ev (fun k => r1_Shl.l2 k x u c i (dg m)) (dg (m * u * 4294967296 ^ q)) := by
  induction d with
  | zero =>
    intro x c i hx hl hc hi hv hd
    have h1 := mod_len (n := m) (i := i) (by omega)
    rw [h1] at hv
    refine Ev.step (fun _ => r1_Shl.l2.eq_2 ..) ?_
    refine Ev.neg (by omega) (Ev.pos (by omega) (Ev.bind (trim_val _ (hx.snoc (by omega)) (by simp; omega)) (Ev.out ?_)))
    congr 1
    rw [val_snoc, hl, Int.toNat_natCast, Nat.mul_comm _ c]
    exact hv
  | succ d ih =>
    intro x c i hx hl hc hi hv hd
    refine Ev.step (fun _ => r1_Shl.l2.eq_2 ..) ?_
    have er : rd (dg m) (i : Int) = ((m / 4294967296 ^ i % 4294967296 : Nat) : Int) := by unfold rd; rw [Int.toNat_natCast, getD_dg]
    refine Ev.pos (by omega) (Ev.pos (by omega) (Ev.pos (by omega) ?_))
    rw [er]
    have h1 := word_lt m i
    have s1 := mod_succ m i
    generalize m / 4294967296 ^ i % 4294967296 = A at *
    have hau : A * u ≤ 4294967295 * u := Nat.mul_le_mul_right u (by omega)
    rw [← Int.natCast_mul, u64_id (n := ((A * u : Nat) : Int)) (by omega) (by omega), u64_id (by omega) (by omega), Int.tmod_eq_emod_of_nonneg (by omega), Int.tdiv_eq_ediv_of_nonneg (by omega), u64_id (by omega) (by omega), w64_id (by omega) (by omega)]
    rw [show (((A * u : Nat) : Int) + c) % 4294967296 = (((A * u + c) % 4294967296 : Nat) : Int) by omega, show (((A * u : Nat) : Int) + c) / 4294967296 = (((A * u + c) / 4294967296 : Nat) : Int) by omega, show (i : Int) + 1 = ((i + 1 : Nat) : Int) by omega]
    refine ih (x ++ [(((A * u + c) % 4294967296 : Nat) : Int)]) ((A * u + c) / 4294967296) (i + 1) (hx.snoc (by omega)) (by simp [hl]; omega) ?_ (by omega) ?_ (by omega)
    · rw [Nat.div_lt_iff_lt_mul (by decide)]; omega
    rw [val_snoc, hl, s1, Int.toNat_natCast, ← Nat.add_assoc, Nat.pow_succ]
    have h5 := Nat.mod_add_div (A * u + c) 4294967296
    have h6 := congrArg (4294967296 ^ (q + i) * ·) h5
    simp only [Nat.mul_add] at h6
    have h7 : 4294967296 ^ (q + i) * (A * u) = 4294967296 ^ i * A * u * 4294967296 ^ q := by
      rw [Nat.pow_add]; simp only [Nat.mul_comm, Nat.mul_left_comm, Nat.mul_assoc]
    have h8 : (m % 4294967296 ^ i + 4294967296 ^ i * A) * u * 4294967296 ^ q = (m % 4294967296 ^ i) * u * 4294967296 ^ q + 4294967296 ^ i * A * u * 4294967296 ^ q := by
      rw [Nat.add_mul, Nat.add_mul]
    rw [h8, ← h7, ← hv, Nat.mul_comm ((A * u + c) / 4294967296), Nat.mul_assoc, Nat.mul_comm c]
    omega
theorem shl_l1 (m n : Nat) (hn : n < 30000000000) (hm : (dg m).length < 1000000000000) (d : Nat) : ∀ (x : List Int) (j : Nat), Ok x → x.length = n / 32 → val x = 0 → j ≤ n % 32 → n % 32 - j = d →
    Ev (fun k => r1_Shl.l1 k n x (2 ^ j : Nat) j (dg m)) (dg (m * 2 ^ n)) := by
  have e : m * 2 ^ n = m * 2 ^ (n % 32) * 4294967296 ^ (n / 32) := by
    rw [show (4294967296 : Nat) = 2 ^ 32 by decide, ← Nat.pow_mul, Nat.mul_assoc, ← Nat.pow_add]
    congr 2; omega
  induction d with
  | zero =>
    intro x j hx hl hv hj hd
    obtain rfl : j = n % 32 := by omega
    refine Ev.step (fun _ => r1_Shl.l1.eq_2 ..) ?_
    rw [Int.tmod_eq_emod_of_nonneg (by omega)]
    refine Ev.neg (by omega) ?_
    rw [e]
    have hp : 2 ^ (n % 32) ≤ 2147483648 := by
      have : 2 ^ (n % 32) ≤ 2 ^ 31 := Nat.pow_le_pow_right (by decide) (by omega)
      simpa using this
    exact shl_l2 m (n / 32) (2 ^ (n % 32)) (by omega) hp (Nat.pow_pos (by decide)) hm _ x 0 0 hx (by simpa using hl) (Nat.pow_pos (by decide)) (by omega) (by simp [hv, Nat.mod_one]) rfl
  | succ d ih =>
    intro x j hx hl hv hj hd
    refine Ev.step (fun _ => r1_Shl.l1.eq_2 ..) ?_
    rw [Int.tmod_eq_emod_of_nonneg (by omega)]
    refine Ev.pos (by omega) ?_
    have hp : 2 ^ j ≤ 2147483648 := by
      have : 2 ^ j ≤ 2 ^ 31 := Nat.pow_le_pow_right (by decide) (by omega)
      simpa using this
    have h := ih x (j + 1) hx hl hv (by omega) (by omega)
    rw [Nat.pow_succ] at h
    generalize 2 ^ j = P at *
    rw [u64_id (by omega) (by omega), w64_id (by omega) (by omega)]
    rw [show (2 : Int) * (P : Int) = ((P * 2 : Nat) : Int) by omega, show (j : Int) + 1 = ((j + 1 : Nat) : Int) by omega]
    exact h
theorem shl_l0 (m n : Nat) (hn : n < 30000000000) (hm : (dg m).length < 1000000000000) (d : Nat) : ∀ (i : Nat), i ≤ n / 32 → n / 32 - i = d →
    Ev (fun k => r1_Shl.l0 k n (List.replicate i 0) i (dg m)) (dg (m * 2 ^ n)) := by
  induction d with
  | zero =>
    intro i hi hd
    refine Ev.step (fun _ => r1_Shl.l0.eq_2 ..) ?_
    rw [Int.tdiv_eq_ediv_of_nonneg (by omega), w64_id (by omega) (by omega)]
    refine Ev.neg (by omega) ?_
    exact shl_l1 m n hn hm _ _ 0 (ok_zeros _) (by simp; omega) (val_zeros _) (by omega) rfl
  | succ d ih =>
    intro i hi hd
    refine Ev.step (fun _ => r1_Shl.l0.eq_2 ..) ?_
    rw [Int.tdiv_eq_ediv_of_nonneg (by omega), w64_id (n := (n : Int) / 32) (by omega) (by omega), w64_id (by omega) (by omega)]
    refine Ev.pos (by omega) (Ev.pos (by simp; omega) ?_)
    have h := ih (i + 1) (by omega) (by omega)
    rw [← List.replicate_succ', show (i : Int) + 1 = ((i + 1 : Nat) : Int) by omega]
    exact h
theorem shl_dg (m n : Nat) (hn : n < 30000000000) (hm : (dg m).length < 1000000000000) : Ev (fun k => r1_Shl.f k (dg m) n) (dg (m * 2 ^ n)) :=
  shl_l0 m n hn hm _ 0 (by omega) rfl

def cmpN (m n : Nat) : Int := if m < n then -1 else if n < m then 1 else 0
theorem div_lt_of {m n p : Nat} (hp : 0 < p) (h : m / p < n / p) : m < n := by
  rcases Nat.lt_or_ge m n with h1 | h1
  · exact h1
  · have := Nat.div_le_div_right (c := p) h1; omega
theorem cmp_loop (m n : Nat) (i : Nat) : i < 1000000000000 → m / 4294967296 ^ i = n / 4294967296 ^ i → Ev (fun k => r1_Cmp.l0 k ((i : Int) - 1) (dg m) (dg n)) (cmpN m n) := by
  induction i with
  | zero =>
    intro hi h
    simp at h
    subst h
    refine Ev.step (fun _ => r1_Cmp.l0.eq_2 ..) ?_
    refine Ev.neg (by omega) (Ev.out ?_)
    simp [cmpN]
  | succ i ih =>
    intro hi h
    refine Ev.step (fun _ => r1_Cmp.l0.eq_2 ..) ?_
    rw [show ((i + 1 : Nat) : Int) - 1 = i by omega]
    refine Ev.pos (by omega) (Ev.bs (at_dg m i) (Ev.bs (at_dg n i) ?_))
    have s1 := div_step m i
    have s2 := div_step n i
    rw [h] at s1
    have hp : 0 < 4294967296 ^ i := Nat.pow_pos (by decide)
    by_cases h1 : m / 4294967296 ^ i % 4294967296 < n / 4294967296 ^ i % 4294967296
    · refine Ev.pos (Int.ofNat_lt.2 h1) (Ev.out ?_)
      rw [cmpN, if_pos (div_lt_of hp (by omega))]
    · refine Ev.neg (fun h' => h1 (Int.ofNat_lt.1 h')) ?_
      by_cases h2 : n / 4294967296 ^ i % 4294967296 < m / 4294967296 ^ i % 4294967296
      · refine Ev.pos (Int.ofNat_lt.2 h2) (Ev.out ?_)
        have := div_lt_of hp (show n / 4294967296 ^ i < m / 4294967296 ^ i by omega)
        rw [cmpN, if_neg (by omega), if_pos this]
      · refine Ev.neg (fun h' => h2 (Int.ofNat_lt.1 h')) ?_
        rw [w64_id (by omega) (by omega)]
        exact ih (by omega) (by omega)
theorem cmp_dg (m n : Nat) (hm : (dg m).length < 100000000000) (hn : (dg n).length < 100000000000) : Ev (fun k => r1_Cmp.f k (dg m) (dg n)) (cmpN m n) := by
  unfold r1_Cmp.f
  have hmx : mx ((dg m).length : Int) ((dg n).length : Int) = ((max (dg m).length (dg n).length : Nat) : Int) := by unfold mx; split <;> omega
  rw [hmx, w64_id (by omega) (by omega)]
  refine cmp_loop m n _ (by omega) ?_
  rw [Nat.div_eq_of_lt (lt_of_len (by omega)), Nat.div_eq_of_lt (lt_of_len (by omega))]

theorem uint_dg (n : Nat) : r1_Uint.f (dg n) = some ((n % 18446744073709551616 : Nat) : Int) := by
  unfold r1_Uint.f
  have h0 := at_dg n 0
  have h1 := at_dg n 1
  rw [show ((0 : Nat) : Int) = 0 from rfl] at h0
  rw [show ((1 : Nat) : Int) = 1 from rfl] at h1
  rw [h1, Option.bind_some, h0, Option.bind_some]
  simp only [Nat.pow_zero, Nat.div_one, Nat.pow_one]
  rw [u64_id (n := ((n / 4294967296 % 4294967296 : Nat) : Int) * 4294967296) (by omega) (by omega), u64_id (by omega) (by omega)]
  congr 1
  omega

theorem mod_in (s : Nat) : 0 ≤ ((s % 4294967296 : Nat) : Int) ∧ ((s % 4294967296 : Nat) : Int) < 4294967296 := by omega
theorem mul_most (e A b c : Nat) (h1 : A < 4294967296) (h2 : b < 4294967296) (h3 : e < 4294967296) (h4 : c < 4294967296) : e + A * b + c < 18446744073709551616 := by
  have h5 : A * b ≤ 4294967295 * 4294967295 := Nat.mul_le_mul (by omega) (by omega)
  omega
theorem mul_carry (e A b c : Nat) (h1 : A < 4294967296) (h2 : b < 4294967296) (h3 : e < 4294967296) (h4 : c < 4294967296) : (e + A * b + c) / 4294967296 < 4294967296 := by
  have := mul_most e A b c h1 h2 h3 h4; omega
theorem mul_word0 (e A b c : Nat) (h1 : A < 4294967296) (h2 : b < 4294967296) (h3 : e < 4294967296) (h4 : c < 4294967296) :
    IntKind.u64.wrap ((IntKind.u64.wrap ((e : Int) + (IntKind.u64.wrap ((A : Int) * (b : Int))))) + (c : Int)) = ((e + A * b + c : Nat) : Int) := by
  have := mul_most e A b c h1 h2 h3 h4
  rw [← Int.natCast_mul]
  generalize A * b = p at *
  rw [u64_id (n := (p : Int)) (by omega) (by omega), u64_id (n := (e : Int) + _) (by omega) (by omega), u64_id (by omega) (by omega)]
  omega
theorem mul_word1 (e A b c : Nat) (h1 : A < 4294967296) (h2 : b < 4294967296) (h3 : e < 4294967296) (h4 : c < 4294967296) :
    Int.tmod (IntKind.u64.wrap ((IntKind.u64.wrap ((e : Int) + (IntKind.u64.wrap ((A : Int) * (b : Int))))) + (c : Int))) 4294967296 = (((e + A * b + c) % 4294967296 : Nat) : Int) := by
  rw [mul_word0 e A b c h1 h2 h3 h4]
  generalize e + A * b + c = s
  rw [Int.tmod_eq_emod_of_nonneg (by omega)]; omega
theorem mul_word2 (e A b c : Nat) (h1 : A < 4294967296) (h2 : b < 4294967296) (h3 : e < 4294967296) (h4 : c < 4294967296) :
    IntKind.u64.wrap (Int.tdiv (IntKind.u64.wrap ((IntKind.u64.wrap ((e : Int) + (IntKind.u64.wrap ((A : Int) * (b : Int))))) + (c : Int))) 4294967296) = (((e + A * b + c) / 4294967296 : Nat) : Int) := by
  rw [mul_word0 e A b c h1 h2 h3 h4]
  have := mul_most e A b c h1 h2 h3 h4
  generalize e + A * b + c = s at *
  rw [Int.tdiv_eq_ediv_of_nonneg (by omega), u64_id (by omega) (by omega)]; omega
theorem mul_arith (v v' A b n' n'' P P' c e r q V : Nat) (hP : P' = P * 4294967296) (h1 : v' + P * e = v + P * r) (h5 : r + 4294967296 * q = e + A * b + c) (st : n' = n'' * 4294967296 + b) (hv : v + c * P + A * n' * P = V) :
    v' + q * P' + A * n'' * P' = V := by
  subst hP st hv
  have h6 := congrArg (P * ·) h5
  simp only [Nat.mul_add, Nat.add_mul] at h6 ⊢
  have h7 : A * (n'' * 4294967296) * P = A * n'' * (P * 4294967296) := by simp only [Nat.mul_comm, Nat.mul_left_comm, Nat.mul_assoc]
  have h8 : A * b * P = P * (A * b) := Nat.mul_comm ..
  have h9 : q * (P * 4294967296) = P * (4294967296 * q) := by simp only [Nat.mul_comm, Nat.mul_left_comm, Nat.mul_assoc]
  have h10 : c * P = P * c := Nat.mul_comm ..
  omega
theorem val_set_at {l : List Int} (h : Ok l) (i : Nat) (hi : i < l.length) (s : Nat) : val (l.set i ((s : Nat) : Int)) + 4294967296 ^ i * (val l / 4294967296 ^ i % 4294967296) = val l + 4294967296 ^ i * s := by
  have h1 := val_set h i hi (s : Int)
  rw [getD_val h, Int.toNat_natCast, Int.toNat_natCast] at h1
  exact h1
theorem mul_inner (m n i : Nat) (hi : i < (dg m).length) (hm : (dg m).length < 1000000000) (hn : (dg n).length < 1000000000)
    (next : ∀ y : List Int, Ok y → y.length = (dg m).length + (dg n).length + 1 → val y = m % 4294967296 ^ (i + 1) * n → Ev (fun k => r1_Mul.l0 k y ((i + 1 : Nat) : Int) (dg m) (dg n)) (dg (m * n))) (d : Nat) :
    ∀ (x : List Int) (c t : Nat), Ok x → x.length = (dg m).length + (dg n).length + 1 → c < 4294967296 → t ≤ (dg n).length + 1 →
    val x + c * 4294967296 ^ (i + t) + (m / 4294967296 ^ i % 4294967296) * (n / 4294967296 ^ t) * 4294967296 ^ (i + t) = m % 4294967296 ^ (i + 1) * n → (dg n).length + 1 - t = d →
    Ev (fun k => r1_Mul.l1 k x i c t (dg m) (dg n)) (dg (m * n)) := by
  have er : rd (dg m) (i : Int) = ((m / 4294967296 ^ i % 4294967296 : Nat) : Int) := by unfold rd; rw [Int.toNat_natCast, getD_dg]
  have hbound : m % 4294967296 ^ (i + 1) * n < 4294967296 ^ (i + 1 + (dg n).length) := by
    rw [Nat.pow_add 4294967296 (i + 1)]
    have h1 : m % 4294967296 ^ (i + 1) < 4294967296 ^ (i + 1) := Nat.mod_lt _ (Nat.pow_pos (by decide))
    exact Nat.mul_lt_mul_of_lt_of_le h1 (Nat.le_of_lt (lt_len n)) (Nat.pow_pos (by decide))
  have carry0 : ∀ (x : List Int) (c t : Nat), val x + c * 4294967296 ^ (i + t) + (m / 4294967296 ^ i % 4294967296) * (n / 4294967296 ^ t) * 4294967296 ^ (i + t) = m % 4294967296 ^ (i + 1) * n → 0 < c → t < (dg n).length + 1 := by
    intro x c t hv hc
    have h1 : 4294967296 ^ (i + t) ≤ c * 4294967296 ^ (i + t) := Nat.le_mul_of_pos_left _ hc
    have h2 : 4294967296 ^ (i + t) < 4294967296 ^ (i + 1 + (dg n).length) := by omega
    have h3 := (Nat.pow_lt_pow_iff_right (show 1 < 4294967296 by decide)).1 h2
    omega
  have done : ∀ (x : List Int) (t : Nat), Ok x → x.length = (dg m).length + (dg n).length + 1 → (dg n).length ≤ t →
      val x + 0 * 4294967296 ^ (i + t) + (m / 4294967296 ^ i % 4294967296) * (n / 4294967296 ^ t) * 4294967296 ^ (i + t) = m % 4294967296 ^ (i + 1) * n → Ev (fun k => r1_Mul.l1 k x i ((0 : Nat) : Int) t (dg m) (dg n)) (dg (m * n)) := by
    intro x t hx hl ht hv
    refine Ev.step (fun _ => r1_Mul.l1.eq_2 ..) ?_
    refine Ev.neg (by omega) (Ev.neg (show ¬ (((0 : Nat) : Int) > 0) by omega) ?_)
    rw [w64_id (n := (i : Int) + 1) (by clear hv; omega) (by clear hv; omega), show (i : Int) + 1 = ((i + 1 : Nat) : Int) from rfl]
    refine next x hx hl ?_
    rw [Nat.div_eq_of_lt (a := n) (b := 4294967296 ^ t) (lt_of_len (by omega))] at hv
    simpa using hv
  induction d with
  | zero =>
    intro x c t hx hl hc ht hv hd
    have h0 : c = 0 := by
      rcases Nat.eq_zero_or_pos c with h | h
      · exact h
      · have := carry0 x c t hv h; omega
    subst h0
    exact done x t hx hl (by omega) hv
  | succ d ih =>
    intro x c t hx hl hc ht hv hd
    have a1 : t ≤ (dg n).length := by clear hv; omega
    have a2 : i + t < (dg m).length + (dg n).length + 1 := by clear hv; omega
    have a3 : t + 1 ≤ (dg n).length + 1 := by clear hv; omega
    have a4 : (dg n).length + 1 - (t + 1) = d := by clear hv; omega
    have c1 : 0 ≤ ((i + t : Nat) : Int) := by clear hv; omega
    have c2 : ((i + t : Nat) : Int) < (x.length : Int) := by clear hv; omega
    have c3 : 0 ≤ (i : Int) := by clear hv; omega
    have c4 : (i : Int) < ((dg m).length : Int) := by clear hv; omega
    -- a round
    have hj : wrap64 ((i : Int) + t) = ((i + t : Nat) : Int) := by clear hv; rw [w64_id (by omega) (by omega)]; omega
    have ht1 : wrap64 ((t : Int) + 1) = ((t + 1 : Nat) : Int) := by clear hv; rw [w64_id (by omega) (by omega)]; omega
    have exr : rd x ((i + t : Nat) : Int) = ((val x / 4294967296 ^ (i + t) % 4294967296 : Nat) : Int) := by unfold rd; rw [Int.toNat_natCast, getD_val hx]
    have b1 := word_lt m i
    have b2 := word_lt n t
    have b3 := word_lt (val x) (i + t)
    have hbt := at_dg n t
    have hS : ∃ s, s = val x / 4294967296 ^ (i + t) % 4294967296 + m / 4294967296 ^ i % 4294967296 * (n / 4294967296 ^ t % 4294967296) + c := ⟨_, rfl⟩
    obtain ⟨s, hs⟩ := hS
    have g1 : Ok (x.set (i + t) (((s % 4294967296 : Nat) : Int))) := ok_set hx _ _ (mod_in _)
    have g2 : (x.set (i + t) (((s % 4294967296 : Nat) : Int))).length = (dg m).length + (dg n).length + 1 := by rw [List.length_set]; exact hl
    have g3 : s / 4294967296 < 4294967296 := by rw [hs]; exact mul_carry _ _ _ _ b1 b2 b3 hc
    have g4 : val (x.set (i + t) ((s % 4294967296 : Nat) : Int)) + s / 4294967296 * 4294967296 ^ (i + (t + 1)) + (m / 4294967296 ^ i % 4294967296) * (n / 4294967296 ^ (t + 1)) * 4294967296 ^ (i + (t + 1)) = m % 4294967296 ^ (i + 1) * n := by
      have k1 : 4294967296 ^ (i + (t + 1)) = 4294967296 ^ (i + t) * 4294967296 := by rw [← Nat.add_assoc, Nat.pow_succ]
      have k2 := val_set_at hx (i + t) (by rw [hl]; exact a2) (s % 4294967296)
      have k3 := Nat.mod_add_div s 4294967296
      exact mul_arith _ _ _ _ _ _ _ _ _ _ _ _ _ k1 k2 (k3.trans hs) (div_step n t) hv
    have hround := ih _ _ (t + 1) g1 g2 g3 a3 g4 a4
    by_cases h : (t : Int) < ((dg n).length : Int)
    · refine Ev.step (fun _ => r1_Mul.l1.eq_2 ..) ?_
      rw [hj, exr, er, ht1]
      refine Ev.pos h (Ev.pos c1 (Ev.pos c2 (Ev.pos c3 (Ev.pos c4 (Ev.bs hbt ?_)))))
      rw [mul_word1 _ _ _ _ b1 b2 b3 hc, mul_word2 _ _ _ _ b1 b2 b3 hc, Int.toNat_natCast, ← hs]
      exact hround
    · rcases Nat.eq_zero_or_pos c with h0 | h0
      · subst h0
        exact done x t hx hl (Nat.le_of_not_lt fun h' => h (Int.ofNat_lt.2 h')) hv
      · have h1 := carry0 x c t hv h0
        refine Ev.step (fun _ => r1_Mul.l1.eq_2 ..) ?_
        rw [hj, exr, er, ht1]
        refine Ev.neg h (Ev.pos (show ((c : Nat) : Int) > 0 from Int.natCast_pos.2 h0) (Ev.pos c1 (Ev.pos c2 (Ev.pos c3 (Ev.pos c4 (Ev.bs hbt ?_))))))
        rw [mul_word1 _ _ _ _ b1 b2 b3 hc, mul_word2 _ _ _ _ b1 b2 b3 hc, Int.toNat_natCast, ← hs]
        exact hround
theorem mul_outer (m n : Nat) (hm : (dg m).length < 1000000000) (hn : (dg n).length < 1000000000) (d : Nat) : ∀ (x : List Int) (i : Nat), Ok x → x.length = (dg m).length + (dg n).length + 1 → i ≤ (dg m).length →
    val x = m % 4294967296 ^ i * n → (dg m).length - i = d → Ev (fun k => r1_Mul.l0 k x i (dg m) (dg n)) (dg (m * n)) := by
  induction d with
  | zero =>
    intro x i hx hl hi hv hd
    refine Ev.step (fun _ => r1_Mul.l0.eq_2 ..) ?_
    refine Ev.neg (by omega) (Ev.bind (trim_val x hx (by omega)) (Ev.out ?_))
    rw [hv, mod_len (by omega)]
  | succ d ih =>
    intro x i hx hl hi hv hd
    refine Ev.step (fun _ => r1_Mul.l0.eq_2 ..) ?_
    refine Ev.pos (by omega) ?_
    refine mul_inner m n i (by omega) hm hn (fun y hy hly hvy => ih y (i + 1) hy hly (by omega) hvy (by omega)) _ x 0 0 hx hl (by decide) (by omega) ?_ rfl
    rw [hv, mod_succ, Nat.add_mul]
    simp only [Nat.zero_mul, Nat.add_zero, Nat.pow_zero, Nat.div_one]
    congr 1
    simp only [Nat.mul_comm, Nat.mul_left_comm, Nat.mul_assoc]
theorem mul_dg (m n : Nat) (hm : (dg m).length < 1000000000) (hn : (dg n).length < 1000000000) : Ev (fun k => r1_Mul.f k (dg m) (dg n)) (dg (m * n)) := by
  unfold r1_Mul.f
  rw [w64_id (n := ((dg m).length : Int) + ((dg n).length : Int)) (by omega) (by omega), w64_id (by omega) (by omega)]
  refine Ev.pos (by omega) (Ev.pos (by omega) ?_)
  have e : (((dg m).length : Int) + ((dg n).length : Int) + 1).toNat = (dg m).length + (dg n).length + 1 := by omega
  rw [e]
  exact mul_outer m n hm hn _ _ 0 (ok_zeros _) (by simp) (by omega) (by rw [val_zeros]; simp [Nat.mod_one]) rfl

def bl (n : Nat) : Nat := if n = 0 then 0 else n.log2 + 1
theorem bl_zero : bl 0 = 0 := rfl
theorem bl_half {n : Nat} (h : 0 < n) : bl n = bl (n / 2) + 1 := by
  unfold bl
  rw [if_neg (by omega)]
  by_cases h2 : n < 2
  · obtain rfl : n = 1 := by omega
    rfl
  · rw [if_neg (by omega), Nat.log2_def, if_pos (by omega)]
theorem bl_le {n k : Nat} : bl n ≤ k ↔ n < 2 ^ k := by
  unfold bl
  split
  · subst_vars; simp [Nat.pow_pos]
  · rw [← Nat.log2_lt ‹_›]; omega
theorem lt_bl {n k : Nat} : k < bl n ↔ 2 ^ k ≤ n := by
  have := @bl_le n k; omega
theorem bl_shift (n k : Nat) (h : 0 < n) : bl (n * 2 ^ k) = bl n + k := by
  refine Nat.le_antisymm ?_ ?_
  · rw [bl_le, Nat.pow_add]
    exact Nat.mul_lt_mul_of_pos_right (bl_le.1 (Nat.le_refl _)) (Nat.pow_pos (by decide))
  · have h1 : 2 ^ (bl n - 1) ≤ n := lt_bl.1 (by have := (lt_bl (n := n) (k := 0)).2 (by rw [Nat.pow_zero]; omega); omega)
    have h0 : 0 < bl n := (lt_bl (n := n) (k := 0)).2 (by rw [Nat.pow_zero]; omega)
    have h2 : bl n + k - 1 < bl (n * 2 ^ k) := by
      rw [lt_bl, show bl n + k - 1 = (bl n - 1) + k by omega, Nat.pow_add]
      exact Nat.mul_le_mul_right _ h1
    omega
theorem bl_add_low (a b k : Nat) (ha : 0 < a) (hb : b < 2 ^ k) : bl (a * 2 ^ k + b) = bl a + k := by
  refine Nat.le_antisymm ?_ ?_
  · rw [bl_le, Nat.pow_add]
    have h1 : a + 1 ≤ 2 ^ bl a := bl_le.1 (Nat.le_refl _)
    have h2 := Nat.mul_le_mul_right (2 ^ k) h1
    rw [Nat.add_mul] at h2
    omega
  · rw [← bl_shift a k ha]
    have h0 : 0 < bl (a * 2 ^ k) := (lt_bl (n := a * 2 ^ k) (k := 0)).2 (by rw [Nat.pow_zero]; exact Nat.mul_pos ha (Nat.pow_pos (by decide)))
    have h1 : bl (a * 2 ^ k) - 1 < bl (a * 2 ^ k + b) := by
      rw [lt_bl]
      have : 2 ^ (bl (a * 2 ^ k) - 1) ≤ a * 2 ^ k := lt_bl.1 (by omega)
      omega
    omega
theorem bl_mono {m n : Nat} (h : m ≤ n) : bl m ≤ bl n := by
  rw [bl_le]; exact Nat.lt_of_le_of_lt h (bl_le.1 (Nat.le_refl _))
theorem lt_two_bl (n : Nat) : n < 2 ^ bl n := bl_le.1 (Nat.le_refl _)
theorem bl_pos {n : Nat} : 0 < bl n ↔ 0 < n := by
  have := (lt_bl (n := n) (k := 0)); rw [Nat.pow_zero] at this; omega
theorem two_bl_le {n : Nat} (h : 0 < n) : 2 ^ (bl n - 1) ≤ n := lt_bl.1 (by have := bl_pos.2 h; omega)
theorem bl_mul (m n : Nat) : bl (m * n) ≤ bl m + bl n := by
  rw [bl_le, Nat.pow_add]
  exact Nat.mul_lt_mul'' (lt_two_bl m) (lt_two_bl n)
theorem bl_shl (m k : Nat) : bl (m * 2 ^ k) ≤ bl m + k := by
  rw [bl_le, Nat.pow_add]
  exact Nat.mul_lt_mul_of_pos_right (lt_two_bl m) (Nat.pow_pos (by decide))
theorem bl_one : bl 1 = 1 := by decide
theorem bl_two (k : Nat) : bl (2 ^ k) = k + 1 := by
  have := bl_shift 1 k (by decide)
  rw [Nat.one_mul, bl_one] at this; omega
theorem pow32 (k : Nat) : (4294967296 : Nat) ^ k = 2 ^ (32 * k) := by
  rw [show (4294967296 : Nat) = 2 ^ 32 by decide, ← Nat.pow_mul]
theorem len_bl (n : Nat) : (dg n).length ≤ bl n / 32 + 1 := by
  refine len_le ?_
  rw [pow32]
  exact bl_le.1 (by omega)
theorem len_loop (t : Nat) : ∀ (s : Nat), t < 18446744073709551616 → s + bl t < 1000000000000 → Ev (fun k => r1_Len.l0 k s t) ((s + bl t : Nat) : Int) := by
  induction t using Nat.strongRecOn with
  | _ t ih =>
    intro s ht hs
    refine Ev.step (fun _ => r1_Len.l0.eq_2 ..) ?_
    rcases Nat.eq_zero_or_pos t with h | h
    · subst h
      exact Ev.neg (by omega) (Ev.out (by simp [bl_zero]))
    · refine Ev.pos (by omega) ?_
      rw [Int.tdiv_eq_ediv_of_nonneg (by omega), u64_id (by omega) (by omega), w64_id (by omega) (by omega), bl_half h]
      rw [show (t : Int) / 2 = ((t / 2 : Nat) : Int) by omega, show (s : Int) + 1 = ((s + 1 : Nat) : Int) by omega, show s + (bl (t / 2) + 1) = s + 1 + bl (t / 2) by omega]
      exact ih (t / 2) (by omega) (s + 1) (by omega) (by have := bl_half h; omega)
theorem len_dg (m : Nat) (hm : bl m < 1000000000) : Ev (fun k => r1_Len.f k (dg m)) ((bl m : Nat) : Int) := by
  have hL := len_bl m
  unfold r1_Len.f
  rcases Nat.eq_zero_or_pos m with h | h
  · subst h
    rw [dg_zero]
    exact Ev.pos rfl (Ev.out rfl)
  · have h0 := len_pos.2 h
    generalize hl : (dg m).length = L at *
    have e : wrap64 ((L : Int) - 1) = ((L - 1 : Nat) : Int) := by rw [w64_id (by omega) (by omega)]; omega
    rw [e, w64_id (n := 32 * ((L - 1 : Nat) : Int)) (by omega) (by omega)]
    refine Ev.neg (by omega) (Ev.pos (by omega) (Ev.pos (by omega) ?_))
    have er : rd (dg m) ((L - 1 : Nat) : Int) = ((m / 4294967296 ^ (L - 1) % 4294967296 : Nat) : Int) := by unfold rd; rw [Int.toNat_natCast, getD_dg]
    have hw := word_lt m (L - 1)
    have htop : m / 4294967296 ^ (L - 1) % 4294967296 = m / 4294967296 ^ (L - 1) := by
      refine Nat.mod_eq_of_lt ?_
      rw [Nat.div_lt_iff_lt_mul (Nat.pow_pos (by decide)), Nat.mul_comm, ← Nat.pow_succ]
      exact lt_of_len (by omega)
    have hpos : 0 < m / 4294967296 ^ (L - 1) := by
      refine Nat.div_pos ?_ (Nat.pow_pos (by decide))
      rcases Nat.lt_or_ge m (4294967296 ^ (L - 1)) with h1 | h1
      · have := len_le h1; omega
      · exact h1
    rw [er, htop]
    rw [htop] at hw
    have hm2 : bl m = bl (m / 4294967296 ^ (L - 1)) + 32 * (L - 1) := by
      have h1 := Nat.div_add_mod m (4294967296 ^ (L - 1))
      have h2 : m % 4294967296 ^ (L - 1) < 4294967296 ^ (L - 1) := Nat.mod_lt _ (Nat.pow_pos (by decide))
      rw [pow32] at h1 h2 ⊢
      have h3 := bl_add_low (m / 2 ^ (32 * (L - 1))) (m % 2 ^ (32 * (L - 1))) (32 * (L - 1)) (by rw [pow32] at hpos; exact hpos) h2
      rw [Nat.mul_comm, h1] at h3
      exact h3
    rw [hm2, Nat.add_comm, show (32 : Int) * ((L - 1 : Nat) : Int) = ((32 * (L - 1) : Nat) : Int) by omega]
    exact len_loop _ _ (Nat.lt_trans hw (by decide)) (by rw [Nat.add_comm, ← hm2]; clear hm2 htop er hw hpos; omega)

theorem add_bl (m n : Nat) (hm : bl m < 1000000000) (hn : bl n < 1000000000) : Ev (fun k => r1_Add.f k (dg m) (dg n)) (dg (m + n)) := add_dg m n (by have := len_bl m; omega) (by have := len_bl n; omega)
theorem sub_bl (m n : Nat) (hmn : n ≤ m) (hm : bl m < 1000000000) : Ev (fun k => r1_Sub.f k (dg m) (dg n)) (dg (m - n)) := sub_dg m n hmn (by have := len_bl m; omega)
theorem shl_bl (m n : Nat) (hn : n < 30000000000) (hm : bl m < 1000000000) : Ev (fun k => r1_Shl.f k (dg m) n) (dg (m * 2 ^ n)) := shl_dg m n hn (by have := len_bl m; omega)
theorem cmp_bl (m n : Nat) (hm : bl m < 1000000000) (hn : bl n < 1000000000) : Ev (fun k => r1_Cmp.f k (dg m) (dg n)) (cmpN m n) := cmp_dg m n (by have := len_bl m; omega) (by have := len_bl n; omega)
theorem mul_bl (m n : Nat) (hm : bl m < 1000000000) (hn : bl n < 1000000000) : Ev (fun k => r1_Mul.f k (dg m) (dg n)) (dg (m * n)) := mul_dg m n (by have := len_bl m; omega) (by have := len_bl n; omega)
theorem bl64 {n : Nat} (h : n < 18446744073709551616) : bl n ≤ 64 := bl_le.2 h

end Go.Proofs.Ytgcgheilbngcoaa.Th
end
section
set_option linter.unusedVariables false
set_option linter.unusedSimpArgs false
namespace Go.Proofs.Ytgcgheilbngcoaa.Th
open Flo
def pkc (F : Fmt) (S : Nat) (e : Int) (m : Nat) : Nat :=
  if (bl S : Int) - F.f - 1 ≤ 0 ∧ F.low - e ≤ 0 then F.fin (e - (min ((F.f : Int) + 1 - bl S) (e - F.low)).toNat - F.low).toNat (S * 2 ^ (min ((F.f : Int) + 1 - bl S) (e - F.low)).toNat)
  else F.fin (e + max ((bl S : Int) - F.f - 1) (F.low - e) - F.low).toNat (rne (2 * S + m) (2 ^ ((max ((bl S : Int) - F.f - 1) (F.low - e)).toNat + 1)))
def pkm (F : Fmt) (S : Nat) (e : Int) (m : Bool) : Nat :=
  if S = 0 ∧ m = false then 0 else if 1048576 < e then F.inf else if e < -1048576 then 0 else
  if m = true ∧ bl S < 127 then pkc F (2 * S + 1) (e - 1) 0 else pkc F S e (if m then 1 else 0)
def pkx (S : Nat) (e : Int) (m : Bool) : Rat := ((2 * S + (if m then 1 else 0) : Nat) : Rat) * tw (e - 1)
theorem dbl (S : Nat) (e : Int) : ((2 * S + 0 : Nat) : Rat) * tw (e - 1) = (S : Rat) * tw e := by
  rw [tw_pred e]; push_cast; grind
theorem pkc_dn (F : Fmt) {S m : Nat} {e : Int} (hm : m ≤ 1) (hS : 0 < S) (h : ¬ ((bl S : Int) - F.f - 1 ≤ 0 ∧ F.low - e ≤ 0)) :
    ∃ q n j : Nat, (j : Int) + 1 = max ((bl S : Int) - F.f - 1) (F.low - e) ∧ (q : Int) = e + (j + 1 : Nat) - F.low ∧ n = rne (2 * S + m) (2 ^ (j + 2)) ∧ pkc F S e m = F.fin q n ∧
    F.Rnd (F.Up (((2 * S + m : Nat) : Rat) * tw (e - 1))) (F.fin q n) ∧ n ≤ 2 ^ (F.f + 1) ∧ (0 < q → 2 ^ F.f ≤ n) := by
  have h1 := two_bl_le hS
  have h2 := lt_two_bl S
  have h0 := bl_pos.2 hS
  have h3 : 2 ^ bl S ≤ 2 * S := by
    have : 2 ^ bl S = 2 ^ (bl S - 1) * 2 := by rw [← Nat.pow_succ]; congr 1; omega
    omega
  obtain ⟨j, hj⟩ : ∃ j : Nat, (j : Int) + 1 = max ((bl S : Int) - F.f - 1) (F.low - e) := ⟨(max ((bl S : Int) - F.f - 1) (F.low - e) - 1).toNat, by omega⟩
  obtain ⟨q, hq⟩ : ∃ q : Nat, (q : Int) = e + (j + 1 : Nat) - F.low := ⟨(e + (j + 1 : Nat) - F.low).toNat, by omega⟩
  have P := Fmt.Rnd.pack_dn F (S := S) (la := bl S) (j := j) (m := m) (e := e) (q := q) hm h3 h2 (by omega) hq
  refine ⟨q, _, j, hj, hq, rfl, ?_, P.1, P.2.1, P.2.2⟩
  unfold pkc
  rw [if_neg h, ← hj, show ((j : Int) + 1).toNat + 1 = j + 2 by omega, show (e + ((j : Int) + 1) - F.low).toNat = q by omega]
theorem pkc_up (F : Fmt) {S : Nat} {e : Int} (hS : 0 < S) (h : (bl S : Int) - F.f - 1 ≤ 0 ∧ F.low - e ≤ 0) :
    ∃ q u : Nat, (u : Int) = min ((F.f : Int) + 1 - bl S) (e - F.low) ∧ (q : Int) = e - u - F.low ∧ pkc F S e 0 = F.fin q (S * 2 ^ u) ∧
    F.Rnd (F.Up (((2 * S + 0 : Nat) : Rat) * tw (e - 1))) (F.fin q (S * 2 ^ u)) ∧ S * 2 ^ u ≤ 2 ^ (F.f + 1) ∧ (0 < q → 2 ^ F.f ≤ S * 2 ^ u) := by
  have h1 := two_bl_le hS
  have h2 := lt_two_bl S
  have h0 := bl_pos.2 hS
  have h3 : 2 ^ bl S ≤ 2 * S := by
    have : 2 ^ bl S = 2 ^ (bl S - 1) * 2 := by rw [← Nat.pow_succ]; congr 1; omega
    omega
  obtain ⟨u, hu⟩ : ∃ u : Nat, (u : Int) = min ((F.f : Int) + 1 - bl S) (e - F.low) := ⟨(min ((F.f : Int) + 1 - bl S) (e - F.low)).toNat, by omega⟩
  obtain ⟨q, hq⟩ : ∃ q : Nat, (q : Int) = e - u - F.low := ⟨(e - u - F.low).toNat, by omega⟩
  have P := Fmt.Rnd.pack_up F (S := S) (la := bl S) (e := e) (u := u) (q := q) h3 h2 (by omega) (by omega) hu hq
  refine ⟨q, u, hu, hq, ?_, by rw [dbl]; exact P.1, P.2.1, P.2.2⟩
  unfold pkc
  rw [if_pos h, ← hu, show ((u : Nat) : Int).toNat = u by omega, show (e - (u : Int) - F.low).toNat = q by omega]
theorem pkc_rnd (F : Fmt) {S m : Nat} {e : Int} (hm : m ≤ 1) (hS : 0 < S) (hb : m = 1 → F.f + 1 < bl S) : F.Rnd (F.Up (((2 * S + m : Nat) : Rat) * tw (e - 1))) (pkc F S e m) := by
  by_cases h : (bl S : Int) - F.f - 1 ≤ 0 ∧ F.low - e ≤ 0
  · obtain rfl : m = 0 := by
      rcases (show m = 0 ∨ m = 1 by omega) with h1 | h1
      · exact h1
      · have := hb h1; omega
    obtain ⟨q, u, _, _, e1, P, _⟩ := pkc_up F hS h
    rw [e1]; exact P
  · obtain ⟨q, n, j, _, _, _, e1, P, _⟩ := pkc_dn F hm hS h
    rw [e1]; exact P
theorem pkm_rnd (F : Fmt) (hF : F.f < 100) (hl : -5000 < F.low ∧ F.low < 0) (ht : F.top < 5000) (S : Nat) (e : Int) (m : Bool) (hS : S < 340282366920938463463374607431768211456) : F.rnd (pkx S e m) = pkm F S e m := by
  unfold pkm
  by_cases h0 : S = 0 ∧ m = false
  · rw [if_pos h0]
    obtain ⟨rfl, rfl⟩ := h0
    unfold pkx
    simp only [Bool.false_eq_true, if_false, Nat.mul_zero, Nat.add_zero]
    rw [show ((0 : Nat) : Rat) * tw (e - 1) = 0 by simp, Fmt.rnd_zero]
  rw [if_neg h0]
  have hpos : 1 ≤ 2 * S + (if m then 1 else 0) := by
    cases m
    · have : S ≠ 0 := fun h => h0 ⟨h, rfl⟩
      simp; omega
    · simp
  have hle : 2 * S + (if m then 1 else 0) < 2 ^ 129 := by
    rw [show (2 : Nat) ^ 129 = 680564733841876926926749214863536422912 by decide]; cases m <;> simp <;> omega
  by_cases h1 : 1048576 < e
  · rw [if_pos h1]
    refine F.rnd_inf ?_
    rw [F.val_inf]
    have h2 : ((1 : Nat) : Rat) ≤ ((2 * S + (if m then 1 else 0) : Nat) : Rat) := nat_le.2 hpos
    have h3 := mul_le h2 (tw_pos (e - 1))
    have h4 : tw (F.top - 1 + F.low + F.f) ≤ tw (e - 1) := tw_le (by omega)
    unfold pkx
    have h5 : ((1 : Nat) : Rat) * tw (e - 1) = tw (e - 1) := by simp
    rw [h5] at h3
    exact Rat.le_trans h4 h3
  rw [if_neg h1]
  by_cases h2 : e < -1048576
  · rw [if_pos h2]
    refine F.rnd_of (Fmt.Rnd.tiny F ?_)
    have h3 : ((2 * S + (if m then 1 else 0) : Nat) : Rat) < ((2 ^ 129 : Nat) : Rat) := nat_lt.2 hle
    have h4 := mul_lt h3 (tw_pos (e - 1))
    rw [← tw_nat, ← tw_add] at h4
    have h5 : tw ((129 : Nat) + (e - 1)) ≤ tw (F.low - 1) := tw_le (by omega)
    unfold pkx
    grind
  rw [if_neg h2]
  by_cases h3 : m = true ∧ bl S < 127
  · rw [if_pos h3]
    obtain ⟨rfl, h4⟩ := h3
    have := pkc_rnd F (S := 2 * S + 1) (m := 0) (e := e - 1) (by decide) (by omega) (by omega)
    refine F.rnd_of ?_
    unfold pkx
    rw [dbl] at this
    simpa using this
  · rw [if_neg h3]
    refine F.rnd_of ?_
    unfold pkx
    cases m
    · exact pkc_rnd F (by decide) (by have : S ≠ 0 := fun h => h0 ⟨h, rfl⟩; omega) (by simp)
    · have h4 : 127 ≤ bl S := by
        rcases Nat.lt_or_ge (bl S) 127 with h | h
        · exact absurd ⟨rfl, h⟩ h3
        · exact h
      exact pkc_rnd F (by decide) (bl_pos.1 (by omega)) (fun _ => by omega)
theorem pkx_f (S : Nat) (e : Int) : pkx S e false = (S : Rat) * tw e := by
  unfold pkx
  simp only [Bool.false_eq_true, if_false]
  exact dbl S e
end Go.Proofs.Ytgcgheilbngcoaa.Th
end
namespace Go.Proofs.Ytgcgheilbngcoaa.PA
open Go.RowKit Go.Proofs.YtgcgheilbngcoaaW.PrintWords Go.Proofs.YtgcgheilbngcoaaW.PrintLast Go.Proofs.YtgcgheilbngcoaaW.PrintMore
attribute [local go_sem] max2_int min2_int max_two min_two max_three min_three max_four min_four   -- for this text's walks alone
set_option linter.unusedVariables false
set_option linter.unusedSimpArgs false
set_option maxHeartbeats 8000000
set_option maxRecDepth 100000
def shape_format_split.f (a0_0 : Int) (a0_1 : Int) (a1 : Int) : Option (Int × Int × Bool × Int × Int) := if 0 ≤ (wrap64 (a0_0 + a0_1)) then (if 0 ≤ a0_1 then ((shape_format_ones.f a0_0 a0_1).bind fun t105 => (some (a0_0, a0_1, ((Go.bits .and .u64 (shr .u64 a1 (wrap64 (a0_0 + a0_1))) 1) == 1), Go.bits .and .u64 (shr .u64 a1 a0_1) t105, Go.bits .and .u64 a1 (IntKind.u64.wrap ((shl .u64 1 a0_1) - 1))))) else (none)) else (none)
def shape_format_split.T1 : Bool × List (List Nat × List Nat) := (true, [([], []), ([], []), ([], []), ([2], [2]), ([], []), ([4], [4]), ([3, 5], [3, 5]), ([1, 6], [1, 6]), ([7], [7]), ([8], [8]), ([], []), ([], []), ([11], [11]), ([10, 12], [10, 12]), ([], []), ([14], [14]), ([13, 15], [13, 15]), ([], []), ([], []), ([18], [18]), ([19], [19]), ([20], [20]), ([17, 21], [17, 21]), ([0, 9, 16, 22], [0, 9, 16, 22]), ([23, 15, 0, 1, 2, 3, 4, 5, 6, 7, 8, 9, 10, 11, 12, 13, 14, 15, 16, 17, 18, 19, 20, 21, 22, 23], [23])])
def shape_format_split.B1 : List Nat := [0, 0, 0, 4, 0, 16, 60, 126, 254, 510, 0, 0, 2048, 7168, 0, 16384, 64512, 0, 0, 262144, 786432, 1835008, 4063232, 8388607, 16777215]
theorem shape_format_split.tab1 : rtab .any (opsOf Try.f119 1) = shape_format_split.T1 := by kernel_rfl
theorem shape_format_split.bits1 : waitsOk shape_format_split.T1.2 shape_format_split.B1 = true := by kernel_rfl
theorem shape_format_split.calls (a0_0 : Int) (a0_1 : Int) (a1 : Int) (r1 : Int) (r2 : Int) (r3 : Bool) (r4 : Int) (r5 : Int) (w : World) (h : shape_format_split.f a0_0 a0_1 a1 = some (r1, r2, r3, r4, r5)) :
  Calls Try.prog 119 #[.agg #[.int .i64 a0_0, .int .i64 a0_1], .int .u64 a1] w fun e w' => e = .returned (.agg #[.int .i64 r1, .int .i64 r2, .bool r3, .int .u64 r4, .int .u64 r5]) ∧ Below w.heap.size w w' := by
 have hu112 := Try.underlying112
 have hu116 := Try.underlying116
 have HB := A_ (Below.refl w.heap.size w)
 have H : (if 0 ≤ (wrap64 (a0_0 + a0_1)) then (if 0 ≤ a0_1 then ((shape_format_ones.f a0_0 a0_1).bind fun t105 => (some (a0_0, a0_1, ((Go.bits .and .u64 (shr .u64 a1 (wrap64 (a0_0 + a0_1))) 1) == 1), Go.bits .and .u64 (shr .u64 a1 a0_1) t105, Go.bits .and .u64 a1 (IntKind.u64.wrap ((shl .u64 1 a0_1) - 1))))) else (none)) else (none)) = some (r1, r2, r3, r4, r5) := h
 clear h
 obtain ⟨ji3, hji3⟩ : ∃ j_ : Int, (wrap64 (a0_0 + a0_1)) = j_ := ⟨_, rfl⟩
 replace H : (if 0 ≤ (ji3) then (if 0 ≤ a0_1 then ((shape_format_ones.f a0_0 a0_1).bind fun t105 => (some (a0_0, a0_1, ((Go.bits .and .u64 (shr .u64 a1 (ji3)) 1) == 1), Go.bits .and .u64 (shr .u64 a1 a0_1) t105, Go.bits .and .u64 a1 (IntKind.u64.wrap ((shl .u64 1 a0_1) - 1))))) else (none)) else (none)) = some (r1, r2, r3, r4, r5) := by first | (rw [hji3] at H; exact H) | (simp only [hji3] at H ⊢; exact H)
 have hji3w : (IntKind.i64.wrap (a0_0 + a0_1)) = ji3 := (i64_w _).trans hji3
 by_cases c4 : 0 ≤ (ji3)
 ·rw [if_pos c4] at H
  have c4b0 := eq_true c4
  have c4b1 : decide (0 ≤ (ji3)) = true := decide_eq_true c4
  clear c4
  obtain ⟨ji5, hji5⟩ : ∃ j_ : Int, (shr .u64 a1 (ji3)) = j_ := ⟨_, rfl⟩
  replace H : (if 0 ≤ a0_1 then ((shape_format_ones.f a0_0 a0_1).bind fun t105 => (some (a0_0, a0_1, ((Go.bits .and .u64 (ji5) 1) == 1), Go.bits .and .u64 (shr .u64 a1 a0_1) t105, Go.bits .and .u64 a1 (IntKind.u64.wrap ((shl .u64 1 a0_1) - 1))))) else (none)) = some (r1, r2, r3, r4, r5) := by first | (rw [hji5] at H; exact H) | (simp only [hji5] at H ⊢; exact H)
  have hji5_ : (a1 / 2 ^ min (ji3).toNat 64) = ji5 := hji5
  have hji5z : (ji3) ≤ 64 → (a1 / 2 ^ (ji3).toNat) = ji5 := shr_small hji5
  by_cases c6 : 0 ≤ a0_1
  ·rw [if_pos c6] at H
   have c6b0 := eq_true c6
   have c6b1 : decide (0 ≤ a0_1) = true := decide_eq_true c6
   clear c6
   obtain ⟨ji7, hji7⟩ : ∃ j_ : Int, (shr .u64 a1 a0_1) = j_ := ⟨_, rfl⟩
   replace H : ((shape_format_ones.f a0_0 a0_1).bind fun t105 => (some (a0_0, a0_1, ((Go.bits .and .u64 (ji5) 1) == 1), Go.bits .and .u64 (ji7) t105, Go.bits .and .u64 a1 (IntKind.u64.wrap ((shl .u64 1 a0_1) - 1))))) = some (r1, r2, r3, r4, r5) := by first | (rw [hji7] at H; exact H) | (simp only [hji7] at H ⊢; exact H)
   have hji7_ : (a1 / 2 ^ min a0_1.toNat 64) = ji7 := hji7
   have hji7z : a0_1 ≤ 64 → (a1 / 2 ^ a0_1.toNat) = ji7 := shr_small hji7
   replace H := ob_ H
   obtain ⟨t105, A80, H⟩ := H
   replace H : (some (a0_0, a0_1, ((Go.bits .and .u64 (ji5) 1) == 1), Go.bits .and .u64 (ji7) t105, Go.bits .and .u64 a1 (IntKind.u64.wrap ((shl .u64 1 a0_1) - 1)))) = some (r1, r2, r3, r4, r5) := H
   have A8 := A_ A80;clear A80
   have c9b0 := eq_true (of_decide_eq_true (by first | (with_reducible assumption) | assumption) : 0 ≤ a0_1)
   obtain ⟨ji10, hji10⟩ : ∃ j_ : Int, (shl .u64 1 a0_1) = j_ := ⟨_, rfl⟩
   replace H : (some (a0_0, a0_1, ((Go.bits .and .u64 (ji5) 1) == 1), Go.bits .and .u64 (ji7) t105, Go.bits .and .u64 a1 (IntKind.u64.wrap ((ji10) - 1)))) = some (r1, r2, r3, r4, r5) := by first | (rw [hji10] at H; exact H) | (simp only [hji10] at H ⊢; exact H)
   (try rw [hji10] at A8)
   have hji10_ : (IntKind.u64.wrap (1 * 2 ^ min a0_1.toNat 64)) = ji10 := hji10
   have hji10z : a0_1 ≤ 64 → (IntKind.u64.wrap (1 * 2 ^ a0_1.toNat)) = ji10 := shl_small hji10
   have hji10u : (IntKind.u64.wrap (2 ^ min a0_1.toNat 64)) = ji10 := by have h_ := hji10_; rw [Int.one_mul] at h_; exact h_
   have hji10v : a0_1 ≤ 64 → (IntKind.u64.wrap (2 ^ a0_1.toNat)) = ji10 := fun hle_ => by have h_ := hji10z hle_; rw [Int.one_mul] at h_; exact h_
   simp only [Option.some.injEq, Prod.mk.injEq] at H
   obtain ⟨rfl, rfl, rfl, rfl, rfl⟩ := H
   go_enter Try.func119, Try.ntmps119
   try go_wp2_with (first | ((with_reducible refine gate_dst (N := 2) rfl ?_); refine be_ 2 #[.int .i64 a0_0, .int .i64 a0_1] 112 ?_; intro gb103 hg w11 hbox hb; have n0_ := A_ (below_step (hb_ HB.out) hb); have n1_ := A_ (hbox); have n2_ := A_ (sz_ hg (hb_ HB.out)); have n3_ := A_ (sz_ hg (hb_ HB.out)); clear HB; have HB := n0_; have BK103 := n1_; have GW103 := n2_; have GE103 := n3_; clear n0_ n1_ n2_ n3_; clear hb hbox hg) | ((with_reducible refine gate_dst (N := 4) rfl ?_); refine be_ 4 #[.int .i64 0, .int .i64 0, .bool false, .int .u64 0, .int .u64 0] 116 ?_; intro gb104 hg w12 hbox hb; have n0_ := A_ (bb_ BK103.out hb); have n1_ := A_ (below_step (hb1_ HB.out GE103.out) hb); have n2_ := A_ (hbox); have n3_ := A_ (sz_ hg (hb1_ HB.out GE103.out)); have n4_ := A_ (sz_ hg (hb1_ HB.out GE103.out)); have n5_ := A_ (nl_ hg BK103.out); have n6_ := A_ (ng_ hg BK103.out); clear BK103; clear HB; have BK103 := n0_; have HB := n1_; have BK104 := n2_; have GW104 := n3_; have GE104 := n4_; have NB103_104 := n5_; have NB104_103 := n6_; clear n0_ n1_ n2_ n3_ n4_ n5_ n6_; clear hb hbox hg))
   have n0_ := A_ (blk_drew BK103.out)
   have n1_ := A_ (blk_drew BK104.out)
   have n2_ := A_ (below_drew1 HB.out)
   clear BK103;clear BK104;clear HB;have BK103 := n0_;have BK104 := n1_;have HB := n2_;clear n0_ n1_ n2_
   refine start_ (n := 25) (S := fun w' => w'.cell? ⟨gb103, 0, none⟩ = some (.int .i64 a0_0) ∧ w'.cell? ⟨gb103, 1, none⟩ = some (.int .i64 a0_1)) (ds := []) #[false, false, false, false, false, false, false, false, false, false, false, false, false, false, false, false, false, false, false, false, false, false, false, false, false] (by kernel_rfl) rfl rfl ⟨bc_ BK103.out 0, bc_ BK103.out 1⟩ (fun hHeld => ?_); refine with_tabW shape_format_split.tab1 shape_format_split.bits1 (fun HT_ HW_ => ?_)
   generalize w12.drew = w13 at BK103 BK104 HB hHeld ⊢
   refine pu_ 1 (some 6) #[false, true, false, false, false, false, false, false, false, false, false, false, false, false, false, false, false, false, false, false, false, false, false, false, false] rfl rfl (any_of HT_.out (by kernel_rfl)) ?_
   refine pu_ 2 (some 7) #[false, true, true, false, false, false, false, false, false, false, false, false, false, false, false, false, false, false, false, false, false, false, false, false, false] rfl rfl (any_of HT_.out (by kernel_rfl)) ?_
   refine pu_ 4 (some 9) #[false, true, true, false, true, false, false, false, false, false, false, false, false, false, false, false, false, false, false, false, false, false, false, false, false] rfl rfl (any_of HT_.out (by kernel_rfl)) ?_
   refine pu_ 10 (some 15) #[false, true, true, false, true, false, false, false, false, false, true, false, false, false, false, false, false, false, false, false, false, false, false, false, false] rfl rfl (any_of HT_.out (by kernel_rfl)) ?_
   refine pu_ 11 (some 16) #[false, true, true, false, true, false, false, false, false, false, true, true, false, false, false, false, false, false, false, false, false, false, false, false, false] rfl rfl (any_of HT_.out (by kernel_rfl)) ?_
   refine pu_ 17 (some 22) #[false, true, true, false, true, false, false, false, false, false, true, true, false, false, false, false, false, true, false, false, false, false, false, false, false] rfl rfl (any_of HT_.out (by kernel_rfl)) ?_
   refine pu_ 18 (some 23) #[false, true, true, false, true, false, false, false, false, false, true, true, false, false, false, false, false, true, true, false, false, false, false, false, false] rfl rfl (any_of HT_.out (by kernel_rfl)) ?_
   refine tk2_ 0 (some 5) #[true, true, true, false, true, false, false, false, false, false, true, true, false, false, false, false, false, true, true, false, false, false, false, false, false] rfl rfl (take_ofW HT_.out HW_.out (by kernel_rfl)) hHeld ?_
   refine tk2_ 3 (some 8) #[true, true, true, true, true, false, false, false, false, false, true, true, false, false, false, false, false, true, true, false, false, false, false, false, false] rfl rfl (take_ofW HT_.out HW_.out (by kernel_rfl)) hHeld ?_
   refine tk2_ 5 (some 10) #[true, true, true, true, true, true, false, false, false, false, true, true, false, false, false, false, false, true, true, false, false, false, false, false, false] rfl rfl (take_ofW HT_.out HW_.out (by kernel_rfl)) hHeld ?_
   refine pu_ 6 (some 11) #[true, true, true, true, true, true, true, false, false, false, true, true, false, false, false, false, false, true, true, false, false, false, false, false, false] rfl rfl (any_of HT_.out (by kernel_rfl)) ?_
   refine pu_ 7 (some 12) #[true, true, true, true, true, true, true, true, false, false, true, true, false, false, false, false, false, true, true, false, false, false, false, false, false] rfl rfl (any_of HT_.out (by kernel_rfl)) ?_
   refine pu_ 8 (some 13) #[true, true, true, true, true, true, true, true, true, false, true, true, false, false, false, false, false, true, true, false, false, false, false, false, false] rfl rfl (any_of HT_.out (by kernel_rfl)) ?_
   refine pu_ 9 (some 14) #[true, true, true, true, true, true, true, true, true, true, true, true, false, false, false, false, false, true, true, false, false, false, false, false, false] rfl rfl (any_of HT_.out (by kernel_rfl)) ?_
   refine tk2_ 12 (some 17) #[true, true, true, true, true, true, true, true, true, true, true, true, true, false, false, false, false, true, true, false, false, false, false, false, false] rfl rfl (take_ofW HT_.out HW_.out (by kernel_rfl)) hHeld ?_
   refine pu_ 13 (some 18) #[true, true, true, true, true, true, true, true, true, true, true, true, true, true, false, false, false, true, true, false, false, false, false, false, false] rfl rfl (any_of HT_.out (by kernel_rfl)) ?_
   refine tk2_ 14 (some 19) #[true, true, true, true, true, true, true, true, true, true, true, true, true, true, true, false, false, true, true, false, false, false, false, false, false] rfl rfl (take_ofW HT_.out HW_.out (by kernel_rfl)) hHeld ?_
   refine tk2_ 19 (some 24) #[true, true, true, true, true, true, true, true, true, true, true, true, true, true, true, false, false, true, true, true, false, false, false, false, false] rfl rfl (take_ofW HT_.out HW_.out (by kernel_rfl)) hHeld ?_
   refine pu_ 20 (some 25) #[true, true, true, true, true, true, true, true, true, true, true, true, true, true, true, false, false, true, true, true, true, false, false, false, false] rfl rfl (any_of HT_.out (by kernel_rfl)) ?_
   refine pu_ 21 (some 26) #[true, true, true, true, true, true, true, true, true, true, true, true, true, true, true, false, false, true, true, true, true, true, false, false, false] rfl rfl (any_of HT_.out (by kernel_rfl)) ?_
   refine pu_ 22 (some 27) #[true, true, true, true, true, true, true, true, true, true, true, true, true, true, true, false, false, true, true, true, true, true, true, false, false] rfl rfl (any_of HT_.out (by kernel_rfl)) ?_
   refine one_ (i := 15) (N := some 20) #[true, true, true, true, true, true, true, true, true, true, true, true, true, true, true, true, false, true, true, true, true, true, true, false, false] rfl rfl (one_of HT_.out (by kernel_rfl)) (by decide) (fun K hK => ?_)
   refine goes_ Try.func120 (by kernel_rfl) rfl #[.agg #[.int .i64 a0_0, .int .i64 a0_1]] (by rfl) rfl rfl mp_ ?_
   with_reducible refine (shape_format_ones.calls a0_0 a0_1 t105 _ A8.out).mono ?_
   rintro e w14 ⟨rfl, hb⟩
   refine ⟨_, rfl, ?_⟩
   have n0_ := A_ (bb_ BK103.out hb)
   have n1_ := A_ (bb_ BK104.out hb)
   have n2_ := A_ (below_step (hb2_ HB.out GE103.out GE104.out) hb)
   clear BK103;clear BK104;clear HB;have BK103 := n0_;have BK104 := n1_;have HB := n2_;clear n0_ n1_ n2_;(try clear hb);(try clear hb2);(try clear hk);(try clear hi)
   refine hK.out _ _ ⟨bc_ BK103.out 0, bc_ BK103.out 1⟩ (fun hHeld => ?_)
   clear hK K
   refine norm_ (a' := ?_) ?_ ?_
   rotate_left
   ·show Act.put _ (some 20) _ = _
    simp only [Act.put, lI_, l0_, lS_, i64_w, i32_w]
    rfl
   refine pu_ 16 (some 21) #[true, true, true, true, true, true, true, true, true, true, true, true, true, true, true, true, true, true, true, true, true, true, true, false, false] rfl rfl (any_of HT_.out (by kernel_rfl)) ?_
   refine pu_ 23 (some 28) #[true, true, true, true, true, true, true, true, true, true, true, true, true, true, true, true, true, true, true, true, true, true, true, true, false] rfl rfl (any_of HT_.out (by kernel_rfl)) ?_
   refine one_ (i := 24) (N := none) #[true, true, true, true, true, true, true, true, true, true, true, true, true, true, true, true, true, true, true, true, true, true, true, true, true] rfl rfl (one_of HT_.out (by kernel_rfl)) (by decide) (fun K hK => ?_)
   have hs15 : w14.cell? ⟨gb104, 0, none⟩ = some (.int .i64 0) := bc_ BK104.out 0
   have hfs15 := blk_frozen BK104.out 0
   have hns15_0 := NB103_104.out
   have hms15_0 := NB104_103.out
   have hs16 : w14.cell? ⟨gb104, 1, none⟩ = some (.int .i64 0) := bc_ BK104.out 1
   have hfs16 := blk_frozen BK104.out 1
   have hns16_0 := NB103_104.out
   have hms16_0 := NB104_103.out
   have hs17 : w14.cell? ⟨gb104, 2, none⟩ = some (.bool false) := bc_ BK104.out 2
   have hfs17 := blk_frozen BK104.out 2
   have hns17_0 := NB103_104.out
   have hms17_0 := NB104_103.out
   have hs18 : w14.cell? ⟨gb104, 3, none⟩ = some (.int .u64 0) := bc_ BK104.out 3
   have hfs18 := blk_frozen BK104.out 3
   have hns18_0 := NB103_104.out
   have hms18_0 := NB104_103.out
   have hs19 : w14.cell? ⟨gb104, 4, none⟩ = some (.int .u64 0) := bc_ BK104.out 4
   have hfs19 := blk_frozen BK104.out 4
   have hns19_0 := NB103_104.out
   have hms19_0 := NB104_103.out
   refine skip_ (w1 := ?_) (by rfl) rfl ?_ ?_
   rotate_left
   ·go_simp
    rfl
   refine hK.out _ _ ⟨((cell_far (p := ⟨gb104, _, none⟩) NB103_104.out _).trans (((cell_far (p := ⟨gb104, _, none⟩) NB103_104.out _).trans (((cell_far (p := ⟨gb104, _, none⟩) NB103_104.out _).trans (((cell_far (p := ⟨gb104, _, none⟩) NB103_104.out _).trans (((cell_far (p := ⟨gb104, _, none⟩) NB103_104.out _).trans (hHeld.1)))))))))), ((cell_far (p := ⟨gb104, _, none⟩) NB103_104.out _).trans (((cell_far (p := ⟨gb104, _, none⟩) NB103_104.out _).trans (((cell_far (p := ⟨gb104, _, none⟩) NB103_104.out _).trans (((cell_far (p := ⟨gb104, _, none⟩) NB103_104.out _).trans (((cell_far (p := ⟨gb104, _, none⟩) NB103_104.out _).trans (hHeld.2))))))))))⟩ (fun hHeld => ?_)
   clear hK K
   refine done_ (done_of HT_.out (by kernel_rfl)) ?_
   try go_wp2
   refine bodyPost_ret (results_cell_row rfl _ _ gb104 116 #[.int .i64 a0_0, .int .i64 a0_1, .bool ((Go.bits .and .u64 (ji5) 1) == 1), .int .u64 (Go.bits .and .u64 (ji7) t105), .int .u64 (Go.bits .and .u64 a1 (IntKind.u64.wrap ((ji10) - 1)))] (0, 0) _ rfl (by (with_reducible repeat (first | refine blk_drewN ?_ _ | refine blk_drew ?_ | refine blk_alloc ?_ _)); refine blk_put (cs := #[.int .i64 a0_0, .int .i64 a0_1, .bool ((Go.bits .and .u64 (ji5) 1) == 1), .int .u64 (Go.bits .and .u64 (ji7) t105), .int .u64 0]) ?_ 4 _ rfl; (with_reducible repeat (first | refine blk_drewN ?_ _ | refine blk_drew ?_ | refine blk_alloc ?_ _)); refine blk_put (cs := #[.int .i64 a0_0, .int .i64 a0_1, .bool ((Go.bits .and .u64 (ji5) 1) == 1), .int .u64 0, .int .u64 0]) ?_ 3 _ rfl; (with_reducible repeat (first | refine blk_drewN ?_ _ | refine blk_drew ?_ | refine blk_alloc ?_ _)); refine blk_put (cs := #[.int .i64 a0_0, .int .i64 a0_1, .bool false, .int .u64 0, .int .u64 0]) ?_ 2 _ rfl; (with_reducible repeat (first | refine blk_drewN ?_ _ | refine blk_drew ?_ | refine blk_alloc ?_ _)); refine blk_put (cs := #[.int .i64 a0_0, .int .i64 0, .bool false, .int .u64 0, .int .u64 0]) ?_ 1 _ rfl; (with_reducible repeat (first | refine blk_drewN ?_ _ | refine blk_drew ?_ | refine blk_alloc ?_ _)); refine blk_put (cs := #[.int .i64 0, .int .i64 0, .bool false, .int .u64 0, .int .u64 0]) ?_ 0 _ rfl; (with_reducible repeat (first | refine blk_drewN ?_ _ | refine blk_drew ?_ | refine blk_alloc ?_ _)); exact BK104.out) Try.underlying116 rfl (by kernel_rfl)) rfl ?_
   exact ⟨by first | rfl | (simp [errW_none, errW_some] <;> rfl) | (simp only [← hji3, ← hji5, ← hji7, ← hji10]; first | rfl | (simp [errW_none, errW_some] <;> rfl)) | (simp [*, errW_none, errW_some] <;> rfl), hb2_ HB.out GE103.out GE104.out⟩
  ·rw [if_neg c6] at H
   exact absurd H (by simp)
 ·rw [if_neg c4] at H
  exact absurd H (by simp)
mutual
def shape_Open.j0 : Nat → Bool → Int → Int → Bool → Int → Int → Option (Bool × Int × Int × Int)
 | 0, _, _, _, _, _, _ => none
 | k + 1, x19, x118000, x118001, x118002, x118003, x118004 => if x19 = true then (some (false, 3, 0, 0)) else ((shape_format_ones.f x118000 x118001).bind fun t119 => (if x118003 = t119 then (some (x118002, 2, 0, 0)) else (if x118003 = 0 then (shape_Open.j1 k (x118004 == 0) x118000 x118001 x118002 x118003 x118004) else (shape_Open.j1 k false x118000 x118001 x118002 x118003 x118004))))
def shape_Open.j1 : Nat → Bool → Int → Int → Bool → Int → Int → Option (Bool × Int × Int × Int)
 | 0, _, _, _, _, _, _ => none
 | k + 1, x42, x118000, x118001, x118002, x118003, x118004 => if x42 = true then (some (x118002, 0, 0, 0)) else (if x118003 = 0 then ((shape_format_low.f x118000 x118001).bind fun t120 => (some (x118002, 1, t120, x118004))) else ((shape_format_low.f x118000 x118001).bind fun t121 => (if 0 ≤ x118001 then (some (x118002, 1, wrap64 ((wrap64 (t121 + (wrap64 (x118003)))) - 1), Go.bits .or .u64 (shl .u64 1 x118001) x118004)) else (none))))
end
def shape_Open.f (k : Nat) (a0 : Int) (a1 : Int) : Option (Bool × Int × Int × Int) := (shape_of.f a0).bind fun bt108 => (if bt108.2.2 = true then ((shape_format_split.f bt108.1 bt108.2.1 a1).bind fun bt112 => ((shape_format_ones.f bt112.1 bt112.2.1).bind fun t118 => (if bt112.2.2.2.1 = t118 then (shape_Open.j0 k (bt112.2.2.2.2 != 0) bt112.1 bt112.2.1 bt112.2.2.1 bt112.2.2.2.1 bt112.2.2.2.2) else (shape_Open.j0 k false bt112.1 bt112.2.1 bt112.2.2.1 bt112.2.2.2.1 bt112.2.2.2.2)))) else (some (false, 0, 0, 0)))
theorem shape_Open.mono_l : ∀ k, (∀ y0 y1 y2 y3 y4 y5, LeO (shape_Open.j0 k y0 y1 y2 y3 y4 y5) (shape_Open.j0 (k + 1) y0 y1 y2 y3 y4 y5)) ∧ (∀ y0 y1 y2 y3 y4 y5, LeO (shape_Open.j1 k y0 y1 y2 y3 y4 y5) (shape_Open.j1 (k + 1) y0 y1 y2 y3 y4 y5))
 | 0 => ⟨fun _ _ _ _ _ _ r h => by simp [shape_Open.j0] at h, fun _ _ _ _ _ _ r h => by simp [shape_Open.j1] at h⟩
 | k + 1 => by
  obtain ⟨ih0, ih1⟩ := shape_Open.mono_l k
  refine ⟨?_, ?_⟩
  ·intro y0 y1 y2 y3 y4 y5
   unfold shape_Open.j0
   repeat' first
   | (with_reducible exact ih0 _ _ _ _ _ _)
   | (with_reducible exact ih1 _ _ _ _ _ _)
   | (with_reducible exact LeO.refl _)
   | (with_reducible exact LeO.none _)
   | (with_reducible refine LeO.ite ?_ ?_)
   | (with_reducible refine LeO.bind ?_ (fun _ => ?_))
   | exact ih0 _ _ _ _ _ _
   | exact ih1 _ _ _ _ _ _
   | exact LeO.none _
   | refine LeO.ite ?_ ?_
   | refine LeO.bind ?_ (fun _ => ?_)
  ·intro y0 y1 y2 y3 y4 y5
   unfold shape_Open.j1
   repeat' first
   | (with_reducible exact ih0 _ _ _ _ _ _)
   | (with_reducible exact ih1 _ _ _ _ _ _)
   | (with_reducible exact LeO.refl _)
   | (with_reducible exact LeO.none _)
   | (with_reducible refine LeO.ite ?_ ?_)
   | (with_reducible refine LeO.bind ?_ (fun _ => ?_))
   | exact ih0 _ _ _ _ _ _
   | exact ih1 _ _ _ _ _ _
   | exact LeO.none _
   | refine LeO.ite ?_ ?_
   | refine LeO.bind ?_ (fun _ => ?_)
theorem shape_Open.mono : ∀ a0 a1 k, LeO (shape_Open.f k a0 a1) (shape_Open.f (k + 1) a0 a1) := by
 intro a0 a1 k
 obtain ⟨ih0, ih1⟩ := shape_Open.mono_l k
 unfold shape_Open.f
 repeat' first
   | (with_reducible exact ih0 _ _ _ _ _ _)
   | (with_reducible exact ih1 _ _ _ _ _ _)
   | (with_reducible exact LeO.refl _)
   | (with_reducible exact LeO.none _)
   | (with_reducible refine LeO.ite ?_ ?_)
   | (with_reducible refine LeO.bind ?_ (fun _ => ?_))
   | exact ih0 _ _ _ _ _ _
   | exact ih1 _ _ _ _ _ _
   | exact LeO.none _
   | refine LeO.ite ?_ ?_
   | refine LeO.bind ?_ (fun _ => ?_)
def shape_Open.T5 : Bool × List (List Nat × List Nat) := (true, [([], []), ([0], [0]), ([], []), ([2], [2]), ([3], [3]), ([1, 4], [1, 4]), ([5, 4], [5]), ([6], [6]), ([7, 6], [6, 7]), ([8, 6], [6, 8]), ([6, 9], [6, 9]), ([10, 6], [10])])
def shape_Open.B5 : List Nat := [0, 1, 0, 4, 12, 31, 63, 127, 255, 511, 1023, 2047]
theorem shape_Open.tab5 : rtab .any (opsOf Try.f48 5) = shape_Open.T5 := by kernel_rfl
theorem shape_Open.bits5 : waitsOk shape_Open.T5.2 shape_Open.B5 = true := by kernel_rfl
def shape_Open.T12 : Bool × List (List Nat × List Nat) := (true, [([], []), ([0], [0]), ([], []), ([2], [2]), ([3], [3]), ([], []), ([5], [5]), ([1, 4, 6], [1, 4, 6]), ([7, 4, 0, 1, 2, 3, 4, 5, 6, 7], [7])])
def shape_Open.B12 : List Nat := [0, 1, 0, 4, 12, 0, 32, 127, 255]
theorem shape_Open.tab12 : rtab .any (opsOf Try.f48 12) = shape_Open.T12 := by kernel_rfl
theorem shape_Open.bits12 : waitsOk shape_Open.T12.2 shape_Open.B12 = true := by kernel_rfl
def shape_Open.T13 : Bool × List (List Nat × List Nat) := (true, [([], []), ([0], [0]), ([], []), ([2], [2]), ([3], [3]), ([], []), ([5], [5]), ([6], [6]), ([4, 7], [4, 7]), ([8], [8]), ([], []), ([10], [10]), ([11], [11]), ([12], [12]), ([], []), ([14], [14]), ([13, 15], [13, 15]), ([1, 9, 16], [1, 9, 16]), ([17, 4, 0, 1, 2, 3, 4, 5, 6, 7, 8, 9, 10, 11, 12, 13, 14, 15, 16, 17], [17])])
def shape_Open.B13 : List Nat := [0, 1, 0, 4, 12, 0, 32, 96, 252, 508, 0, 1024, 3072, 7168, 0, 16384, 64512, 131071, 262143]
theorem shape_Open.tab13 : rtab .any (opsOf Try.f48 13) = shape_Open.T13 := by kernel_rfl
theorem shape_Open.bits13 : waitsOk shape_Open.T13.2 shape_Open.B13 = true := by kernel_rfl
theorem shape_Open.calls (k : Nat) (a0 : Int) (a1 : Int) (r1 : Bool) (r2 : Int) (r3 : Int) (r4 : Int) (w : World) (h : shape_Open.f k a0 a1 = some (r1, r2, r3, r4)) :
  Calls Try.prog 48 #[.int .i64 a0, .int .u64 a1] w fun e w' => e = .returned (.agg #[.bool r1, .int .i64 r2, .int .i64 r3, .int .u64 r4]) ∧ Below w.heap.size w w' := by
 have hu50 := Try.underlying50
 have hu112 := Try.underlying112
 have hu116 := Try.underlying116
 have HB := A_ (Below.refl w.heap.size w)
 have H : ((shape_of.f a0).bind fun bt108 => (if bt108.2.2 = true then ((shape_format_split.f bt108.1 bt108.2.1 a1).bind fun bt112 => ((shape_format_ones.f bt112.1 bt112.2.1).bind fun t118 => (if bt112.2.2.2.1 = t118 then (shape_Open.j0 k (bt112.2.2.2.2 != 0) bt112.1 bt112.2.1 bt112.2.2.1 bt112.2.2.2.1 bt112.2.2.2.2) else (shape_Open.j0 k false bt112.1 bt112.2.1 bt112.2.2.1 bt112.2.2.2.1 bt112.2.2.2.2)))) else (some (false, 0, 0, 0)))) = some (r1, r2, r3, r4) := h
 clear h
 replace H := ob_ H
 obtain ⟨⟨t108, t109, t110⟩, A30, H⟩ := H
 replace H : (if t110 = true then ((shape_format_split.f t108 t109 a1).bind fun bt112 => ((shape_format_ones.f bt112.1 bt112.2.1).bind fun t118 => (if bt112.2.2.2.1 = t118 then (shape_Open.j0 k (bt112.2.2.2.2 != 0) bt112.1 bt112.2.1 bt112.2.2.1 bt112.2.2.2.1 bt112.2.2.2.2) else (shape_Open.j0 k false bt112.1 bt112.2.1 bt112.2.2.1 bt112.2.2.2.1 bt112.2.2.2.2)))) else (some (false, 0, 0, 0))) = some (r1, r2, r3, r4) := H
 have A3 := A_ A30;clear A30
 by_cases c4 : t110 = true
 ·subst c4
  have H1 : ((shape_format_split.f t108 t109 a1).bind fun bt112 => ((shape_format_ones.f bt112.1 bt112.2.1).bind fun t118 => (if bt112.2.2.2.1 = t118 then (shape_Open.j0 k (bt112.2.2.2.2 != 0) bt112.1 bt112.2.1 bt112.2.2.1 bt112.2.2.2.1 bt112.2.2.2.2) else (shape_Open.j0 k false bt112.1 bt112.2.1 bt112.2.2.1 bt112.2.2.2.1 bt112.2.2.2.2)))) = some (r1, r2, r3, r4) := by rw [if_pos rfl] at H; exact H
  clear H;have H := H1;clear H1
  replace H := ob_ H
  obtain ⟨⟨t112, t113, t114, t115, t116⟩, A50, H⟩ := H
  replace H : ((shape_format_ones.f t112 t113).bind fun t118 => (if t115 = t118 then (shape_Open.j0 k (t116 != 0) t112 t113 t114 t115 t116) else (shape_Open.j0 k false t112 t113 t114 t115 t116))) = some (r1, r2, r3, r4) := H
  have A5 := A_ A50;clear A50;have HC6 := A_ H;clear H
  go_enter Try.func48, Try.ntmps48
  go_upto_region 5 with (first | ((with_reducible refine gate_dst (N := 4) rfl ?_); refine be_ 4 #[.bool false, .int .i64 0, .int .i64 0, .int .u64 0] 50 ?_; intro gb107 hg w7 hbox hb; have n0_ := A_ (below_step (hb_ HB.out) hb); have n1_ := A_ (hbox); have n2_ := A_ (sz_ hg (hb_ HB.out)); have n3_ := A_ (sz_ hg (hb_ HB.out)); clear HB; have HB := n0_; have BK107 := n1_; have GW107 := n2_; have GE107 := n3_; clear n0_ n1_ n2_ n3_; clear hb hbox hg) | ((with_reducible refine gate_callee (f := 118) rfl ?_); refine gl_ (some 10) Try.func118 #[.int .i64 a0] ?_; (with_reducible refine (shape_of.calls a0 t108 t109 true _ A3.out).mono ?_); rintro e w8 ⟨rfl, hb⟩; refine ⟨_, rfl, ?_⟩; have n0_ := A_ (bb_ BK107.out hb); have n1_ := A_ (below_step (hb1_ HB.out GE107.out) hb); clear BK107; clear HB; have BK107 := n0_; have HB := n1_; clear n0_ n1_; (try clear hb); (try clear hb2); (try clear hk); (try clear hi)) | ((with_reducible refine gate_dst (N := 5) rfl ?_); refine be_ 5 #[.int .i64 0, .int .i64 0] 112 ?_; intro gb111 hg w9 hbox hb; have n0_ := A_ (bb_ BK107.out hb); have n1_ := A_ (below_step (hb1_ HB.out GE107.out) hb); have n2_ := A_ (hbox); have n3_ := A_ (sz_ hg (hb1_ HB.out GE107.out)); have n4_ := A_ (sz_ hg (hb1_ HB.out GE107.out)); have n5_ := A_ (nl_ hg BK107.out); have n6_ := A_ (ng_ hg BK107.out); clear BK107; clear HB; have BK107 := n0_; have HB := n1_; have BK111 := n2_; have GW111 := n3_; have GE111 := n4_; have NB107_111 := n5_; have NB111_107 := n6_; clear n0_ n1_ n2_ n3_ n4_ n5_ n6_; clear hb hbox hg; have hnb10 := NB111_107.out; have hnc10 := NB107_111.out; have hcz11_0 : w9.cell? ⟨gb111, 0, none⟩ = some (.int .i64 0) := bc_ BK111.out 0; have hcz11_1 : w9.cell? ⟨gb111, 1, none⟩ = some (.int .i64 0) := bc_ BK111.out 1; have hfz11_0 := blk_frozen BK111.out 0; have hfz11_1 := blk_frozen BK111.out 1) | ((with_reducible refine gate_callee (f := 119) rfl ?_); refine gl_ (some 18) Try.func119 #[.agg #[.int .i64 t108, .int .i64 t109], .int .u64 a1] ?_; (with_reducible refine (shape_format_split.calls t108 t109 a1 t112 t113 t114 t115 t116 _ A5.out).mono ?_); rintro e w12 ⟨rfl, hb⟩; refine ⟨_, rfl, ?_⟩; have n0_ := A_ (blk_below (g := gb107) (o := .cells #[.bool false, .int .i64 0, .int .i64 0, .int .u64 0] 50 (0, 0)) (bf2_ BK107.out NB107_111.out NB107_111.out) hb); have n1_ := A_ (blk_below (g := gb111) (o := .cells #[.int .i64 t108, .int .i64 t109] 112 (0, 0)) (by (with_reducible repeat (first | refine blk_drewN ?_ _ | refine blk_drew ?_ | refine blk_alloc ?_ _)); refine blk_put (cs := #[.int .i64 t108, .int .i64 0]) ?_ 1 _ rfl; (with_reducible repeat (first | refine blk_drewN ?_ _ | refine blk_drew ?_ | refine blk_alloc ?_ _)); refine blk_put (cs := #[.int .i64 0, .int .i64 0]) ?_ 0 _ rfl; (with_reducible repeat (first | refine blk_drewN ?_ _ | refine blk_drew ?_ | refine blk_alloc ?_ _)); exact BK111.out) hb); have n2_ := A_ (below_step (hb2_ HB.out GE107.out GE111.out) hb); clear BK107; clear BK111; clear HB; have BK107 := n0_; have BK111 := n1_; have HB := n2_; clear n0_ n1_ n2_; (try clear hb); (try clear hb2); (try clear hk); (try clear hi)) | ((with_reducible refine gate_dst (N := 7) rfl ?_); refine be_ 7 #[.int .i64 0, .int .i64 0, .bool false, .int .u64 0, .int .u64 0] 116 ?_; intro gb117 hg w13 hbox hb; have n0_ := A_ (bb_ BK107.out hb); have n1_ := A_ (bb_ BK111.out hb); have n2_ := A_ (below_step (hb2_ HB.out GE107.out GE111.out) hb); have n3_ := A_ (hbox); have n4_ := A_ (sz_ hg (hb2_ HB.out GE107.out GE111.out)); have n5_ := A_ (sz_ hg (hb2_ HB.out GE107.out GE111.out)); have n6_ := A_ (nl_ hg BK107.out); have n7_ := A_ (ng_ hg BK107.out); have n8_ := A_ (nl_ hg BK111.out); have n9_ := A_ (ng_ hg BK111.out); clear BK107; clear BK111; clear HB; have BK107 := n0_; have BK111 := n1_; have HB := n2_; have BK117 := n3_; have GW117 := n4_; have GE117 := n5_; have NB107_117 := n6_; have NB117_107 := n7_; have NB111_117 := n8_; have NB117_111 := n9_; clear n0_ n1_ n2_ n3_ n4_ n5_ n6_ n7_ n8_ n9_; clear hb hbox hg; have hnb14 := NB117_107.out; have hnc14 := NB107_117.out; have hnb15 := NB117_111.out; have hnc15 := NB111_117.out; have hcz16_0 : w13.cell? ⟨gb117, 0, none⟩ = some (.int .i64 0) := bc_ BK117.out 0; have hcz16_1 : w13.cell? ⟨gb117, 1, none⟩ = some (.int .i64 0) := bc_ BK117.out 1; have hcz16_2 : w13.cell? ⟨gb117, 2, none⟩ = some (.bool false) := bc_ BK117.out 2; have hcz16_3 : w13.cell? ⟨gb117, 3, none⟩ = some (.int .u64 0) := bc_ BK117.out 3; have hcz16_4 : w13.cell? ⟨gb117, 4, none⟩ = some (.int .u64 0) := bc_ BK117.out 4; have hfz16_0 := blk_frozen BK117.out 0; have hfz16_1 := blk_frozen BK117.out 1; have hfz16_2 := blk_frozen BK117.out 2; have hfz16_3 := blk_frozen BK117.out 3; have hfz16_4 := blk_frozen BK117.out 4))
  (try simp only [Act.put, lI_, l0_, lS_])
  go_cut [19] (fun v19 wc => ∃ (kq : Nat) (x19_5 : Bool), v19 = .bool x19_5 ∧ Aside0 (shape_Open.j0 kq x19_5 t112 t113 t114 t115 t116 = some (r1, r2, r3, r4)) ∧ Aside0 (kq ≤ k) ∧ Aside0 (wc.heap[gb107]? = some (.cells #[.bool false, .int .i64 0, .int .i64 0, .int .u64 0] 50 (0, 0))) ∧ Aside0 (wc.heap[gb111]? = some (.cells #[.int .i64 t108, .int .i64 t109] 112 (0, 0))) ∧ Aside0 (wc.heap[gb117]? = some (.cells #[.int .i64 t112, .int .i64 t113, .bool t114, .int .u64 t115, .int .u64 t116] 116 (0, 0))) ∧ Aside0 (Below w.heap.size w wc))
  case first =>
   have H := HC6.out
   clear HC6
   replace H := ob_ H
   obtain ⟨t118, A170, H⟩ := H
   replace H : (if t115 = t118 then (shape_Open.j0 k (t116 != 0) t112 t113 t114 t115 t116) else (shape_Open.j0 k false t112 t113 t114 t115 t116)) = some (r1, r2, r3, r4) := H
   have A17 := A_ A170;clear A170
   by_cases c18 : t115 = t118
   ·rw [if_pos c18] at H
    have c18b0 : (t115 == t118) = true := beq_iff_eq.mpr c18
    have c18b1 : (t115 != t118) = false := bne_eq_false_iff_eq.mpr c18
    clear c18
    (first | rw [c18b0] | (simp only [i64_w, i32_w]; rw [c18b0]) | skip)
    have H' := A_ H
    clear H
    try go_wp2
    have n0_ : Aside0 ((((((w13.setCell ⟨gb117, 0, none⟩ (.int .i64 t112)).setCell ⟨gb117, 1, none⟩ (.int .i64 t113)).setCell ⟨gb117, 2, none⟩ (.bool t114)).setCell ⟨gb117, 3, none⟩ (.int .u64 t115)).setCell ⟨gb117, 4, none⟩ (.int .u64 t116)).heap[gb107]? = some (.cells #[.bool false, .int .i64 0, .int .i64 0, .int .u64 0] 50 (0, 0))) := ⟨bf5_ BK107.out NB107_117.out NB107_117.out NB107_117.out NB107_117.out NB107_117.out⟩
    have n1_ : Aside0 ((((((w13.setCell ⟨gb117, 0, none⟩ (.int .i64 t112)).setCell ⟨gb117, 1, none⟩ (.int .i64 t113)).setCell ⟨gb117, 2, none⟩ (.bool t114)).setCell ⟨gb117, 3, none⟩ (.int .u64 t115)).setCell ⟨gb117, 4, none⟩ (.int .u64 t116)).heap[gb111]? = some (.cells #[.int .i64 t108, .int .i64 t109] 112 (0, 0))) := ⟨bf5_ BK111.out NB111_117.out NB111_117.out NB111_117.out NB111_117.out NB111_117.out⟩
    have n2_ : Aside0 ((((((w13.setCell ⟨gb117, 0, none⟩ (.int .i64 t112)).setCell ⟨gb117, 1, none⟩ (.int .i64 t113)).setCell ⟨gb117, 2, none⟩ (.bool t114)).setCell ⟨gb117, 3, none⟩ (.int .u64 t115)).setCell ⟨gb117, 4, none⟩ (.int .u64 t116)).heap[gb117]? = some (.cells #[.int .i64 t112, .int .i64 t113, .bool t114, .int .u64 t115, .int .u64 t116] 116 (0, 0))) := ⟨by (with_reducible repeat (first | refine blk_drewN ?_ _ | refine blk_drew ?_ | refine blk_alloc ?_ _)); refine blk_put (cs := #[.int .i64 t112, .int .i64 t113, .bool t114, .int .u64 t115, .int .u64 0]) ?_ 4 _ rfl; (with_reducible repeat (first | refine blk_drewN ?_ _ | refine blk_drew ?_ | refine blk_alloc ?_ _)); refine blk_put (cs := #[.int .i64 t112, .int .i64 t113, .bool t114, .int .u64 0, .int .u64 0]) ?_ 3 _ rfl; (with_reducible repeat (first | refine blk_drewN ?_ _ | refine blk_drew ?_ | refine blk_alloc ?_ _)); refine blk_put (cs := #[.int .i64 t112, .int .i64 t113, .bool false, .int .u64 0, .int .u64 0]) ?_ 2 _ rfl; (with_reducible repeat (first | refine blk_drewN ?_ _ | refine blk_drew ?_ | refine blk_alloc ?_ _)); refine blk_put (cs := #[.int .i64 t112, .int .i64 0, .bool false, .int .u64 0, .int .u64 0]) ?_ 1 _ rfl; (with_reducible repeat (first | refine blk_drewN ?_ _ | refine blk_drew ?_ | refine blk_alloc ?_ _)); refine blk_put (cs := #[.int .i64 0, .int .i64 0, .bool false, .int .u64 0, .int .u64 0]) ?_ 0 _ rfl; (with_reducible repeat (first | refine blk_drewN ?_ _ | refine blk_drew ?_ | refine blk_alloc ?_ _)); exact BK117.out⟩
    have n3_ : Aside0 (Below w.heap.size w (((((w13.setCell ⟨gb117, 0, none⟩ (.int .i64 t112)).setCell ⟨gb117, 1, none⟩ (.int .i64 t113)).setCell ⟨gb117, 2, none⟩ (.bool t114)).setCell ⟨gb117, 3, none⟩ (.int .u64 t115)).setCell ⟨gb117, 4, none⟩ (.int .u64 t116))) := ⟨hb3_ HB.out GE107.out GE111.out GE117.out⟩
    (try clear BK107);(try clear BK111);(try clear BK117);(try clear HB)
    generalize (((((w13.setCell ⟨gb117, 0, none⟩ (.int .i64 t112)).setCell ⟨gb117, 1, none⟩ (.int .i64 t113)).setCell ⟨gb117, 2, none⟩ (.bool t114)).setCell ⟨gb117, 3, none⟩ (.int .u64 t115)).setCell ⟨gb117, 4, none⟩ (.int .u64 t116)) = w19 at n0_ n1_ n2_ n3_ ⊢
    have BK107 := n0_;have BK111 := n1_;have BK117 := n2_;have HB := n3_;clear n0_ n1_ n2_ n3_
    have n0_ := A_ (blk_drew BK107.out)
    have n1_ := A_ (blk_drew BK111.out)
    have n2_ := A_ (blk_drew BK117.out)
    have n3_ := A_ (below_drew1 HB.out)
    clear BK107;clear BK111;clear BK117;clear HB;have BK107 := n0_;have BK111 := n1_;have BK117 := n2_;have HB := n3_;clear n0_ n1_ n2_ n3_
    refine start_ (n := 12) (S := fun w' => w'.cell? ⟨gb117, 0, none⟩ = some (.int .i64 t112) ∧ w'.cell? ⟨gb117, 1, none⟩ = some (.int .i64 t113) ∧ w'.cell? ⟨gb117, 2, none⟩ = some (.bool t114) ∧ w'.cell? ⟨gb117, 3, none⟩ = some (.int .u64 t115) ∧ w'.cell? ⟨gb117, 4, none⟩ = some (.int .u64 t116)) (ds := []) #[false, false, false, false, false, false, false, false, false, false, false, false] (by kernel_rfl) rfl rfl ⟨bc_ BK117.out 0, bc_ BK117.out 1, bc_ BK117.out 2, bc_ BK117.out 3, bc_ BK117.out 4⟩ (fun hHeld => ?_); refine with_tabW shape_Open.tab5 shape_Open.bits5 (fun HT_ HW_ => ?_)
    generalize w19.drew = w20 at BK107 BK111 BK117 HB hHeld ⊢
    refine pu_ 0 (some 20) #[true, false, false, false, false, false, false, false, false, false, false, false] rfl rfl (any_of HT_.out (by kernel_rfl)) ?_
    refine pu_ 2 (some 22) #[true, false, true, false, false, false, false, false, false, false, false, false] rfl rfl (any_of HT_.out (by kernel_rfl)) ?_
    refine tk5_ 1 (some 21) #[true, true, true, false, false, false, false, false, false, false, false, false] rfl rfl (take_ofW HT_.out HW_.out (by kernel_rfl)) hHeld ?_
    refine tk5_ 3 (some 23) #[true, true, true, true, false, false, false, false, false, false, false, false] rfl rfl (take_ofW HT_.out HW_.out (by kernel_rfl)) hHeld ?_
    refine one_ (i := 4) (N := some 24) #[true, true, true, true, true, false, false, false, false, false, false, false] rfl rfl (one_of HT_.out (by kernel_rfl)) (by decide) (fun K hK => ?_)
    refine goes_ Try.func120 (by kernel_rfl) rfl #[.agg #[.int .i64 t112, .int .i64 t113]] (by rfl) rfl rfl mp_ ?_
    with_reducible refine (shape_format_ones.calls t112 t113 t118 _ A17.out).mono ?_
    rintro e w21 ⟨rfl, hb⟩
    refine ⟨_, rfl, ?_⟩
    have n0_ := A_ (bb_ BK107.out hb)
    have n1_ := A_ (bb_ BK111.out hb)
    have n2_ := A_ (bb_ BK117.out hb)
    have n3_ := A_ (below_step (hb3_ HB.out GE107.out GE111.out GE117.out) hb)
    clear BK107;clear BK111;clear BK117;clear HB;have BK107 := n0_;have BK111 := n1_;have BK117 := n2_;have HB := n3_;clear n0_ n1_ n2_ n3_;(try clear hb);(try clear hb2);(try clear hk);(try clear hi)
    refine hK.out _ _ ⟨bc_ BK117.out 0, bc_ BK117.out 1, bc_ BK117.out 2, bc_ BK117.out 3, bc_ BK117.out 4⟩ (fun hHeld => ?_)
    clear hK K
    refine norm_ (a' := ?_) ?_ ?_
    rotate_left
    ·show Act.put _ (some 24) _ = _
     simp only [Act.put, lI_, l0_, lS_, i64_w, i32_w]
     rfl
    refine pu_ 5 (some 25) #[true, true, true, true, true, true, false, false, false, false, false, false] rfl rfl (any_of HT_.out (by kernel_rfl)) ?_
    refine pu_ 6 (some 26) #[true, true, true, true, true, true, true, false, false, false, false, false] rfl rfl (any_of HT_.out (by kernel_rfl)) ?_
    refine pu_ 7 (some 27) #[true, true, true, true, true, true, true, true, false, false, false, false] rfl rfl (any_of HT_.out (by kernel_rfl)) ?_
    refine tk5_ 8 (some 28) #[true, true, true, true, true, true, true, true, true, false, false, false] rfl rfl (take_ofW HT_.out HW_.out (by kernel_rfl)) hHeld ?_
    refine pu_ 9 (some 29) #[true, true, true, true, true, true, true, true, true, true, false, false] rfl rfl (any_of HT_.out (by kernel_rfl)) ?_
    refine pu_ 10 (some 30) #[true, true, true, true, true, true, true, true, true, true, true, false] rfl rfl (any_of HT_.out (by kernel_rfl)) ?_
    refine pu_ 11 (some 19) #[true, true, true, true, true, true, true, true, true, true, true, true] rfl rfl (any_of HT_.out (by kernel_rfl)) ?_
    refine done_ (done_of HT_.out (by kernel_rfl)) ?_
    try go_wp2
    go_meet
    case rel => exact ⟨_, ((t116 != 0)), sm_, H', ⟨by first | omega | exact Nat.le_refl _⟩, ⟨bk_ BK107.out⟩, ⟨bk_ BK111.out⟩, ⟨bk_ BK117.out⟩, ⟨hb3_ HB.out GE107.out GE111.out GE117.out⟩⟩
   ·rw [if_neg c18] at H
    have c18b0 : (t115 == t118) = false := beq_eq_false_iff_ne.mpr c18
    have c18b1 : (t115 != t118) = true := bne_iff_ne.mpr c18
    (first | rw [c18b0] | (simp only [i64_w, i32_w]; rw [c18b0]) | skip)
    have H' := A_ H
    clear H
    try go_wp2
    have n0_ : Aside0 ((((((w13.setCell ⟨gb117, 0, none⟩ (.int .i64 t112)).setCell ⟨gb117, 1, none⟩ (.int .i64 t113)).setCell ⟨gb117, 2, none⟩ (.bool t114)).setCell ⟨gb117, 3, none⟩ (.int .u64 t115)).setCell ⟨gb117, 4, none⟩ (.int .u64 t116)).heap[gb107]? = some (.cells #[.bool false, .int .i64 0, .int .i64 0, .int .u64 0] 50 (0, 0))) := ⟨bf5_ BK107.out NB107_117.out NB107_117.out NB107_117.out NB107_117.out NB107_117.out⟩
    have n1_ : Aside0 ((((((w13.setCell ⟨gb117, 0, none⟩ (.int .i64 t112)).setCell ⟨gb117, 1, none⟩ (.int .i64 t113)).setCell ⟨gb117, 2, none⟩ (.bool t114)).setCell ⟨gb117, 3, none⟩ (.int .u64 t115)).setCell ⟨gb117, 4, none⟩ (.int .u64 t116)).heap[gb111]? = some (.cells #[.int .i64 t108, .int .i64 t109] 112 (0, 0))) := ⟨bf5_ BK111.out NB111_117.out NB111_117.out NB111_117.out NB111_117.out NB111_117.out⟩
    have n2_ : Aside0 ((((((w13.setCell ⟨gb117, 0, none⟩ (.int .i64 t112)).setCell ⟨gb117, 1, none⟩ (.int .i64 t113)).setCell ⟨gb117, 2, none⟩ (.bool t114)).setCell ⟨gb117, 3, none⟩ (.int .u64 t115)).setCell ⟨gb117, 4, none⟩ (.int .u64 t116)).heap[gb117]? = some (.cells #[.int .i64 t112, .int .i64 t113, .bool t114, .int .u64 t115, .int .u64 t116] 116 (0, 0))) := ⟨by (with_reducible repeat (first | refine blk_drewN ?_ _ | refine blk_drew ?_ | refine blk_alloc ?_ _)); refine blk_put (cs := #[.int .i64 t112, .int .i64 t113, .bool t114, .int .u64 t115, .int .u64 0]) ?_ 4 _ rfl; (with_reducible repeat (first | refine blk_drewN ?_ _ | refine blk_drew ?_ | refine blk_alloc ?_ _)); refine blk_put (cs := #[.int .i64 t112, .int .i64 t113, .bool t114, .int .u64 0, .int .u64 0]) ?_ 3 _ rfl; (with_reducible repeat (first | refine blk_drewN ?_ _ | refine blk_drew ?_ | refine blk_alloc ?_ _)); refine blk_put (cs := #[.int .i64 t112, .int .i64 t113, .bool false, .int .u64 0, .int .u64 0]) ?_ 2 _ rfl; (with_reducible repeat (first | refine blk_drewN ?_ _ | refine blk_drew ?_ | refine blk_alloc ?_ _)); refine blk_put (cs := #[.int .i64 t112, .int .i64 0, .bool false, .int .u64 0, .int .u64 0]) ?_ 1 _ rfl; (with_reducible repeat (first | refine blk_drewN ?_ _ | refine blk_drew ?_ | refine blk_alloc ?_ _)); refine blk_put (cs := #[.int .i64 0, .int .i64 0, .bool false, .int .u64 0, .int .u64 0]) ?_ 0 _ rfl; (with_reducible repeat (first | refine blk_drewN ?_ _ | refine blk_drew ?_ | refine blk_alloc ?_ _)); exact BK117.out⟩
    have n3_ : Aside0 (Below w.heap.size w (((((w13.setCell ⟨gb117, 0, none⟩ (.int .i64 t112)).setCell ⟨gb117, 1, none⟩ (.int .i64 t113)).setCell ⟨gb117, 2, none⟩ (.bool t114)).setCell ⟨gb117, 3, none⟩ (.int .u64 t115)).setCell ⟨gb117, 4, none⟩ (.int .u64 t116))) := ⟨hb3_ HB.out GE107.out GE111.out GE117.out⟩
    (try clear BK107);(try clear BK111);(try clear BK117);(try clear HB)
    generalize (((((w13.setCell ⟨gb117, 0, none⟩ (.int .i64 t112)).setCell ⟨gb117, 1, none⟩ (.int .i64 t113)).setCell ⟨gb117, 2, none⟩ (.bool t114)).setCell ⟨gb117, 3, none⟩ (.int .u64 t115)).setCell ⟨gb117, 4, none⟩ (.int .u64 t116)) = w22 at n0_ n1_ n2_ n3_ ⊢
    have BK107 := n0_;have BK111 := n1_;have BK117 := n2_;have HB := n3_;clear n0_ n1_ n2_ n3_
    have n0_ := A_ (blk_drew BK107.out)
    have n1_ := A_ (blk_drew BK111.out)
    have n2_ := A_ (blk_drew BK117.out)
    have n3_ := A_ (below_drew1 HB.out)
    clear BK107;clear BK111;clear BK117;clear HB;have BK107 := n0_;have BK111 := n1_;have BK117 := n2_;have HB := n3_;clear n0_ n1_ n2_ n3_
    refine start_ (n := 12) (S := fun w' => w'.cell? ⟨gb117, 0, none⟩ = some (.int .i64 t112) ∧ w'.cell? ⟨gb117, 1, none⟩ = some (.int .i64 t113) ∧ w'.cell? ⟨gb117, 2, none⟩ = some (.bool t114) ∧ w'.cell? ⟨gb117, 3, none⟩ = some (.int .u64 t115) ∧ w'.cell? ⟨gb117, 4, none⟩ = some (.int .u64 t116)) (ds := []) #[false, false, false, false, false, false, false, false, false, false, false, false] (by kernel_rfl) rfl rfl ⟨bc_ BK117.out 0, bc_ BK117.out 1, bc_ BK117.out 2, bc_ BK117.out 3, bc_ BK117.out 4⟩ (fun hHeld => ?_); refine with_tabW shape_Open.tab5 shape_Open.bits5 (fun HT_ HW_ => ?_)
    generalize w22.drew = w23 at BK107 BK111 BK117 HB hHeld ⊢
    refine pu_ 0 (some 20) #[true, false, false, false, false, false, false, false, false, false, false, false] rfl rfl (any_of HT_.out (by kernel_rfl)) ?_
    refine pu_ 2 (some 22) #[true, false, true, false, false, false, false, false, false, false, false, false] rfl rfl (any_of HT_.out (by kernel_rfl)) ?_
    refine tk5_ 1 (some 21) #[true, true, true, false, false, false, false, false, false, false, false, false] rfl rfl (take_ofW HT_.out HW_.out (by kernel_rfl)) hHeld ?_
    refine tk5_ 3 (some 23) #[true, true, true, true, false, false, false, false, false, false, false, false] rfl rfl (take_ofW HT_.out HW_.out (by kernel_rfl)) hHeld ?_
    refine one_ (i := 4) (N := some 24) #[true, true, true, true, true, false, false, false, false, false, false, false] rfl rfl (one_of HT_.out (by kernel_rfl)) (by decide) (fun K hK => ?_)
    refine goes_ Try.func120 (by kernel_rfl) rfl #[.agg #[.int .i64 t112, .int .i64 t113]] (by rfl) rfl rfl mp_ ?_
    with_reducible refine (shape_format_ones.calls t112 t113 t118 _ A17.out).mono ?_
    rintro e w24 ⟨rfl, hb⟩
    refine ⟨_, rfl, ?_⟩
    have n0_ := A_ (bb_ BK107.out hb)
    have n1_ := A_ (bb_ BK111.out hb)
    have n2_ := A_ (bb_ BK117.out hb)
    have n3_ := A_ (below_step (hb3_ HB.out GE107.out GE111.out GE117.out) hb)
    clear BK107;clear BK111;clear BK117;clear HB;have BK107 := n0_;have BK111 := n1_;have BK117 := n2_;have HB := n3_;clear n0_ n1_ n2_ n3_;(try clear hb);(try clear hb2);(try clear hk);(try clear hi)
    refine hK.out _ _ ⟨bc_ BK117.out 0, bc_ BK117.out 1, bc_ BK117.out 2, bc_ BK117.out 3, bc_ BK117.out 4⟩ (fun hHeld => ?_)
    clear hK K
    refine norm_ (a' := ?_) ?_ ?_
    rotate_left
    ·show Act.put _ (some 24) _ = _
     simp only [Act.put, lI_, l0_, lS_, i64_w, i32_w]
     rfl
    refine pu_ 5 (some 25) #[true, true, true, true, true, true, false, false, false, false, false, false] rfl rfl (any_of HT_.out (by kernel_rfl)) ?_
    refine pu_ 6 (some 26) #[true, true, true, true, true, true, true, false, false, false, false, false] rfl rfl (any_of HT_.out (by kernel_rfl)) ?_
    refine pure_ (i := 7) (N := some 27) (v := undef) (a' := ?_) #[true, true, true, true, true, true, true, true, false, false, false, false] rfl rfl (any_of HT_.out (by kernel_rfl)) (fun _ _ _ h => h) (Or.inr ⟨by rfl, rfl⟩) ?_ ?_
    rotate_left
    ·simp only [Act.put, lI_, l0_, lS_, i64_w, i32_w]
     rfl
    refine pure_ (i := 8) (N := some 28) (v := undef) (a' := ?_) #[true, true, true, true, true, true, true, true, true, false, false, false] rfl rfl (any_of HT_.out (by kernel_rfl)) (fun _ _ _ h => h) (Or.inr ⟨by rfl, rfl⟩) ?_ ?_
    rotate_left
    ·simp only [Act.put, lI_, l0_, lS_, i64_w, i32_w]
     rfl
    refine pure_ (i := 9) (N := some 29) (v := undef) (a' := ?_) #[true, true, true, true, true, true, true, true, true, true, false, false] rfl rfl (any_of HT_.out (by kernel_rfl)) (fun _ _ _ h => h) (Or.inr ⟨by rfl, rfl⟩) ?_ ?_
    rotate_left
    ·simp only [Act.put, lI_, l0_, lS_, i64_w, i32_w]
     rfl
    refine pu_ 10 (some 30) #[true, true, true, true, true, true, true, true, true, true, true, false] rfl rfl (any_of HT_.out (by kernel_rfl)) ?_
    refine pu_ 11 (some 19) #[true, true, true, true, true, true, true, true, true, true, true, true] rfl rfl (any_of HT_.out (by kernel_rfl)) ?_
    refine done_ (done_of HT_.out (by kernel_rfl)) ?_
    try go_wp2
    go_meet
    case rel => exact ⟨_, (false), sm_, H', ⟨by first | omega | exact Nat.le_refl _⟩, ⟨bk_ BK107.out⟩, ⟨bk_ BK111.out⟩, ⟨bk_ BK117.out⟩, ⟨hb3_ HB.out GE107.out GE111.out GE117.out⟩⟩
  case rest =>
   clear HC6
   try clear c1
   try clear p2
   try clear c4
   try clear c10
   try clear c11
   try clear c12
   try clear c14
   try clear c15
   try clear c18
   try clear c18b0
   try clear c18b1
   try clear hcz11_0
   try clear hcz11_1
   try clear hcz16_0
   try clear hcz16_1
   try clear hcz16_2
   try clear hcz16_3
   try clear hcz16_4
   try clear hfz11_0
   try clear hfz11_1
   try clear hfz16_0
   try clear hfz16_1
   try clear hfz16_2
   try clear hfz16_3
   try clear hfz16_4
   obtain ⟨kq, x19_5, rfl, HA, HJ5, BK107, BK111, BK117, HB⟩ := hcut
   cases kq with
   | zero => exact absurd HA.out (by simp [shape_Open.j0])
   | succ kj5 =>
    have H := HA.out
    clear HA
    simp only [shape_Open.j0] at H
    by_cases c25 : x19_5 = true
    ·subst c25
     have H1 : (some (false, 3, 0, 0)) = some (r1, r2, r3, r4) := by rw [if_pos rfl] at H; exact H
     clear H;have H := H1;clear H1
     simp only [Option.some.injEq, Prod.mk.injEq] at H
     obtain ⟨rfl, rfl, rfl, rfl⟩ := H
     have hnb26 := NB107_111.out
     have hnc26 := NB111_107.out
     have hnb27 := NB107_117.out
     have hnc27 := NB117_107.out
     have hcz28_0 : wc.cell? ⟨gb107, 0, none⟩ = some (.bool false) := bc_ BK107.out 0
     have hcz28_1 : wc.cell? ⟨gb107, 1, none⟩ = some (.int .i64 0) := bc_ BK107.out 1
     have hcz28_2 : wc.cell? ⟨gb107, 2, none⟩ = some (.int .i64 0) := bc_ BK107.out 2
     have hcz28_3 : wc.cell? ⟨gb107, 3, none⟩ = some (.int .u64 0) := bc_ BK107.out 3
     have hfz28_0 := blk_frozen BK107.out 0
     have hfz28_1 := blk_frozen BK107.out 1
     have hfz28_2 := blk_frozen BK107.out 2
     have hfz28_3 := blk_frozen BK107.out 3
     go_wp2
     refine bodyPost_ret (results_cell_row rfl _ _ gb107 50 #[.bool false, .int .i64 3, .int .i64 0, .int .u64 0] (0, 0) _ rfl (by (with_reducible repeat (first | refine blk_drewN ?_ _ | refine blk_drew ?_ | refine blk_alloc ?_ _)); refine blk_put (cs := #[.bool false, .int .i64 3, .int .i64 0, .int .u64 0]) ?_ 3 _ rfl; (with_reducible repeat (first | refine blk_drewN ?_ _ | refine blk_drew ?_ | refine blk_alloc ?_ _)); refine blk_put (cs := #[.bool false, .int .i64 3, .int .i64 0, .int .u64 0]) ?_ 2 _ rfl; (with_reducible repeat (first | refine blk_drewN ?_ _ | refine blk_drew ?_ | refine blk_alloc ?_ _)); refine blk_put (cs := #[.bool false, .int .i64 0, .int .i64 0, .int .u64 0]) ?_ 1 _ rfl; (with_reducible repeat (first | refine blk_drewN ?_ _ | refine blk_drew ?_ | refine blk_alloc ?_ _)); refine blk_put (cs := #[.bool false, .int .i64 0, .int .i64 0, .int .u64 0]) ?_ 0 _ rfl; (with_reducible repeat (first | refine blk_drewN ?_ _ | refine blk_drew ?_ | refine blk_alloc ?_ _)); exact BK107.out) Try.underlying50 rfl (by kernel_rfl)) rfl ?_
     exact ⟨er_, hb3_ HB.out GE107.out GE111.out GE117.out⟩
    ·replace c25 := Bool.eq_false_iff.mpr c25
     subst c25
     have H1 : ((shape_format_ones.f t112 t113).bind fun t119 => (if t115 = t119 then (some (t114, 2, 0, 0)) else (if t115 = 0 then (shape_Open.j1 kj5 (t116 == 0) t112 t113 t114 t115 t116) else (shape_Open.j1 kj5 false t112 t113 t114 t115 t116)))) = some (r1, r2, r3, r4) := by rw [if_neg (show ¬ (false = true) by decide)] at H; exact H
     clear H;have H := H1;clear H1
     replace H := ob_ H
     obtain ⟨t119, A290, H⟩ := H
     replace H : (if t115 = t119 then (some (t114, 2, 0, 0)) else (if t115 = 0 then (shape_Open.j1 kj5 (t116 == 0) t112 t113 t114 t115 t116) else (shape_Open.j1 kj5 false t112 t113 t114 t115 t116))) = some (r1, r2, r3, r4) := H
     have A29 := A_ A290;clear A290
     by_cases c30 : t115 = t119
     ·rw [if_pos c30] at H
      have c30b0 : (t115 == t119) = true := beq_iff_eq.mpr c30
      have c30b1 : (t115 != t119) = false := bne_eq_false_iff_eq.mpr c30
      clear c30
      simp only [Option.some.injEq, Prod.mk.injEq] at H
      obtain ⟨rfl, rfl, rfl, rfl⟩ := H
      try go_wp2
      have n0_ := A_ (blk_drew BK107.out)
      have n1_ := A_ (blk_drew BK111.out)
      have n2_ := A_ (blk_drew BK117.out)
      have n3_ := A_ (below_drew1 HB.out)
      clear BK107;clear BK111;clear BK117;clear HB;have BK107 := n0_;have BK111 := n1_;have BK117 := n2_;have HB := n3_;clear n0_ n1_ n2_ n3_
      refine start_ (n := 7) (S := fun w' => w'.cell? ⟨gb117, 0, none⟩ = some (.int .i64 t112) ∧ w'.cell? ⟨gb117, 1, none⟩ = some (.int .i64 t113) ∧ w'.cell? ⟨gb117, 2, none⟩ = some (.bool t114) ∧ w'.cell? ⟨gb117, 3, none⟩ = some (.int .u64 t115) ∧ w'.cell? ⟨gb117, 4, none⟩ = some (.int .u64 t116)) (ds := []) #[false, false, false, false, false, false, false] (by kernel_rfl) rfl rfl ⟨bc_ BK117.out 0, bc_ BK117.out 1, bc_ BK117.out 2, bc_ BK117.out 3, bc_ BK117.out 4⟩ (fun hHeld => ?_)
      generalize wc.drew = w31 at BK107 BK111 BK117 HB hHeld ⊢
      refine pu_ 0 (some 33) #[true, false, false, false, false, false, false] rfl rfl (by kernel_rfl) ?_
      refine pu_ 2 (some 35) #[true, false, true, false, false, false, false] rfl rfl (by kernel_rfl) ?_
      refine tk5_ 1 (some 34) #[true, true, true, false, false, false, false] rfl rfl (by kernel_rfl) hHeld ?_
      refine tk5_ 3 (some 36) #[true, true, true, true, false, false, false] rfl rfl (by kernel_rfl) hHeld ?_
      refine one_ (i := 4) (N := some 37) #[true, true, true, true, true, false, false] rfl rfl (by kernel_rfl) (by decide) (fun K hK => ?_)
      refine goes_ Try.func120 (by kernel_rfl) rfl #[.agg #[.int .i64 t112, .int .i64 t113]] (by rfl) rfl rfl mp_ ?_
      with_reducible refine (shape_format_ones.calls t112 t113 t119 _ A29.out).mono ?_
      rintro e w32 ⟨rfl, hb⟩
      refine ⟨_, rfl, ?_⟩
      have n0_ := A_ (bb_ BK107.out hb)
      have n1_ := A_ (bb_ BK111.out hb)
      have n2_ := A_ (bb_ BK117.out hb)
      have n3_ := A_ (below_step (hb3_ HB.out GE107.out GE111.out GE117.out) hb)
      clear BK107;clear BK111;clear BK117;clear HB;have BK107 := n0_;have BK111 := n1_;have BK117 := n2_;have HB := n3_;clear n0_ n1_ n2_ n3_;(try clear hb);(try clear hb2);(try clear hk);(try clear hi)
      refine hK.out _ _ ⟨bc_ BK117.out 0, bc_ BK117.out 1, bc_ BK117.out 2, bc_ BK117.out 3, bc_ BK117.out 4⟩ (fun hHeld => ?_)
      clear hK K
      refine norm_ (a' := ?_) ?_ ?_
      rotate_left
      ·show Act.put _ (some 37) _ = _
       simp only [Act.put, lI_, l0_, lS_, i64_w, i32_w]
       rfl
      refine pu_ 5 (some 38) #[true, true, true, true, true, true, false] rfl rfl (by kernel_rfl) ?_
      refine pu_ 6 (some 32) #[true, true, true, true, true, true, true] rfl rfl (by kernel_rfl) ?_
      refine done_ (by kernel_rfl) ?_
      have hnb33 := NB117_107.out
      have hnc33 := NB107_117.out
      have hnb34 := NB117_111.out
      have hnc34 := NB111_117.out
      have hcz35_0 : w32.cell? ⟨gb117, 0, none⟩ = some (.int .i64 t112) := bc_ BK117.out 0
      have hcz35_1 : w32.cell? ⟨gb117, 1, none⟩ = some (.int .i64 t113) := bc_ BK117.out 1
      have hcz35_2 : w32.cell? ⟨gb117, 2, none⟩ = some (.bool t114) := bc_ BK117.out 2
      have hcz35_3 : w32.cell? ⟨gb117, 3, none⟩ = some (.int .u64 t115) := bc_ BK117.out 3
      have hcz35_4 : w32.cell? ⟨gb117, 4, none⟩ = some (.int .u64 t116) := bc_ BK117.out 4
      have hfz35_0 := blk_frozen BK117.out 0
      have hfz35_1 := blk_frozen BK117.out 1
      have hfz35_2 := blk_frozen BK117.out 2
      have hfz35_3 := blk_frozen BK117.out 3
      have hfz35_4 := blk_frozen BK117.out 4
      have hnb36 := NB107_111.out
      have hnc36 := NB111_107.out
      have hcz37_0 : w32.cell? ⟨gb107, 0, none⟩ = some (.bool false) := bc_ BK107.out 0
      have hcz37_1 : w32.cell? ⟨gb107, 1, none⟩ = some (.int .i64 0) := bc_ BK107.out 1
      have hcz37_2 : w32.cell? ⟨gb107, 2, none⟩ = some (.int .i64 0) := bc_ BK107.out 2
      have hcz37_3 : w32.cell? ⟨gb107, 3, none⟩ = some (.int .u64 0) := bc_ BK107.out 3
      have hfz37_0 := blk_frozen BK107.out 0
      have hfz37_1 := blk_frozen BK107.out 1
      have hfz37_2 := blk_frozen BK107.out 2
      have hfz37_3 := blk_frozen BK107.out 3
      try go_wp2
      refine bodyPost_ret (results_cell_row rfl _ _ gb107 50 #[.bool t114, .int .i64 2, .int .i64 0, .int .u64 0] (0, 0) _ rfl (by (with_reducible repeat (first | refine blk_drewN ?_ _ | refine blk_drew ?_ | refine blk_alloc ?_ _)); refine blk_put (cs := #[.bool t114, .int .i64 2, .int .i64 0, .int .u64 0]) ?_ 3 _ rfl; (with_reducible repeat (first | refine blk_drewN ?_ _ | refine blk_drew ?_ | refine blk_alloc ?_ _)); refine blk_put (cs := #[.bool t114, .int .i64 2, .int .i64 0, .int .u64 0]) ?_ 2 _ rfl; (with_reducible repeat (first | refine blk_drewN ?_ _ | refine blk_drew ?_ | refine blk_alloc ?_ _)); refine blk_put (cs := #[.bool t114, .int .i64 0, .int .i64 0, .int .u64 0]) ?_ 1 _ rfl; (with_reducible repeat (first | refine blk_drewN ?_ _ | refine blk_drew ?_ | refine blk_alloc ?_ _)); refine blk_put (cs := #[.bool false, .int .i64 0, .int .i64 0, .int .u64 0]) ?_ 0 _ rfl; (with_reducible repeat (first | refine blk_drewN ?_ _ | refine blk_drew ?_ | refine blk_alloc ?_ _)); exact BK107.out) Try.underlying50 rfl (by kernel_rfl)) rfl ?_
      exact ⟨er_, hb3_ HB.out GE107.out GE111.out GE117.out⟩
     ·rw [if_neg c30] at H
      have c30b0 : (t115 == t119) = false := beq_eq_false_iff_ne.mpr c30
      have c30b1 : (t115 != t119) = true := bne_iff_ne.mpr c30
      have HC38 := A_ H;clear H
      try go_wp2
      have n0_ := A_ (blk_drew BK107.out)
      have n1_ := A_ (blk_drew BK111.out)
      have n2_ := A_ (blk_drew BK117.out)
      have n3_ := A_ (below_drew1 HB.out)
      clear BK107;clear BK111;clear BK117;clear HB;have BK107 := n0_;have BK111 := n1_;have BK117 := n2_;have HB := n3_;clear n0_ n1_ n2_ n3_
      refine start_ (n := 7) (S := fun w' => w'.cell? ⟨gb117, 0, none⟩ = some (.int .i64 t112) ∧ w'.cell? ⟨gb117, 1, none⟩ = some (.int .i64 t113) ∧ w'.cell? ⟨gb117, 2, none⟩ = some (.bool t114) ∧ w'.cell? ⟨gb117, 3, none⟩ = some (.int .u64 t115) ∧ w'.cell? ⟨gb117, 4, none⟩ = some (.int .u64 t116)) (ds := []) #[false, false, false, false, false, false, false] (by kernel_rfl) rfl rfl ⟨bc_ BK117.out 0, bc_ BK117.out 1, bc_ BK117.out 2, bc_ BK117.out 3, bc_ BK117.out 4⟩ (fun hHeld => ?_)
      generalize wc.drew = w39 at BK107 BK111 BK117 HB hHeld ⊢
      refine pu_ 0 (some 33) #[true, false, false, false, false, false, false] rfl rfl (by kernel_rfl) ?_
      refine pu_ 2 (some 35) #[true, false, true, false, false, false, false] rfl rfl (by kernel_rfl) ?_
      refine tk5_ 1 (some 34) #[true, true, true, false, false, false, false] rfl rfl (by kernel_rfl) hHeld ?_
      refine tk5_ 3 (some 36) #[true, true, true, true, false, false, false] rfl rfl (by kernel_rfl) hHeld ?_
      refine one_ (i := 4) (N := some 37) #[true, true, true, true, true, false, false] rfl rfl (by kernel_rfl) (by decide) (fun K hK => ?_)
      refine goes_ Try.func120 (by kernel_rfl) rfl #[.agg #[.int .i64 t112, .int .i64 t113]] (by rfl) rfl rfl mp_ ?_
      with_reducible refine (shape_format_ones.calls t112 t113 t119 _ A29.out).mono ?_
      rintro e w40 ⟨rfl, hb⟩
      refine ⟨_, rfl, ?_⟩
      have n0_ := A_ (bb_ BK107.out hb)
      have n1_ := A_ (bb_ BK111.out hb)
      have n2_ := A_ (bb_ BK117.out hb)
      have n3_ := A_ (below_step (hb3_ HB.out GE107.out GE111.out GE117.out) hb)
      clear BK107;clear BK111;clear BK117;clear HB;have BK107 := n0_;have BK111 := n1_;have BK117 := n2_;have HB := n3_;clear n0_ n1_ n2_ n3_;(try clear hb);(try clear hb2);(try clear hk);(try clear hi)
      refine hK.out _ _ ⟨bc_ BK117.out 0, bc_ BK117.out 1, bc_ BK117.out 2, bc_ BK117.out 3, bc_ BK117.out 4⟩ (fun hHeld => ?_)
      clear hK K
      refine norm_ (a' := ?_) ?_ ?_
      rotate_left
      ·show Act.put _ (some 37) _ = _
       simp only [Act.put, lI_, l0_, lS_, i64_w, i32_w]
       rfl
      refine pu_ 5 (some 38) #[true, true, true, true, true, true, false] rfl rfl (by kernel_rfl) ?_
      refine pu_ 6 (some 32) #[true, true, true, true, true, true, true] rfl rfl (by kernel_rfl) ?_
      refine done_ (by kernel_rfl) ?_
      go_upto_region 9 with (fail)
      go_cut [42] (fun v42 wc => ∃ (kq : Nat) (x42_37 : Bool), v42 = .bool x42_37 ∧ Aside0 (shape_Open.j1 kq x42_37 t112 t113 t114 t115 t116 = some (r1, r2, r3, r4)) ∧ Aside0 (kq ≤ kj5) ∧ Aside0 (wc.heap[gb107]? = some (.cells #[.bool false, .int .i64 0, .int .i64 0, .int .u64 0] 50 (0, 0))) ∧ Aside0 (wc.heap[gb111]? = some (.cells #[.int .i64 t108, .int .i64 t109] 112 (0, 0))) ∧ Aside0 (wc.heap[gb117]? = some (.cells #[.int .i64 t112, .int .i64 t113, .bool t114, .int .u64 t115, .int .u64 t116] 116 (0, 0))) ∧ Aside0 (Below w.heap.size w wc))
      case first =>
       have H := HC38.out
       clear HC38
       by_cases c41 : t115 = 0
       ·rw [if_pos c41] at H
        have c41b0 : (t115 == 0) = true := beq_iff_eq.mpr c41
        have c41b1 : (t115 != 0) = false := bne_eq_false_iff_eq.mpr c41
        clear c41
        (first | rw [c41b0] | (simp only [i64_w, i32_w]; rw [c41b0]) | skip)
        have H' := A_ H
        clear H
        have hnb42 := NB117_107.out
        have hnc42 := NB107_117.out
        have hnb43 := NB117_111.out
        have hnc43 := NB111_117.out
        have hcz44_0 : w40.cell? ⟨gb117, 0, none⟩ = some (.int .i64 t112) := bc_ BK117.out 0
        have hcz44_1 : w40.cell? ⟨gb117, 1, none⟩ = some (.int .i64 t113) := bc_ BK117.out 1
        have hcz44_2 : w40.cell? ⟨gb117, 2, none⟩ = some (.bool t114) := bc_ BK117.out 2
        have hcz44_3 : w40.cell? ⟨gb117, 3, none⟩ = some (.int .u64 t115) := bc_ BK117.out 3
        have hcz44_4 : w40.cell? ⟨gb117, 4, none⟩ = some (.int .u64 t116) := bc_ BK117.out 4
        have hfz44_0 := blk_frozen BK117.out 0
        have hfz44_1 := blk_frozen BK117.out 1
        have hfz44_2 := blk_frozen BK117.out 2
        have hfz44_3 := blk_frozen BK117.out 3
        have hfz44_4 := blk_frozen BK117.out 4
        go_wp2
        go_meet
        case rel => exact ⟨_, ((t116 == 0)), sm_, H', ⟨by have := HJ5.out; first | omega | exact Nat.le_refl _⟩, ⟨bk_ BK107.out⟩, ⟨bk_ BK111.out⟩, ⟨bk_ BK117.out⟩, ⟨hb3_ HB.out GE107.out GE111.out GE117.out⟩⟩
       ·rw [if_neg c41] at H
        have c41b0 : (t115 == 0) = false := beq_eq_false_iff_ne.mpr c41
        have c41b1 : (t115 != 0) = true := bne_iff_ne.mpr c41
        (first | rw [c41b0] | (simp only [i64_w, i32_w]; rw [c41b0]) | skip)
        have H' := A_ H
        clear H
        have hnb45 := NB117_107.out
        have hnc45 := NB107_117.out
        have hnb46 := NB117_111.out
        have hnc46 := NB111_117.out
        have hcz47_0 : w40.cell? ⟨gb117, 0, none⟩ = some (.int .i64 t112) := bc_ BK117.out 0
        have hcz47_1 : w40.cell? ⟨gb117, 1, none⟩ = some (.int .i64 t113) := bc_ BK117.out 1
        have hcz47_2 : w40.cell? ⟨gb117, 2, none⟩ = some (.bool t114) := bc_ BK117.out 2
        have hcz47_3 : w40.cell? ⟨gb117, 3, none⟩ = some (.int .u64 t115) := bc_ BK117.out 3
        have hcz47_4 : w40.cell? ⟨gb117, 4, none⟩ = some (.int .u64 t116) := bc_ BK117.out 4
        have hfz47_0 := blk_frozen BK117.out 0
        have hfz47_1 := blk_frozen BK117.out 1
        have hfz47_2 := blk_frozen BK117.out 2
        have hfz47_3 := blk_frozen BK117.out 3
        have hfz47_4 := blk_frozen BK117.out 4
        go_wp2
        go_meet
        case rel => exact ⟨_, (false), sm_, H', ⟨by have := HJ5.out; first | omega | exact Nat.le_refl _⟩, ⟨bk_ BK107.out⟩, ⟨bk_ BK111.out⟩, ⟨bk_ BK117.out⟩, ⟨hb3_ HB.out GE107.out GE111.out GE117.out⟩⟩
      case rest =>
       clear HC38
       try clear c1
       try clear c2
       try clear p2
       try clear c3
       try clear c4
       try clear c10
       try clear c11
       try clear c12
       try clear c14
       try clear c15
       try clear c18
       try clear c18b0
       try clear c18b1
       try clear c25
       try clear c26
       try clear c27
       try clear c30
       try clear c30b0
       try clear c30b1
       try clear c33
       try clear c34
       try clear c36
       try clear c41
       try clear c41b0
       try clear c41b1
       try clear c42
       try clear c43
       try clear c45
       try clear c46
       try clear hcz11_0
       try clear hcz11_1
       try clear hcz16_0
       try clear hcz16_1
       try clear hcz16_2
       try clear hcz16_3
       try clear hcz16_4
       try clear hcz28_0
       try clear hcz28_1
       try clear hcz28_2
       try clear hcz28_3
       try clear hcz35_0
       try clear hcz35_1
       try clear hcz35_2
       try clear hcz35_3
       try clear hcz35_4
       try clear hcz37_0
       try clear hcz37_1
       try clear hcz37_2
       try clear hcz37_3
       try clear hcz44_0
       try clear hcz44_1
       try clear hcz44_2
       try clear hcz44_3
       try clear hcz44_4
       try clear hcz47_0
       try clear hcz47_1
       try clear hcz47_2
       try clear hcz47_3
       try clear hcz47_4
       try clear hfz11_0
       try clear hfz11_1
       try clear hfz16_0
       try clear hfz16_1
       try clear hfz16_2
       try clear hfz16_3
       try clear hfz16_4
       try clear hfz28_0
       try clear hfz28_1
       try clear hfz28_2
       try clear hfz28_3
       try clear hfz35_0
       try clear hfz35_1
       try clear hfz35_2
       try clear hfz35_3
       try clear hfz35_4
       try clear hfz37_0
       try clear hfz37_1
       try clear hfz37_2
       try clear hfz37_3
       try clear hfz44_0
       try clear hfz44_1
       try clear hfz44_2
       try clear hfz44_3
       try clear hfz44_4
       try clear hfz47_0
       try clear hfz47_1
       try clear hfz47_2
       try clear hfz47_3
       try clear hfz47_4
       try clear p2
       obtain ⟨kq, x42_37, rfl, HA, HJ37, BK107, BK111, BK117, HB⟩ := hcut
       cases kq with
       | zero => exact absurd HA.out (by simp [shape_Open.j1])
       | succ kj37 =>
        have H := HA.out
        clear HA
        simp only [shape_Open.j1] at H
        by_cases c48 : x42_37 = true
        ·subst c48
         have H1 : (some (t114, 0, 0, 0)) = some (r1, r2, r3, r4) := by rw [if_pos rfl] at H; exact H
         clear H;have H := H1;clear H1
         simp only [Option.some.injEq, Prod.mk.injEq] at H
         obtain ⟨rfl, rfl, rfl, rfl⟩ := H
         have hnb49 := NB117_107.out
         have hnc49 := NB107_117.out
         have hnb50 := NB117_111.out
         have hnc50 := NB111_117.out
         have hcz51_0 : wc.cell? ⟨gb117, 0, none⟩ = some (.int .i64 t112) := bc_ BK117.out 0
         have hcz51_1 : wc.cell? ⟨gb117, 1, none⟩ = some (.int .i64 t113) := bc_ BK117.out 1
         have hcz51_2 : wc.cell? ⟨gb117, 2, none⟩ = some (.bool t114) := bc_ BK117.out 2
         have hcz51_3 : wc.cell? ⟨gb117, 3, none⟩ = some (.int .u64 t115) := bc_ BK117.out 3
         have hcz51_4 : wc.cell? ⟨gb117, 4, none⟩ = some (.int .u64 t116) := bc_ BK117.out 4
         have hfz51_0 := blk_frozen BK117.out 0
         have hfz51_1 := blk_frozen BK117.out 1
         have hfz51_2 := blk_frozen BK117.out 2
         have hfz51_3 := blk_frozen BK117.out 3
         have hfz51_4 := blk_frozen BK117.out 4
         have hnb52 := NB107_111.out
         have hnc52 := NB111_107.out
         have hcz53_0 : wc.cell? ⟨gb107, 0, none⟩ = some (.bool false) := bc_ BK107.out 0
         have hcz53_1 : wc.cell? ⟨gb107, 1, none⟩ = some (.int .i64 0) := bc_ BK107.out 1
         have hcz53_2 : wc.cell? ⟨gb107, 2, none⟩ = some (.int .i64 0) := bc_ BK107.out 2
         have hcz53_3 : wc.cell? ⟨gb107, 3, none⟩ = some (.int .u64 0) := bc_ BK107.out 3
         have hfz53_0 := blk_frozen BK107.out 0
         have hfz53_1 := blk_frozen BK107.out 1
         have hfz53_2 := blk_frozen BK107.out 2
         have hfz53_3 := blk_frozen BK107.out 3
         go_wp2
         refine bodyPost_ret (results_cell_row rfl _ _ gb107 50 #[.bool t114, .int .i64 0, .int .i64 0, .int .u64 0] (0, 0) _ rfl (by (with_reducible repeat (first | refine blk_drewN ?_ _ | refine blk_drew ?_ | refine blk_alloc ?_ _)); refine blk_put (cs := #[.bool t114, .int .i64 0, .int .i64 0, .int .u64 0]) ?_ 3 _ rfl; (with_reducible repeat (first | refine blk_drewN ?_ _ | refine blk_drew ?_ | refine blk_alloc ?_ _)); refine blk_put (cs := #[.bool t114, .int .i64 0, .int .i64 0, .int .u64 0]) ?_ 2 _ rfl; (with_reducible repeat (first | refine blk_drewN ?_ _ | refine blk_drew ?_ | refine blk_alloc ?_ _)); refine blk_put (cs := #[.bool t114, .int .i64 0, .int .i64 0, .int .u64 0]) ?_ 1 _ rfl; (with_reducible repeat (first | refine blk_drewN ?_ _ | refine blk_drew ?_ | refine blk_alloc ?_ _)); refine blk_put (cs := #[.bool false, .int .i64 0, .int .i64 0, .int .u64 0]) ?_ 0 _ rfl; (with_reducible repeat (first | refine blk_drewN ?_ _ | refine blk_drew ?_ | refine blk_alloc ?_ _)); exact BK107.out) Try.underlying50 rfl (by kernel_rfl)) rfl ?_
         exact ⟨er_, hb3_ HB.out GE107.out GE111.out GE117.out⟩
        ·replace c48 := Bool.eq_false_iff.mpr c48
         subst c48
         have H1 : (if t115 = 0 then ((shape_format_low.f t112 t113).bind fun t120 => (some (t114, 1, t120, t116))) else ((shape_format_low.f t112 t113).bind fun t121 => (if 0 ≤ t113 then (some (t114, 1, wrap64 ((wrap64 (t121 + (wrap64 (t115)))) - 1), Go.bits .or .u64 (shl .u64 1 t113) t116)) else (none)))) = some (r1, r2, r3, r4) := by rw [if_neg (show ¬ (false = true) by decide)] at H; exact H
         clear H;have H := H1;clear H1
         by_cases c54 : t115 = 0
         ·rw [if_pos c54] at H
          have c54b0 : (t115 == 0) = true := beq_iff_eq.mpr c54
          have c54b1 : (t115 != 0) = false := bne_eq_false_iff_eq.mpr c54
          clear c54
          replace H := ob_ H
          obtain ⟨t120, A550, H⟩ := H
          replace H : (some (t114, 1, t120, t116)) = some (r1, r2, r3, r4) := H
          have A55 := A_ A550;clear A550
          simp only [Option.some.injEq, Prod.mk.injEq] at H
          obtain ⟨rfl, rfl, rfl, rfl⟩ := H
          have hnb56 := NB117_107.out
          have hnc56 := NB107_117.out
          have hnb57 := NB117_111.out
          have hnc57 := NB111_117.out
          have hcz58_0 : wc.cell? ⟨gb117, 0, none⟩ = some (.int .i64 t112) := bc_ BK117.out 0
          have hcz58_1 : wc.cell? ⟨gb117, 1, none⟩ = some (.int .i64 t113) := bc_ BK117.out 1
          have hcz58_2 : wc.cell? ⟨gb117, 2, none⟩ = some (.bool t114) := bc_ BK117.out 2
          have hcz58_3 : wc.cell? ⟨gb117, 3, none⟩ = some (.int .u64 t115) := bc_ BK117.out 3
          have hcz58_4 : wc.cell? ⟨gb117, 4, none⟩ = some (.int .u64 t116) := bc_ BK117.out 4
          have hfz58_0 := blk_frozen BK117.out 0
          have hfz58_1 := blk_frozen BK117.out 1
          have hfz58_2 := blk_frozen BK117.out 2
          have hfz58_3 := blk_frozen BK117.out 3
          have hfz58_4 := blk_frozen BK117.out 4
          try go_wp2
          have n0_ := A_ (blk_drew BK107.out)
          have n1_ := A_ (blk_drew BK111.out)
          have n2_ := A_ (blk_drew BK117.out)
          have n3_ := A_ (below_drew1 HB.out)
          clear BK107;clear BK111;clear BK117;clear HB;have BK107 := n0_;have BK111 := n1_;have BK117 := n2_;have HB := n3_;clear n0_ n1_ n2_ n3_
          refine start_ (n := 9) (S := fun w' => w'.cell? ⟨gb117, 0, none⟩ = some (.int .i64 t112) ∧ w'.cell? ⟨gb117, 1, none⟩ = some (.int .i64 t113) ∧ w'.cell? ⟨gb117, 2, none⟩ = some (.bool t114) ∧ w'.cell? ⟨gb117, 3, none⟩ = some (.int .u64 t115) ∧ w'.cell? ⟨gb117, 4, none⟩ = some (.int .u64 t116)) (ds := []) #[false, false, false, false, false, false, false, false, false] (by kernel_rfl) rfl rfl ⟨bc_ BK117.out 0, bc_ BK117.out 1, bc_ BK117.out 2, bc_ BK117.out 3, bc_ BK117.out 4⟩ (fun hHeld => ?_); refine with_tabW shape_Open.tab12 shape_Open.bits12 (fun HT_ HW_ => ?_)
          generalize wc.drew = w59 at BK107 BK111 BK117 HB hHeld ⊢
          refine pu_ 0 (some 58) #[true, false, false, false, false, false, false, false, false] rfl rfl (any_of HT_.out (by kernel_rfl)) ?_
          refine pu_ 2 (some 60) #[true, false, true, false, false, false, false, false, false] rfl rfl (any_of HT_.out (by kernel_rfl)) ?_
          refine pu_ 5 (some 63) #[true, false, true, false, false, true, false, false, false] rfl rfl (any_of HT_.out (by kernel_rfl)) ?_
          refine tk5_ 1 (some 59) #[true, true, true, false, false, true, false, false, false] rfl rfl (take_ofW HT_.out HW_.out (by kernel_rfl)) hHeld ?_
          refine tk5_ 3 (some 61) #[true, true, true, true, false, true, false, false, false] rfl rfl (take_ofW HT_.out HW_.out (by kernel_rfl)) hHeld ?_
          refine tk5_ 6 (some 64) #[true, true, true, true, false, true, true, false, false] rfl rfl (take_ofW HT_.out HW_.out (by kernel_rfl)) hHeld ?_
          refine one_ (i := 4) (N := some 62) #[true, true, true, true, true, true, true, false, false] rfl rfl (one_of HT_.out (by kernel_rfl)) (by decide) (fun K hK => ?_)
          refine goes_ Try.func121 (by kernel_rfl) rfl #[.agg #[.int .i64 t112, .int .i64 t113]] (by rfl) rfl rfl mp_ ?_
          with_reducible refine (shape_format_low.calls t112 t113 t120 _ A55.out).mono ?_
          rintro e w60 ⟨rfl, hb⟩
          refine ⟨_, rfl, ?_⟩
          have n0_ := A_ (bb_ BK107.out hb)
          have n1_ := A_ (bb_ BK111.out hb)
          have n2_ := A_ (bb_ BK117.out hb)
          have n3_ := A_ (below_step (hb3_ HB.out GE107.out GE111.out GE117.out) hb)
          clear BK107;clear BK111;clear BK117;clear HB;have BK107 := n0_;have BK111 := n1_;have BK117 := n2_;have HB := n3_;clear n0_ n1_ n2_ n3_;(try clear hb);(try clear hb2);(try clear hk);(try clear hi)
          refine hK.out _ _ ⟨bc_ BK117.out 0, bc_ BK117.out 1, bc_ BK117.out 2, bc_ BK117.out 3, bc_ BK117.out 4⟩ (fun hHeld => ?_)
          clear hK K
          refine norm_ (a' := ?_) ?_ ?_
          rotate_left
          ·show Act.put _ (some 62) _ = _
           simp only [Act.put, lI_, l0_, lS_, i64_w, i32_w]
           rfl
          refine pu_ 7 (some 65) #[true, true, true, true, true, true, true, true, false] rfl rfl (any_of HT_.out (by kernel_rfl)) ?_
          refine one_ (i := 8) (N := none) #[true, true, true, true, true, true, true, true, true] rfl rfl (one_of HT_.out (by kernel_rfl)) (by decide) (fun K hK => ?_)
          have hs61 : w60.cell? ⟨gb107, 0, none⟩ = some (.bool false) := bc_ BK107.out 0
          have hfs61 := blk_frozen BK107.out 0
          have hns61_1 := NB111_107.out
          have hns61_2 := NB117_107.out
          have hms61_1 := NB107_111.out
          have hms61_2 := NB107_117.out
          have hs62 : w60.cell? ⟨gb107, 1, none⟩ = some (.int .i64 0) := bc_ BK107.out 1
          have hfs62 := blk_frozen BK107.out 1
          have hns62_1 := NB111_107.out
          have hns62_2 := NB117_107.out
          have hms62_1 := NB107_111.out
          have hms62_2 := NB107_117.out
          have hs63 : w60.cell? ⟨gb107, 2, none⟩ = some (.int .i64 0) := bc_ BK107.out 2
          have hfs63 := blk_frozen BK107.out 2
          have hns63_1 := NB111_107.out
          have hns63_2 := NB117_107.out
          have hms63_1 := NB107_111.out
          have hms63_2 := NB107_117.out
          have hs64 : w60.cell? ⟨gb107, 3, none⟩ = some (.int .u64 0) := bc_ BK107.out 3
          have hfs64 := blk_frozen BK107.out 3
          have hns64_1 := NB111_107.out
          have hns64_2 := NB117_107.out
          have hms64_1 := NB107_111.out
          have hms64_2 := NB107_117.out
          refine skip_ (w1 := ?_) (by rfl) rfl ?_ ?_
          rotate_left
          ·go_simp
           rfl
          refine hK.out _ _ ⟨((cell_far (p := ⟨gb107, _, none⟩) NB117_107.out _).trans (((cell_far (p := ⟨gb107, _, none⟩) NB117_107.out _).trans (((cell_far (p := ⟨gb107, _, none⟩) NB117_107.out _).trans (((cell_far (p := ⟨gb107, _, none⟩) NB117_107.out _).trans (hHeld.1)))))))), ((cell_far (p := ⟨gb107, _, none⟩) NB117_107.out _).trans (((cell_far (p := ⟨gb107, _, none⟩) NB117_107.out _).trans (((cell_far (p := ⟨gb107, _, none⟩) NB117_107.out _).trans (((cell_far (p := ⟨gb107, _, none⟩) NB117_107.out _).trans (hHeld.2.1)))))))), ((cell_far (p := ⟨gb107, _, none⟩) NB117_107.out _).trans (((cell_far (p := ⟨gb107, _, none⟩) NB117_107.out _).trans (((cell_far (p := ⟨gb107, _, none⟩) NB117_107.out _).trans (((cell_far (p := ⟨gb107, _, none⟩) NB117_107.out _).trans (hHeld.2.2.1)))))))), ((cell_far (p := ⟨gb107, _, none⟩) NB117_107.out _).trans (((cell_far (p := ⟨gb107, _, none⟩) NB117_107.out _).trans (((cell_far (p := ⟨gb107, _, none⟩) NB117_107.out _).trans (((cell_far (p := ⟨gb107, _, none⟩) NB117_107.out _).trans (hHeld.2.2.2.1)))))))), ((cell_far (p := ⟨gb107, _, none⟩) NB117_107.out _).trans (((cell_far (p := ⟨gb107, _, none⟩) NB117_107.out _).trans (((cell_far (p := ⟨gb107, _, none⟩) NB117_107.out _).trans (((cell_far (p := ⟨gb107, _, none⟩) NB117_107.out _).trans (hHeld.2.2.2.2))))))))⟩ (fun hHeld => ?_)
          clear hK K
          refine done_ (done_of HT_.out (by kernel_rfl)) ?_
          try go_wp2
          refine bodyPost_ret (results_cell_row rfl _ _ gb107 50 #[.bool t114, .int .i64 1, .int .i64 t120, .int .u64 t116] (0, 0) _ rfl (by (with_reducible repeat (first | refine blk_drewN ?_ _ | refine blk_drew ?_ | refine blk_alloc ?_ _)); refine blk_put (cs := #[.bool t114, .int .i64 1, .int .i64 t120, .int .u64 0]) ?_ 3 _ rfl; (with_reducible repeat (first | refine blk_drewN ?_ _ | refine blk_drew ?_ | refine blk_alloc ?_ _)); refine blk_put (cs := #[.bool t114, .int .i64 1, .int .i64 0, .int .u64 0]) ?_ 2 _ rfl; (with_reducible repeat (first | refine blk_drewN ?_ _ | refine blk_drew ?_ | refine blk_alloc ?_ _)); refine blk_put (cs := #[.bool t114, .int .i64 0, .int .i64 0, .int .u64 0]) ?_ 1 _ rfl; (with_reducible repeat (first | refine blk_drewN ?_ _ | refine blk_drew ?_ | refine blk_alloc ?_ _)); refine blk_put (cs := #[.bool false, .int .i64 0, .int .i64 0, .int .u64 0]) ?_ 0 _ rfl; (with_reducible repeat (first | refine blk_drewN ?_ _ | refine blk_drew ?_ | refine blk_alloc ?_ _)); exact BK107.out) Try.underlying50 rfl (by kernel_rfl)) rfl ?_
          exact ⟨er_, hb3_ HB.out GE107.out GE111.out GE117.out⟩
         ·rw [if_neg c54] at H
          have c54b0 : (t115 == 0) = false := beq_eq_false_iff_ne.mpr c54
          have c54b1 : (t115 != 0) = true := bne_iff_ne.mpr c54
          replace H := ob_ H
          obtain ⟨t121, A650, H⟩ := H
          replace H : (if 0 ≤ t113 then (some (t114, 1, wrap64 ((wrap64 (t121 + (wrap64 (t115)))) - 1), Go.bits .or .u64 (shl .u64 1 t113) t116)) else (none)) = some (r1, r2, r3, r4) := H
          have A65 := A_ A650;clear A650
          by_cases c66 : 0 ≤ t113
          ·rw [if_pos c66] at H
           have c66b0 := eq_true c66
           have c66b1 : decide (0 ≤ t113) = true := decide_eq_true c66
           clear c66
           obtain ⟨ji67, hji67⟩ : ∃ j_ : Int, (shl .u64 1 t113) = j_ := ⟨_, rfl⟩
           replace H : (some (t114, 1, wrap64 ((wrap64 (t121 + (wrap64 (t115)))) - 1), Go.bits .or .u64 (ji67) t116)) = some (r1, r2, r3, r4) := by first | (rw [hji67] at H; exact H) | (simp only [hji67] at H ⊢; exact H)
           (try rw [hji67] at A65)
           have hji67_ : (IntKind.u64.wrap (1 * 2 ^ min t113.toNat 64)) = ji67 := hji67
           have hji67z : t113 ≤ 64 → (IntKind.u64.wrap (1 * 2 ^ t113.toNat)) = ji67 := shl_small hji67
           have hji67u : (IntKind.u64.wrap (2 ^ min t113.toNat 64)) = ji67 := by have h_ := hji67_; rw [Int.one_mul] at h_; exact h_
           have hji67v : t113 ≤ 64 → (IntKind.u64.wrap (2 ^ t113.toNat)) = ji67 := fun hle_ => by have h_ := hji67z hle_; rw [Int.one_mul] at h_; exact h_
           simp only [Option.some.injEq, Prod.mk.injEq] at H
           obtain ⟨rfl, rfl, rfl, rfl⟩ := H
           have hnb68 := NB117_107.out
           have hnc68 := NB107_117.out
           have hnb69 := NB117_111.out
           have hnc69 := NB111_117.out
           have hcz70_0 : wc.cell? ⟨gb117, 0, none⟩ = some (.int .i64 t112) := bc_ BK117.out 0
           have hcz70_1 : wc.cell? ⟨gb117, 1, none⟩ = some (.int .i64 t113) := bc_ BK117.out 1
           have hcz70_2 : wc.cell? ⟨gb117, 2, none⟩ = some (.bool t114) := bc_ BK117.out 2
           have hcz70_3 : wc.cell? ⟨gb117, 3, none⟩ = some (.int .u64 t115) := bc_ BK117.out 3
           have hcz70_4 : wc.cell? ⟨gb117, 4, none⟩ = some (.int .u64 t116) := bc_ BK117.out 4
           have hfz70_0 := blk_frozen BK117.out 0
           have hfz70_1 := blk_frozen BK117.out 1
           have hfz70_2 := blk_frozen BK117.out 2
           have hfz70_3 := blk_frozen BK117.out 3
           have hfz70_4 := blk_frozen BK117.out 4
           try go_wp2
           have n0_ := A_ (blk_drew BK107.out)
           have n1_ := A_ (blk_drew BK111.out)
           have n2_ := A_ (blk_drew BK117.out)
           have n3_ := A_ (below_drew1 HB.out)
           clear BK107;clear BK111;clear BK117;clear HB;have BK107 := n0_;have BK111 := n1_;have BK117 := n2_;have HB := n3_;clear n0_ n1_ n2_ n3_
           refine start_ (n := 19) (S := fun w' => w'.cell? ⟨gb117, 0, none⟩ = some (.int .i64 t112) ∧ w'.cell? ⟨gb117, 1, none⟩ = some (.int .i64 t113) ∧ w'.cell? ⟨gb117, 2, none⟩ = some (.bool t114) ∧ w'.cell? ⟨gb117, 3, none⟩ = some (.int .u64 t115) ∧ w'.cell? ⟨gb117, 4, none⟩ = some (.int .u64 t116)) (ds := []) #[false, false, false, false, false, false, false, false, false, false, false, false, false, false, false, false, false, false, false] (by kernel_rfl) rfl rfl ⟨bc_ BK117.out 0, bc_ BK117.out 1, bc_ BK117.out 2, bc_ BK117.out 3, bc_ BK117.out 4⟩ (fun hHeld => ?_); refine with_tabW shape_Open.tab13 shape_Open.bits13 (fun HT_ HW_ => ?_)
           generalize wc.drew = w71 at BK107 BK111 BK117 HB hHeld ⊢
           refine pu_ 0 (some 66) #[true, false, false, false, false, false, false, false, false, false, false, false, false, false, false, false, false, false, false] rfl rfl (any_of HT_.out (by kernel_rfl)) ?_
           refine pu_ 2 (some 68) #[true, false, true, false, false, false, false, false, false, false, false, false, false, false, false, false, false, false, false] rfl rfl (any_of HT_.out (by kernel_rfl)) ?_
           refine pu_ 5 (some 71) #[true, false, true, false, false, true, false, false, false, false, false, false, false, false, false, false, false, false, false] rfl rfl (any_of HT_.out (by kernel_rfl)) ?_
           refine pu_ 10 (some 76) #[true, false, true, false, false, true, false, false, false, false, true, false, false, false, false, false, false, false, false] rfl rfl (any_of HT_.out (by kernel_rfl)) ?_
           refine pu_ 11 (some 77) #[true, false, true, false, false, true, false, false, false, false, true, true, false, false, false, false, false, false, false] rfl rfl (any_of HT_.out (by kernel_rfl)) ?_
           refine pu_ 14 (some 80) #[true, false, true, false, false, true, false, false, false, false, true, true, false, false, true, false, false, false, false] rfl rfl (any_of HT_.out (by kernel_rfl)) ?_
           refine tk5_ 1 (some 67) #[true, true, true, false, false, true, false, false, false, false, true, true, false, false, true, false, false, false, false] rfl rfl (take_ofW HT_.out HW_.out (by kernel_rfl)) hHeld ?_
           refine tk5_ 3 (some 69) #[true, true, true, true, false, true, false, false, false, false, true, true, false, false, true, false, false, false, false] rfl rfl (take_ofW HT_.out HW_.out (by kernel_rfl)) hHeld ?_
           refine tk5_ 6 (some 72) #[true, true, true, true, false, true, true, false, false, false, true, true, false, false, true, false, false, false, false] rfl rfl (take_ofW HT_.out HW_.out (by kernel_rfl)) hHeld ?_
           refine pu_ 7 (some 73) #[true, true, true, true, false, true, true, true, false, false, true, true, false, false, true, false, false, false, false] rfl rfl (any_of HT_.out (by kernel_rfl)) ?_
           refine tk5_ 12 (some 78) #[true, true, true, true, false, true, true, true, false, false, true, true, true, false, true, false, false, false, false] rfl rfl (take_ofW HT_.out HW_.out (by kernel_rfl)) hHeld ?_
           refine pu_ 13 (some 79) #[true, true, true, true, false, true, true, true, false, false, true, true, true, true, true, false, false, false, false] rfl rfl (any_of HT_.out (by kernel_rfl)) ?_
           refine tk5_ 15 (some 81) #[true, true, true, true, false, true, true, true, false, false, true, true, true, true, true, true, false, false, false] rfl rfl (take_ofW HT_.out HW_.out (by kernel_rfl)) hHeld ?_
           refine pu_ 16 (some 82) #[true, true, true, true, false, true, true, true, false, false, true, true, true, true, true, true, true, false, false] rfl rfl (any_of HT_.out (by kernel_rfl)) ?_
           refine one_ (i := 4) (N := some 70) #[true, true, true, true, true, true, true, true, false, false, true, true, true, true, true, true, true, false, false] rfl rfl (one_of HT_.out (by kernel_rfl)) (by decide) (fun K hK => ?_)
           refine goes_ Try.func121 (by kernel_rfl) rfl #[.agg #[.int .i64 t112, .int .i64 t113]] (by rfl) rfl rfl mp_ ?_
           with_reducible refine (shape_format_low.calls t112 t113 t121 _ A65.out).mono ?_
           rintro e w72 ⟨rfl, hb⟩
           refine ⟨_, rfl, ?_⟩
           have n0_ := A_ (bb_ BK107.out hb)
           have n1_ := A_ (bb_ BK111.out hb)
           have n2_ := A_ (bb_ BK117.out hb)
           have n3_ := A_ (below_step (hb3_ HB.out GE107.out GE111.out GE117.out) hb)
           clear BK107;clear BK111;clear BK117;clear HB;have BK107 := n0_;have BK111 := n1_;have BK117 := n2_;have HB := n3_;clear n0_ n1_ n2_ n3_;(try clear hb);(try clear hb2);(try clear hk);(try clear hi)
           refine hK.out _ _ ⟨bc_ BK117.out 0, bc_ BK117.out 1, bc_ BK117.out 2, bc_ BK117.out 3, bc_ BK117.out 4⟩ (fun hHeld => ?_)
           clear hK K
           refine norm_ (a' := ?_) ?_ ?_
           rotate_left
           ·show Act.put _ (some 70) _ = _
            simp only [Act.put, lI_, l0_, lS_, i64_w, i32_w]
            rfl
           refine pu_ 8 (some 74) #[true, true, true, true, true, true, true, true, true, false, true, true, true, true, true, true, true, false, false] rfl rfl (any_of HT_.out (by kernel_rfl)) ?_
           refine pu_ 9 (some 75) #[true, true, true, true, true, true, true, true, true, true, true, true, true, true, true, true, true, false, false] rfl rfl (any_of HT_.out (by kernel_rfl)) ?_
           refine pu_ 17 (some 83) #[true, true, true, true, true, true, true, true, true, true, true, true, true, true, true, true, true, true, false] rfl rfl (any_of HT_.out (by kernel_rfl)) ?_
           refine one_ (i := 18) (N := none) #[true, true, true, true, true, true, true, true, true, true, true, true, true, true, true, true, true, true, true] rfl rfl (one_of HT_.out (by kernel_rfl)) (by decide) (fun K hK => ?_)
           have hs73 : w72.cell? ⟨gb107, 0, none⟩ = some (.bool false) := bc_ BK107.out 0
           have hfs73 := blk_frozen BK107.out 0
           have hns73_1 := NB111_107.out
           have hns73_2 := NB117_107.out
           have hms73_1 := NB107_111.out
           have hms73_2 := NB107_117.out
           have hs74 : w72.cell? ⟨gb107, 1, none⟩ = some (.int .i64 0) := bc_ BK107.out 1
           have hfs74 := blk_frozen BK107.out 1
           have hns74_1 := NB111_107.out
           have hns74_2 := NB117_107.out
           have hms74_1 := NB107_111.out
           have hms74_2 := NB107_117.out
           have hs75 : w72.cell? ⟨gb107, 2, none⟩ = some (.int .i64 0) := bc_ BK107.out 2
           have hfs75 := blk_frozen BK107.out 2
           have hns75_1 := NB111_107.out
           have hns75_2 := NB117_107.out
           have hms75_1 := NB107_111.out
           have hms75_2 := NB107_117.out
           have hs76 : w72.cell? ⟨gb107, 3, none⟩ = some (.int .u64 0) := bc_ BK107.out 3
           have hfs76 := blk_frozen BK107.out 3
           have hns76_1 := NB111_107.out
           have hns76_2 := NB117_107.out
           have hms76_1 := NB107_111.out
           have hms76_2 := NB107_117.out
           refine skip_ (w1 := ?_) (by rfl) rfl ?_ ?_
           rotate_left
           ·go_simp
            rfl
           refine hK.out _ _ ⟨((cell_far (p := ⟨gb107, _, none⟩) NB117_107.out _).trans (((cell_far (p := ⟨gb107, _, none⟩) NB117_107.out _).trans (((cell_far (p := ⟨gb107, _, none⟩) NB117_107.out _).trans (((cell_far (p := ⟨gb107, _, none⟩) NB117_107.out _).trans (hHeld.1)))))))), ((cell_far (p := ⟨gb107, _, none⟩) NB117_107.out _).trans (((cell_far (p := ⟨gb107, _, none⟩) NB117_107.out _).trans (((cell_far (p := ⟨gb107, _, none⟩) NB117_107.out _).trans (((cell_far (p := ⟨gb107, _, none⟩) NB117_107.out _).trans (hHeld.2.1)))))))), ((cell_far (p := ⟨gb107, _, none⟩) NB117_107.out _).trans (((cell_far (p := ⟨gb107, _, none⟩) NB117_107.out _).trans (((cell_far (p := ⟨gb107, _, none⟩) NB117_107.out _).trans (((cell_far (p := ⟨gb107, _, none⟩) NB117_107.out _).trans (hHeld.2.2.1)))))))), ((cell_far (p := ⟨gb107, _, none⟩) NB117_107.out _).trans (((cell_far (p := ⟨gb107, _, none⟩) NB117_107.out _).trans (((cell_far (p := ⟨gb107, _, none⟩) NB117_107.out _).trans (((cell_far (p := ⟨gb107, _, none⟩) NB117_107.out _).trans (hHeld.2.2.2.1)))))))), ((cell_far (p := ⟨gb107, _, none⟩) NB117_107.out _).trans (((cell_far (p := ⟨gb107, _, none⟩) NB117_107.out _).trans (((cell_far (p := ⟨gb107, _, none⟩) NB117_107.out _).trans (((cell_far (p := ⟨gb107, _, none⟩) NB117_107.out _).trans (hHeld.2.2.2.2))))))))⟩ (fun hHeld => ?_)
           clear hK K
           refine done_ (done_of HT_.out (by kernel_rfl)) ?_
           try go_wp2
           refine bodyPost_ret (results_cell_row rfl _ _ gb107 50 #[.bool t114, .int .i64 1, .int .i64 (wrap64 ((wrap64 (t121 + (wrap64 (t115)))) - 1)), .int .u64 (Go.bits .or .u64 (ji67) t116)] (0, 0) _ rfl (by (with_reducible repeat (first | refine blk_drewN ?_ _ | refine blk_drew ?_ | refine blk_alloc ?_ _)); refine blk_put (cs := #[.bool t114, .int .i64 1, .int .i64 (wrap64 ((wrap64 (t121 + (wrap64 (t115)))) - 1)), .int .u64 0]) ?_ 3 _ rfl; (with_reducible repeat (first | refine blk_drewN ?_ _ | refine blk_drew ?_ | refine blk_alloc ?_ _)); refine blk_put (cs := #[.bool t114, .int .i64 1, .int .i64 0, .int .u64 0]) ?_ 2 _ rfl; (with_reducible repeat (first | refine blk_drewN ?_ _ | refine blk_drew ?_ | refine blk_alloc ?_ _)); refine blk_put (cs := #[.bool t114, .int .i64 0, .int .i64 0, .int .u64 0]) ?_ 1 _ rfl; (with_reducible repeat (first | refine blk_drewN ?_ _ | refine blk_drew ?_ | refine blk_alloc ?_ _)); refine blk_put (cs := #[.bool false, .int .i64 0, .int .i64 0, .int .u64 0]) ?_ 0 _ rfl; (with_reducible repeat (first | refine blk_drewN ?_ _ | refine blk_drew ?_ | refine blk_alloc ?_ _)); exact BK107.out) Try.underlying50 rfl (by kernel_rfl)) rfl ?_
           exact ⟨by first | rfl | (simp [errW_none, errW_some] <;> rfl) | (simp only [← hji67]; first | rfl | (simp [errW_none, errW_some] <;> rfl)) | (simp [*, errW_none, errW_some] <;> rfl), hb3_ HB.out GE107.out GE111.out GE117.out⟩
          ·rw [if_neg c66] at H
           exact absurd H (by simp)
 ·replace c4 := Bool.eq_false_iff.mpr c4
  subst c4
  have H1 : (some (false, 0, 0, 0)) = some (r1, r2, r3, r4) := by rw [if_neg (show ¬ (false = true) by decide)] at H; exact H
  clear H;have H := H1;clear H1
  simp only [Option.some.injEq, Prod.mk.injEq] at H
  obtain ⟨rfl, rfl, rfl, rfl⟩ := H
  go_enter Try.func48, Try.ntmps48
  go_wp2_with (first | ((with_reducible refine gate_dst (N := 4) rfl ?_); refine be_ 4 #[.bool false, .int .i64 0, .int .i64 0, .int .u64 0] 50 ?_; intro gb107 hg w77 hbox hb; have n0_ := A_ (below_step (hb_ HB.out) hb); have n1_ := A_ (hbox); have n2_ := A_ (sz_ hg (hb_ HB.out)); have n3_ := A_ (sz_ hg (hb_ HB.out)); clear HB; have HB := n0_; have BK107 := n1_; have GW107 := n2_; have GE107 := n3_; clear n0_ n1_ n2_ n3_; clear hb hbox hg) | ((with_reducible refine gate_callee (f := 118) rfl ?_); refine gl_ (some 10) Try.func118 #[.int .i64 a0] ?_; (with_reducible refine (shape_of.calls a0 t108 t109 false _ A3.out).mono ?_); rintro e w78 ⟨rfl, hb⟩; refine ⟨_, rfl, ?_⟩; have n0_ := A_ (bb_ BK107.out hb); have n1_ := A_ (below_step (hb1_ HB.out GE107.out) hb); clear BK107; clear HB; have BK107 := n0_; have HB := n1_; clear n0_ n1_; (try clear hb); (try clear hb2); (try clear hk); (try clear hi)) | ((with_reducible refine gate_dst (N := 5) rfl ?_); refine be_ 5 #[.int .i64 0, .int .i64 0] 112 ?_; intro gb111 hg w79 hbox hb; have n0_ := A_ (bb_ BK107.out hb); have n1_ := A_ (below_step (hb1_ HB.out GE107.out) hb); have n2_ := A_ (hbox); have n3_ := A_ (sz_ hg (hb1_ HB.out GE107.out)); have n4_ := A_ (sz_ hg (hb1_ HB.out GE107.out)); have n5_ := A_ (nl_ hg BK107.out); have n6_ := A_ (ng_ hg BK107.out); clear BK107; clear HB; have BK107 := n0_; have HB := n1_; have BK111 := n2_; have GW111 := n3_; have GE111 := n4_; have NB107_111 := n5_; have NB111_107 := n6_; clear n0_ n1_ n2_ n3_ n4_ n5_ n6_; clear hb hbox hg; have hnb80 := NB111_107.out; have hnc80 := NB107_111.out; have hcz81_0 : w79.cell? ⟨gb111, 0, none⟩ = some (.int .i64 0) := bc_ BK111.out 0; have hcz81_1 : w79.cell? ⟨gb111, 1, none⟩ = some (.int .i64 0) := bc_ BK111.out 1; have hfz81_0 := blk_frozen BK111.out 0; have hfz81_1 := blk_frozen BK111.out 1; have hcz82_0 : w79.cell? ⟨gb107, 0, none⟩ = some (.bool false) := bc_ BK107.out 0; have hcz82_1 : w79.cell? ⟨gb107, 1, none⟩ = some (.int .i64 0) := bc_ BK107.out 1; have hcz82_2 : w79.cell? ⟨gb107, 2, none⟩ = some (.int .i64 0) := bc_ BK107.out 2; have hcz82_3 : w79.cell? ⟨gb107, 3, none⟩ = some (.int .u64 0) := bc_ BK107.out 3; have hfz82_0 := blk_frozen BK107.out 0; have hfz82_1 := blk_frozen BK107.out 1; have hfz82_2 := blk_frozen BK107.out 2; have hfz82_3 := blk_frozen BK107.out 3))
  refine bodyPost_ret (results_cell_row rfl _ _ gb107 50 #[.bool false, .int .i64 0, .int .i64 0, .int .u64 0] (0, 0) _ rfl (by (with_reducible repeat (first | refine blk_drewN ?_ _ | refine blk_drew ?_ | refine blk_alloc ?_ _)); refine blk_put (cs := #[.bool false, .int .i64 0, .int .i64 0, .int .u64 0]) ?_ 3 _ rfl; (with_reducible repeat (first | refine blk_drewN ?_ _ | refine blk_drew ?_ | refine blk_alloc ?_ _)); refine blk_put (cs := #[.bool false, .int .i64 0, .int .i64 0, .int .u64 0]) ?_ 2 _ rfl; (with_reducible repeat (first | refine blk_drewN ?_ _ | refine blk_drew ?_ | refine blk_alloc ?_ _)); refine blk_put (cs := #[.bool false, .int .i64 0, .int .i64 0, .int .u64 0]) ?_ 1 _ rfl; (with_reducible repeat (first | refine blk_drewN ?_ _ | refine blk_drew ?_ | refine blk_alloc ?_ _)); refine blk_put (cs := #[.bool false, .int .i64 0, .int .i64 0, .int .u64 0]) ?_ 0 _ rfl; (with_reducible repeat (first | refine blk_drewN ?_ _ | refine blk_drew ?_ | refine blk_alloc ?_ _)); refine blk_far ?_ NB107_111.out _; (with_reducible repeat (first | refine blk_drewN ?_ _ | refine blk_drew ?_ | refine blk_alloc ?_ _)); refine blk_far ?_ NB107_111.out _; (with_reducible repeat (first | refine blk_drewN ?_ _ | refine blk_drew ?_ | refine blk_alloc ?_ _)); exact BK107.out) Try.underlying50 rfl (by kernel_rfl)) rfl ?_
  exact ⟨er_, hb2_ HB.out GE107.out GE111.out⟩
end Go.Proofs.Ytgcgheilbngcoaa.PA
section
set_option linter.unusedVariables false
set_option linter.unusedSimpArgs false
namespace Go.Proofs.Ytgcgheilbngcoaa.Th
open Go.RowKit Go.Proofs.YtgcgheilbngcoaaW.PrintWords Go.Proofs.YtgcgheilbngcoaaW.PrintLast Go.Proofs.YtgcgheilbngcoaaW.PrintMore Go.Proofs.Ytgcgheilbngcoaa.PA Bit Flo
def f32 : Fmt := ⟨23, -149, 255, by decide, by decide⟩
def f64 : Fmt := ⟨52, -1074, 2047, by decide, by decide⟩
def fmt (w : Int) : Fmt := if w = 32 then f32 else f64
theorem fmt32 : fmt 32 = f32 := rfl
theorem fmt64 : fmt 64 = f64 := rfl
def opn (w : Int) (a : Nat) : Bool × Int × Int × Int :=
  let F := fmt w
  let m := magN w a
  if m = 0 then (sgB w a, 0, 0, 0) else if m < F.inf then (sgB w a, 1, F.ex m, (F.sg m : Int)) else if m = F.inf then (sgB w a, 2, 0, 0) else (false, 3, 0, 0)

theorem ones32 : shape_format_ones.f 8 23 = some 255 := by decide +kernel
theorem low32 : shape_format_low.f 8 23 = some (-149) := by decide +kernel
theorem inf32 : f32.inf = 2139095040 := by decide
theorem sg32 (m : Nat) : f32.sg m = if m < 8388608 then m else 8388608 + m % 8388608 := by
  unfold Fmt.sg; rw [show (2 : Nat) ^ f32.f = 8388608 by decide]
theorem ex32 (m : Nat) : f32.ex m = if m < 8388608 then (-149 : Int) else ((m / 8388608 : Nat) : Int) - 1 + (-149) := by
  unfold Fmt.ex; rw [show (2 : Nat) ^ f32.f = 8388608 by decide]; rfl
theorem opn32 (a : Nat) : opn 32 a = if a % 2147483648 = 0 then (decide (a / 2147483648 % 2 = 1), 0, 0, 0) else if a % 2147483648 < 2139095040 then (decide (a / 2147483648 % 2 = 1), 1, (if a % 2147483648 < 8388608 then (-149 : Int) else ((a % 2147483648 / 8388608 : Nat) : Int) - 1 + (-149)), ((if a % 2147483648 < 8388608 then a % 2147483648 else 8388608 + a % 2147483648 % 8388608 : Nat) : Int))
    else if a % 2147483648 = 2139095040 then (decide (a / 2147483648 % 2 = 1), 2, 0, 0) else (false, 3, 0, 0) := by
  unfold opn
  simp only [show fmt 32 = f32 from rfl, inf32, sg32, ex32, magN, sgB, show sb 32 = 2147483648 by decide]
theorem split32 (a : Nat) (ha : a < 18446744073709551616) : shape_format_split.f 8 23 a = some (8, 23, decide (a / 2147483648 % 2 = 1), ((a / 8388608 % 256 : Nat) : Int), ((a % 8388608 : Nat) : Int)) := by
  unfold shape_format_split.f
  rw [show wrap64 (8 + 23) = 31 by decide +kernel, if_pos (by decide), if_pos (by decide), ones32, Option.bind_some]
  have e1 : shr .u64 (a : Int) 31 = ((a / 2147483648 : Nat) : Int) := by
    unfold shr; rw [show min (31 : Int).toNat IntKind.u64.bits = 31 by decide, show (2 : Int) ^ 31 = 2147483648 by decide]; omega
  have e2 : shr .u64 (a : Int) 23 = ((a / 8388608 : Nat) : Int) := by
    unfold shr; rw [show min (23 : Int).toNat IntKind.u64.bits = 23 by decide, show (2 : Int) ^ 23 = 8388608 by decide]; omega
  have e3 : IntKind.u64.wrap ((shl .u64 1 23) - 1) = ((8388607 : Nat) : Int) := by decide +kernel
  rw [e1, e2, e3, show (1 : Int) = ((1 : Nat) : Int) from rfl, show (255 : Int) = ((255 : Nat) : Int) from rfl,
    u64_and_nat _ 1 (by omega) (by decide), u64_and_nat _ 255 (by omega) (by decide), u64_and_nat a 8388607 ha (by decide)]
  have h1 := and_low (a / 2147483648) 1
  have h2 := and_low (a / 8388608) 8
  have h3 := and_low a 23
  rw [show (2 : Nat) ^ 1 - 1 = 1 by decide, show (2 : Nat) ^ 1 = 2 by decide] at h1
  rw [show (2 : Nat) ^ 8 - 1 = 255 by decide, show (2 : Nat) ^ 8 = 256 by decide] at h2
  rw [show (2 : Nat) ^ 23 - 1 = 8388607 by decide, show (2 : Nat) ^ 23 = 8388608 by decide] at h3
  rw [h1, h2, h3]
  have hb : ((((a / 2147483648 % 2 : Nat) : Int) == ((1 : Nat) : Int)) : Bool) = decide (a / 2147483648 % 2 = 1) := by
    rw [Bool.eq_iff_iff]; simp; omega
  rw [hb]
theorem open32 (a : Nat) (ha : a < 18446744073709551616) : Ev (fun k => shape_Open.f k 32 a) (opn 32 a) := by
  rw [opn32]
  unfold shape_Open.f
  refine Ev.bs (show shape_of.f 32 = some (8, 23, true) by decide) (Ev.pos rfl (Ev.bs (split32 a ha) (Ev.bs ones32 ?_)))
  simp only
  have hP : a % 2147483648 % 8388608 = a % 8388608 := by omega
  have hQ : a % 2147483648 / 8388608 = a / 8388608 % 256 := by omega
  have hT : a / 8388608 % 256 < 256 := Nat.mod_lt _ (by decide)
  have hE : a % 2147483648 = a / 8388608 % 256 * 8388608 + a % 8388608 := by omega
  rw [hP, hQ, hE]
  generalize a / 8388608 % 256 = e at *
  have hF : a % 8388608 < 8388608 := Nat.mod_lt _ (by decide)
  generalize a % 8388608 = fr at *
  generalize decide (a / 2147483648 % 2 = 1) = s
  by_cases h1 : e = 255
  · subst h1
    refine Ev.pos rfl ?_
    refine Ev.step (fun _ => shape_Open.j0.eq_2 ..) ?_
    by_cases h2 : fr = 0
    · subst h2
      refine Ev.neg (by decide) (Ev.bs ones32 (Ev.pos rfl (Ev.out ?_)))
      rw [if_neg (by omega), if_neg (by omega), if_pos (by omega)]
    · refine Ev.pos (by simp; omega) (Ev.out ?_)
      rw [if_neg (by omega), if_neg (by omega), if_neg (by omega)]
  · refine Ev.neg (by omega) ?_
    refine Ev.step (fun _ => shape_Open.j0.eq_2 ..) ?_
    refine Ev.neg (by decide) (Ev.bs ones32 (Ev.neg (by omega) ?_))
    by_cases h2 : e = 0
    · subst h2
      refine Ev.pos rfl (Ev.step (fun _ => shape_Open.j1.eq_2 ..) ?_)
      by_cases h3 : fr = 0
      · subst h3
        refine Ev.pos (by decide) (Ev.out ?_)
        rw [Nat.zero_mul, Nat.zero_add, if_pos rfl]
      · refine Ev.neg (by simp; omega) (Ev.pos rfl (Ev.bs low32 (Ev.out ?_)))
        rw [if_neg (by omega), if_pos (by omega), if_pos (by omega), if_pos (by omega)]
        simp
    · refine Ev.neg (by omega) (Ev.step (fun _ => shape_Open.j1.eq_2 ..) ?_)
      refine Ev.neg (by decide) (Ev.neg (by omega) (Ev.bs low32 (Ev.pos (by decide) (Ev.out ?_))))
      rw [if_neg (by omega), if_pos (by omega), if_neg (by omega), if_neg (by omega)]
      rw [w64_id (n := ((e : Nat) : Int)) (by omega) (by omega), w64_id (n := (-149 : Int) + _) (by omega) (by omega), w64_id (by omega) (by omega)]
      have e4 : shl .u64 1 23 = ((8388608 : Nat) : Int) := by decide +kernel
      rw [e4, u64_or_nat _ _ (by decide) (by omega)]
      have h4 := or_pow fr 1 23 (by rw [show (2 : Nat) ^ 23 = 8388608 by decide]; exact hF)
      rw [Nat.one_mul, show (2 : Nat) ^ 23 = 8388608 by decide, Nat.or_comm] at h4
      rw [h4, Nat.add_comm fr]
      congr 2
      congr 1
      omega

theorem ones64 : shape_format_ones.f 11 52 = some 2047 := by decide +kernel
theorem low64 : shape_format_low.f 11 52 = some (-1074) := by decide +kernel
theorem inf64 : f64.inf = 9218868437227405312 := by decide
theorem sg64 (m : Nat) : f64.sg m = if m < 4503599627370496 then m else 4503599627370496 + m % 4503599627370496 := by
  unfold Fmt.sg; rw [show (2 : Nat) ^ f64.f = 4503599627370496 by decide]
theorem ex64 (m : Nat) : f64.ex m = if m < 4503599627370496 then (-1074 : Int) else ((m / 4503599627370496 : Nat) : Int) - 1 + (-1074) := by
  unfold Fmt.ex; rw [show (2 : Nat) ^ f64.f = 4503599627370496 by decide]; rfl
theorem opn64 (a : Nat) : opn 64 a = if a % 9223372036854775808 = 0 then (decide (a / 9223372036854775808 % 2 = 1), 0, 0, 0) else if a % 9223372036854775808 < 9218868437227405312 then (decide (a / 9223372036854775808 % 2 = 1), 1, (if a % 9223372036854775808 < 4503599627370496 then (-1074 : Int) else ((a % 9223372036854775808 / 4503599627370496 : Nat) : Int) - 1 + (-1074)), ((if a % 9223372036854775808 < 4503599627370496 then a % 9223372036854775808 else 4503599627370496 + a % 9223372036854775808 % 4503599627370496 : Nat) : Int))
    else if a % 9223372036854775808 = 9218868437227405312 then (decide (a / 9223372036854775808 % 2 = 1), 2, 0, 0) else (false, 3, 0, 0) := by
  unfold opn
  simp only [show fmt 64 = f64 from rfl, inf64, sg64, ex64, magN, sgB, show sb 64 = 9223372036854775808 by decide]
theorem split64 (a : Nat) (ha : a < 18446744073709551616) : shape_format_split.f 11 52 a = some (11, 52, decide (a / 9223372036854775808 % 2 = 1), ((a / 4503599627370496 % 2048 : Nat) : Int), ((a % 4503599627370496 : Nat) : Int)) := by
  unfold shape_format_split.f
  rw [show wrap64 (11 + 52) = 63 by decide +kernel, if_pos (by decide), if_pos (by decide), ones64, Option.bind_some]
  have e1 : shr .u64 (a : Int) 63 = ((a / 9223372036854775808 : Nat) : Int) := by
    unfold shr; rw [show min (63 : Int).toNat IntKind.u64.bits = 63 by decide, show (2 : Int) ^ 63 = 9223372036854775808 by decide]; omega
  have e2 : shr .u64 (a : Int) 52 = ((a / 4503599627370496 : Nat) : Int) := by
    unfold shr; rw [show min (52 : Int).toNat IntKind.u64.bits = 52 by decide, show (2 : Int) ^ 52 = 4503599627370496 by decide]; omega
  have e3 : IntKind.u64.wrap ((shl .u64 1 52) - 1) = ((4503599627370495 : Nat) : Int) := by decide +kernel
  rw [e1, e2, e3, show (1 : Int) = ((1 : Nat) : Int) from rfl, show (2047 : Int) = ((2047 : Nat) : Int) from rfl,
    u64_and_nat _ 1 (by omega) (by decide), u64_and_nat _ 2047 (by omega) (by decide), u64_and_nat a 4503599627370495 ha (by decide)]
  have h1 := and_low (a / 9223372036854775808) 1
  have h2 := and_low (a / 4503599627370496) 11
  have h3 := and_low a 52
  rw [show (2 : Nat) ^ 1 - 1 = 1 by decide, show (2 : Nat) ^ 1 = 2 by decide] at h1
  rw [show (2 : Nat) ^ 11 - 1 = 2047 by decide, show (2 : Nat) ^ 11 = 2048 by decide] at h2
  rw [show (2 : Nat) ^ 52 - 1 = 4503599627370495 by decide, show (2 : Nat) ^ 52 = 4503599627370496 by decide] at h3
  rw [h1, h2, h3]
  have hb : ((((a / 9223372036854775808 % 2 : Nat) : Int) == ((1 : Nat) : Int)) : Bool) = decide (a / 9223372036854775808 % 2 = 1) := by
    rw [Bool.eq_iff_iff]; simp; omega
  rw [hb]
theorem open64 (a : Nat) (ha : a < 18446744073709551616) : Ev (fun k => shape_Open.f k 64 a) (opn 64 a) := by
  rw [opn64]
  unfold shape_Open.f
  refine Ev.bs (show shape_of.f 64 = some (11, 52, true) by decide) (Ev.pos rfl (Ev.bs (split64 a ha) (Ev.bs ones64 ?_)))
  simp only
  have hP : a % 9223372036854775808 % 4503599627370496 = a % 4503599627370496 := by omega
  have hQ : a % 9223372036854775808 / 4503599627370496 = a / 4503599627370496 % 2048 := by omega
  have hT : a / 4503599627370496 % 2048 < 2048 := Nat.mod_lt _ (by decide)
  have hE : a % 9223372036854775808 = a / 4503599627370496 % 2048 * 4503599627370496 + a % 4503599627370496 := by omega
  rw [hP, hQ, hE]
  generalize a / 4503599627370496 % 2048 = e at *
  have hF : a % 4503599627370496 < 4503599627370496 := Nat.mod_lt _ (by decide)
  generalize a % 4503599627370496 = fr at *
  generalize decide (a / 9223372036854775808 % 2 = 1) = s
  by_cases h1 : e = 2047
  · subst h1
    refine Ev.pos rfl ?_
    refine Ev.step (fun _ => shape_Open.j0.eq_2 ..) ?_
    by_cases h2 : fr = 0
    · subst h2
      refine Ev.neg (by decide) (Ev.bs ones64 (Ev.pos rfl (Ev.out ?_)))
      rw [if_neg (by omega), if_neg (by omega), if_pos (by omega)]
    · refine Ev.pos (by simp; omega) (Ev.out ?_)
      rw [if_neg (by omega), if_neg (by omega), if_neg (by omega)]
  · refine Ev.neg (by omega) ?_
    refine Ev.step (fun _ => shape_Open.j0.eq_2 ..) ?_
    refine Ev.neg (by decide) (Ev.bs ones64 (Ev.neg (by omega) ?_))
    by_cases h2 : e = 0
    · subst h2
      refine Ev.pos rfl (Ev.step (fun _ => shape_Open.j1.eq_2 ..) ?_)
      by_cases h3 : fr = 0
      · subst h3
        refine Ev.pos (by decide) (Ev.out ?_)
        rw [Nat.zero_mul, Nat.zero_add, if_pos rfl]
      · refine Ev.neg (by simp; omega) (Ev.pos rfl (Ev.bs low64 (Ev.out ?_)))
        rw [if_neg (by omega), if_pos (by omega), if_pos (by omega), if_pos (by omega)]
        simp
    · refine Ev.neg (by omega) (Ev.step (fun _ => shape_Open.j1.eq_2 ..) ?_)
      refine Ev.neg (by decide) (Ev.neg (by omega) (Ev.bs low64 (Ev.pos (by decide) (Ev.out ?_))))
      rw [if_neg (by omega), if_pos (by omega), if_neg (by omega), if_neg (by omega)]
      rw [w64_id (n := ((e : Nat) : Int)) (by omega) (by omega), w64_id (n := (-1074 : Int) + _) (by omega) (by omega), w64_id (by omega) (by omega)]
      have e4 : shl .u64 1 52 = ((4503599627370496 : Nat) : Int) := by decide +kernel
      rw [e4, u64_or_nat _ _ (by decide) (by omega)]
      have h4 := or_pow fr 1 52 (by rw [show (2 : Nat) ^ 52 = 4503599627370496 by decide]; exact hF)
      rw [Nat.one_mul, show (2 : Nat) ^ 52 = 4503599627370496 by decide, Nat.or_comm] at h4
      rw [h4, Nat.add_comm fr]
      congr 2
      congr 1
      omega

theorem openS (w : Int) (hw : w = 32 ∨ w = 64) (a : Nat) (ha : a < 18446744073709551616) : Ev (fun k => shape_Open.f k w a) (opn w a) := by
  rcases hw with rfl | rfl
  · exact open32 a ha
  · exact open64 a ha
def nanN (w : Int) : Nat := if w = 32 then 2143289344 else 9221120237041090560

theorem join32 (s : Bool) (e fr : Nat) (he : e ≤ 255) (hf : fr < 8388608) : shape_format_join.f 8 23 s e fr = some ((mkN 32 (e * 8388608 + fr) s : Nat) : Int) := by
  unfold shape_format_join.f
  have hs : shape_format_sign.f 8 23 s = some ((((if s then 1 else 0) * 2 ^ 31 : Nat) : Int)) := by cases s <;> decide +kernel
  rw [hs, Option.bind_some, if_pos (by decide)]
  have e1 : shl .u64 (e : Int) 23 = ((e * 8388608 : Nat) : Int) := by
    unfold shl; rw [show min (23 : Int).toNat IntKind.u64.bits = 23 by decide, show (2 : Int) ^ 23 = 8388608 by decide, IntKind.wrap_u64]; omega
  rw [e1]
  have hc : (if s then 1 else 0) ≤ 1 := by cases s <;> decide
  have h2 : mkN 32 (e * 8388608 + fr) s = e * 8388608 + fr + (if s then 1 else 0) * 2147483648 := by
    unfold mkN; rw [show sb 32 = 2147483648 by decide]; cases s <;> simp
  rw [h2]
  generalize (if s then 1 else 0) = c at *
  rw [show (2 : Nat) ^ 31 = 2147483648 by decide, u64_or_nat _ _ (by omega) (by omega)]
  have h3 := or_pow (e * 8388608) c 31 (by rw [show (2 : Nat) ^ 31 = 2147483648 by decide]; omega)
  rw [show (2 : Nat) ^ 31 = 2147483648 by decide, Nat.or_comm] at h3
  rw [h3, u64_or_nat _ _ (by omega) (by omega)]
  have h4 := or_pow fr (e + c * 256) 23 (by rw [show (2 : Nat) ^ 23 = 8388608 by decide]; exact hf)
  rw [show (2 : Nat) ^ 23 = 8388608 by decide, Nat.or_comm, show (e + c * 256) * 8388608 = e * 8388608 + c * 2147483648 by omega] at h4
  rw [h4]
  congr 2
  omega
theorem shNan32 : shape_Nan.f 32 = some ((nanN 32 : Nat) : Int) := by
  unfold shape_Nan.f
  rw [show shape_of.f 32 = some (8, 23, true) by decide, Option.bind_some, if_pos rfl, ones32, Option.bind_some, if_pos (by decide +kernel)]
  have e1 : shl .u64 1 (wrap64 (23 - 1)) = ((4194304 : Nat) : Int) := by decide +kernel
  have e2 := join32 false 255 4194304 (by decide) (by decide)
  simp only [e1]
  rw [show (255 : Int) = ((255 : Nat) : Int) from rfl, e2, Option.bind_some]
  decide
theorem shInf32 (s : Bool) : shape_Inf.f 32 s = some ((mkN 32 f32.inf s : Nat) : Int) := by
  unfold shape_Inf.f
  rw [show shape_of.f 32 = some (8, 23, true) by decide, Option.bind_some, if_pos rfl, ones32, Option.bind_some]
  have e2 := join32 s 255 0 (by decide) (by decide)
  simp only
  rw [show (255 : Int) = ((255 : Nat) : Int) from rfl, show (0 : Int) = ((0 : Nat) : Int) from rfl, e2, Option.bind_some, inf32]
theorem shZero32 (s : Bool) : shape_Zero.f 32 s = some ((mkN 32 0 s : Nat) : Int) := by
  cases s <;> decide +kernel
theorem fin32 (s : Bool) (kd : Int) (m : Nat) (h0 : 0 < m) (hm : m < f32.inf) : Ev (fun k => shape_format_finite.f k 8 23 s kd (f32.ex m) (f32.sg m : Nat)) (((mkN 32 m s : Nat) : Int), true) := by
  rw [inf32] at hm
  rw [sg32, ex32]
  unfold shape_format_finite.f
  have e2 : shl .u64 2 23 = ((16777216 : Nat) : Int) := by decide +kernel
  have e3 : shl .u64 1 23 = ((8388608 : Nat) : Int) := by decide +kernel
  have e4 : IntKind.u64.wrap (((8388608 : Nat) : Int) - 1) = ((8388607 : Nat) : Int) := by decide +kernel
  have hmod : m % 8388608 < 8388608 := Nat.mod_lt _ (by decide)
  refine Ev.bs low32 ?_
  by_cases h1 : m < 8388608
  · rw [if_pos h1, if_pos h1]
    refine Ev.neg (by omega) (Ev.pos (by decide) (Ev.neg (by rw [e2]; omega) ?_))
    refine Ev.step (fun _ => shape_format_finite.j0.eq_2 ..) ?_
    refine Ev.neg (by simp) (Ev.pos (by decide) (Ev.pos (by rw [e3]; omega) ?_))
    have h2 := join32 s 0 m (by decide) h1
    rw [Nat.zero_mul, Nat.zero_add] at h2
    exact Ev.bs h2 (Ev.out (by simp))
  · rw [if_neg h1, if_neg h1]
    refine Ev.neg (by omega) (Ev.pos (by decide) (Ev.neg (by rw [e2]; omega) ?_))
    refine Ev.step (fun _ => shape_format_finite.j0.eq_2 ..) ?_
    refine Ev.neg (by simp; omega) (Ev.pos (by decide) (Ev.neg (by rw [e3]; omega) (Ev.bs ones32 ?_)))
    have hq : m / 8388608 ≤ 254 := by omega
    have hq0 : 1 ≤ m / 8388608 := by omega
    have hmm : m = m / 8388608 * 8388608 + m % 8388608 := by omega
    have h2 := join32 s (m / 8388608) (m % 8388608) (by omega) hmod
    rw [← hmm] at h2
    generalize m / 8388608 = e at *
    generalize m % 8388608 = fr at *
    rw [show ((e : Nat) : Int) - 1 + (-149) - (-149) = ((e - 1 : Nat) : Int) by omega, w64_id (n := ((e - 1 : Nat) : Int)) (by omega) (by omega), w64_id (n := (255 : Int)) (by decide) (by decide), show wrap64 ((255 : Int) - 2) = 253 by decide +kernel]
    refine Ev.neg (by omega) ?_
    rw [u64_id (n := ((e - 1 : Nat) : Int)) (by omega) (by omega), u64_id (n := ((e - 1 : Nat) : Int) + 1) (by omega) (by omega), show ((e - 1 : Nat) : Int) + 1 = (e : Int) by omega, e3, e4, u64_and_nat _ _ (by omega) (by decide)]
    have h5 := and_low (8388608 + fr) 23
    rw [show (2 : Nat) ^ 23 - 1 = 8388607 by decide, show (2 : Nat) ^ 23 = 8388608 by decide] at h5
    rw [h5, show (8388608 + fr) % 8388608 = fr by omega]
    exact Ev.bs h2 (Ev.out rfl)
theorem close32 (s : Bool) (m : Nat) (h0 : 0 < m) (hm : m < f32.inf) : Ev (fun k => shape_Close.f k 32 s 1 (f32.ex m) (f32.sg m : Nat)) (((mkN 32 m s : Nat) : Int), 0) := by
  unfold shape_Close.f
  refine Ev.bs (show shape_of.f 32 = some (8, 23, true) by decide) (Ev.pos rfl (Ev.pos rfl (Ev.bind (fin32 s 1 m h0 hm) (Ev.pos rfl (Ev.out rfl)))))
theorem join64 (s : Bool) (e fr : Nat) (he : e ≤ 2047) (hf : fr < 4503599627370496) : shape_format_join.f 11 52 s e fr = some ((mkN 64 (e * 4503599627370496 + fr) s : Nat) : Int) := by
  unfold shape_format_join.f
  have hs : shape_format_sign.f 11 52 s = some ((((if s then 1 else 0) * 2 ^ 63 : Nat) : Int)) := by cases s <;> decide +kernel
  rw [hs, Option.bind_some, if_pos (by decide)]
  have e1 : shl .u64 (e : Int) 52 = ((e * 4503599627370496 : Nat) : Int) := by
    unfold shl; rw [show min (52 : Int).toNat IntKind.u64.bits = 52 by decide, show (2 : Int) ^ 52 = 4503599627370496 by decide, IntKind.wrap_u64]; omega
  rw [e1]
  have hc : (if s then 1 else 0) ≤ 1 := by cases s <;> decide
  have h2 : mkN 64 (e * 4503599627370496 + fr) s = e * 4503599627370496 + fr + (if s then 1 else 0) * 9223372036854775808 := by
    unfold mkN; rw [show sb 64 = 9223372036854775808 by decide]; cases s <;> simp
  rw [h2]
  generalize (if s then 1 else 0) = c at *
  rw [show (2 : Nat) ^ 63 = 9223372036854775808 by decide, u64_or_nat _ _ (by omega) (by omega)]
  have h3 := or_pow (e * 4503599627370496) c 63 (by rw [show (2 : Nat) ^ 63 = 9223372036854775808 by decide]; omega)
  rw [show (2 : Nat) ^ 63 = 9223372036854775808 by decide, Nat.or_comm] at h3
  rw [h3, u64_or_nat _ _ (by omega) (by omega)]
  have h4 := or_pow fr (e + c * 2048) 52 (by rw [show (2 : Nat) ^ 52 = 4503599627370496 by decide]; exact hf)
  rw [show (2 : Nat) ^ 52 = 4503599627370496 by decide, Nat.or_comm, show (e + c * 2048) * 4503599627370496 = e * 4503599627370496 + c * 9223372036854775808 by omega] at h4
  rw [h4]
  congr 2
  omega
theorem shNan64 : shape_Nan.f 64 = some ((nanN 64 : Nat) : Int) := by
  unfold shape_Nan.f
  rw [show shape_of.f 64 = some (11, 52, true) by decide, Option.bind_some, if_pos rfl, ones64, Option.bind_some, if_pos (by decide +kernel)]
  have e1 : shl .u64 1 (wrap64 (52 - 1)) = ((2251799813685248 : Nat) : Int) := by decide +kernel
  have e2 := join64 false 2047 2251799813685248 (by decide) (by decide)
  simp only [e1]
  rw [show (2047 : Int) = ((2047 : Nat) : Int) from rfl, e2, Option.bind_some]
  decide
theorem shInf64 (s : Bool) : shape_Inf.f 64 s = some ((mkN 64 f64.inf s : Nat) : Int) := by
  unfold shape_Inf.f
  rw [show shape_of.f 64 = some (11, 52, true) by decide, Option.bind_some, if_pos rfl, ones64, Option.bind_some]
  have e2 := join64 s 2047 0 (by decide) (by decide)
  simp only
  rw [show (2047 : Int) = ((2047 : Nat) : Int) from rfl, show (0 : Int) = ((0 : Nat) : Int) from rfl, e2, Option.bind_some, inf64]
theorem shZero64 (s : Bool) : shape_Zero.f 64 s = some ((mkN 64 0 s : Nat) : Int) := by
  cases s <;> decide +kernel
theorem fin64 (s : Bool) (kd : Int) (m : Nat) (h0 : 0 < m) (hm : m < f64.inf) : Ev (fun k => shape_format_finite.f k 11 52 s kd (f64.ex m) (f64.sg m : Nat)) (((mkN 64 m s : Nat) : Int), true) := by
  rw [inf64] at hm
  rw [sg64, ex64]
  unfold shape_format_finite.f
  have e2 : shl .u64 2 52 = ((9007199254740992 : Nat) : Int) := by decide +kernel
  have e3 : shl .u64 1 52 = ((4503599627370496 : Nat) : Int) := by decide +kernel
  have e4 : IntKind.u64.wrap (((4503599627370496 : Nat) : Int) - 1) = ((4503599627370495 : Nat) : Int) := by decide +kernel
  have hmod : m % 4503599627370496 < 4503599627370496 := Nat.mod_lt _ (by decide)
  refine Ev.bs low64 ?_
  by_cases h1 : m < 4503599627370496
  · rw [if_pos h1, if_pos h1]
    refine Ev.neg (by omega) (Ev.pos (by decide) (Ev.neg (by rw [e2]; omega) ?_))
    refine Ev.step (fun _ => shape_format_finite.j0.eq_2 ..) ?_
    refine Ev.neg (by simp) (Ev.pos (by decide) (Ev.pos (by rw [e3]; omega) ?_))
    have h2 := join64 s 0 m (by decide) h1
    rw [Nat.zero_mul, Nat.zero_add] at h2
    exact Ev.bs h2 (Ev.out (by simp))
  · rw [if_neg h1, if_neg h1]
    refine Ev.neg (by omega) (Ev.pos (by decide) (Ev.neg (by rw [e2]; omega) ?_))
    refine Ev.step (fun _ => shape_format_finite.j0.eq_2 ..) ?_
    refine Ev.neg (by simp; omega) (Ev.pos (by decide) (Ev.neg (by rw [e3]; omega) (Ev.bs ones64 ?_)))
    have hq : m / 4503599627370496 ≤ 2046 := by omega
    have hq0 : 1 ≤ m / 4503599627370496 := by omega
    have hmm : m = m / 4503599627370496 * 4503599627370496 + m % 4503599627370496 := by omega
    have h2 := join64 s (m / 4503599627370496) (m % 4503599627370496) (by omega) hmod
    rw [← hmm] at h2
    generalize m / 4503599627370496 = e at *
    generalize m % 4503599627370496 = fr at *
    rw [show ((e : Nat) : Int) - 1 + (-1074) - (-1074) = ((e - 1 : Nat) : Int) by omega, w64_id (n := ((e - 1 : Nat) : Int)) (by omega) (by omega), w64_id (n := (2047 : Int)) (by decide) (by decide), show wrap64 ((2047 : Int) - 2) = 2045 by decide +kernel]
    refine Ev.neg (by omega) ?_
    rw [u64_id (n := ((e - 1 : Nat) : Int)) (by omega) (by omega), u64_id (n := ((e - 1 : Nat) : Int) + 1) (by omega) (by omega), show ((e - 1 : Nat) : Int) + 1 = (e : Int) by omega, e3, e4, u64_and_nat _ _ (by omega) (by decide)]
    have h5 := and_low (4503599627370496 + fr) 52
    rw [show (2 : Nat) ^ 52 - 1 = 4503599627370495 by decide, show (2 : Nat) ^ 52 = 4503599627370496 by decide] at h5
    rw [h5, show (4503599627370496 + fr) % 4503599627370496 = fr by omega]
    exact Ev.bs h2 (Ev.out rfl)
theorem close64 (s : Bool) (m : Nat) (h0 : 0 < m) (hm : m < f64.inf) : Ev (fun k => shape_Close.f k 64 s 1 (f64.ex m) (f64.sg m : Nat)) (((mkN 64 m s : Nat) : Int), 0) := by
  unfold shape_Close.f
  refine Ev.bs (show shape_of.f 64 = some (11, 52, true) by decide) (Ev.pos rfl (Ev.pos rfl (Ev.bind (fin64 s 1 m h0 hm) (Ev.pos rfl (Ev.out rfl)))))
end Go.Proofs.Ytgcgheilbngcoaa.Th
end
namespace Go.Proofs.Ytgcgheilbngcoaa.PA
open Go.RowKit Go.Proofs.YtgcgheilbngcoaaW.PrintWords Go.Proofs.YtgcgheilbngcoaaW.PrintLast Go.Proofs.YtgcgheilbngcoaaW.PrintMore
attribute [local go_sem] max2_int min2_int max_two min_two max_three min_three max_four min_four   -- for this text's walks alone
set_option linter.unusedVariables false
set_option linter.unusedSimpArgs false
set_option maxHeartbeats 8000000
set_option maxRecDepth 100000
-- IMPORT Derived.Test.YtgcgheilbngcoaaShelf
def bits_Mul64.f (a0 : Int) (a1 : Int) : Option (Int × Int) := if (0 ≤ a0 ∧ a0 < 18446744073709551616) ∧ (0 ≤ a1 ∧ a1 < 18446744073709551616) then some (((a0.toNat * a1.toNat / 18446744073709551616 : Nat) : Int), ((a0.toNat * a1.toNat % 18446744073709551616 : Nat) : Int)) else none
theorem bits_Mul64.calls (a0 : Int) (a1 : Int) (r1 : Int) (r2 : Int) (w : World) (h : bits_Mul64.f a0 a1 = some (r1, r2)) :
  Calls Try.prog 176 #[.int .u64 a0, .int .u64 a1] w fun e w' => e = .returned (.tuple #[.int .u64 r1, .int .u64 r2]) ∧ Drawn0 w w' := by
 unfold bits_Mul64.f at h
 split at h
 ·rename_i hr
  obtain ⟨⟨h0, h1⟩, h2, h3⟩ := hr
  obtain ⟨rfl, rfl⟩ := Prod.mk.inj (Option.some.inj h)
  obtain ⟨x, rfl⟩ := Int.eq_ofNat_of_zero_le h0
  obtain ⟨y, rfl⟩ := Int.eq_ofNat_of_zero_le h2
  refine (Try.bits_Mul64 x y (by omega) (by omega) w).mono ?_
  rintro e w' ⟨rfl, rfl⟩
  exact ⟨rfl, Drawn0.refl _⟩
 ·cases h
def wide_Mul.f (a0 : Int) (a1 : Int) : Option (Int × Int) := (bits_Mul64.f a0 a1).bind fun bt645 => (some (bt645.1, bt645.2))
theorem wide_Mul.calls (a0 : Int) (a1 : Int) (r1 : Int) (r2 : Int) (w : World) (h : wide_Mul.f a0 a1 = some (r1, r2)) :
  Calls Try.prog 161 #[.int .u64 a0, .int .u64 a1] w fun e w' => e = .returned (.agg #[.int .u64 r1, .int .u64 r2]) ∧ Below w.heap.size w w' := by
 have hu41 := Try.underlying41
 have HB := A_ (Below.refl w.heap.size w)
 have H : ((bits_Mul64.f a0 a1).bind fun bt645 => (some (bt645.1, bt645.2))) = some (r1, r2) := h
 clear h
 replace H := ob_ H
 obtain ⟨⟨t645, t646⟩, A30, H⟩ := H
 replace H : (some (t645, t646)) = some (r1, r2) := H
 have A3 := A_ A30;clear A30
 simp only [Option.some.injEq, Prod.mk.injEq] at H
 obtain ⟨rfl, rfl⟩ := H
 go_enter Try.func161, Try.ntmps161
 go_wp2_with (first | ((with_reducible refine gate_dst (N := 4) rfl ?_); refine be_ 4 #[.int .u64 0, .int .u64 0] 41 ?_; intro gb644 hg w4 hbox hb; have n0_ := A_ (below_step (hb_ HB.out) hb); have n1_ := A_ (hbox); have n2_ := A_ (sz_ hg (hb_ HB.out)); have n3_ := A_ (sz_ hg (hb_ HB.out)); clear HB; have HB := n0_; have BK644 := n1_; have GW644 := n2_; have GE644 := n3_; clear n0_ n1_ n2_ n3_; clear hb hbox hg) | ((with_reducible refine gate_callee (f := 176) rfl ?_); refine gl_ (some 10) Try.func176 #[.int .u64 a0, .int .u64 a1] ?_; (with_reducible refine (bits_Mul64.calls a0 a1 t645 t646 _ A3.out).mono ?_); rintro e w' ⟨rfl, ⟨nd, rfl⟩⟩; refine ⟨_, rfl, ?_⟩; (try (rw [drewN_self w4]; generalize hq_ : World.drewN w4 _ = w4; have n0_ : Aside0 (w4.heap[gb644]? = some (.cells #[.int .u64 0, .int .u64 0] 41 (0, 0))) := ⟨by rw [← hq_]; exact (bk_ BK644.out)⟩; have n1_ : Aside0 (Below w.heap.size w w4) := ⟨by rw [← hq_]; exact (hb1_ HB.out GE644.out)⟩; clear BK644 HB hq_; have BK644 := n0_; have HB := n1_; clear n0_ n1_)); have hcz5_0 : w4.cell? ⟨gb644, 0, none⟩ = some (.int .u64 0) := bc_ BK644.out 0; have hcz5_1 : w4.cell? ⟨gb644, 1, none⟩ = some (.int .u64 0) := bc_ BK644.out 1; have hfz5_0 := blk_frozen BK644.out 0; have hfz5_1 := blk_frozen BK644.out 1))
 refine bodyPost_ret (results_cell_row rfl _ _ gb644 41 #[.int .u64 t645, .int .u64 t646] (0, 0) _ rfl (by (with_reducible repeat (first | refine blk_drewN ?_ _ | refine blk_drew ?_ | refine blk_alloc ?_ _)); refine blk_put (cs := #[.int .u64 t645, .int .u64 0]) ?_ 1 _ rfl; (with_reducible repeat (first | refine blk_drewN ?_ _ | refine blk_drew ?_ | refine blk_alloc ?_ _)); refine blk_put (cs := #[.int .u64 0, .int .u64 0]) ?_ 0 _ rfl; (with_reducible repeat (first | refine blk_drewN ?_ _ | refine blk_drew ?_ | refine blk_alloc ?_ _)); exact BK644.out) Try.underlying41 rfl (by kernel_rfl)) rfl ?_
 exact ⟨er_, hb1_ HB.out GE644.out⟩
end Go.Proofs.Ytgcgheilbngcoaa.PA
section
set_option linter.unusedVariables false
set_option linter.unusedSimpArgs false
namespace Go.Proofs.Ytgcgheilbngcoaa.Th
open Go.RowKit Go.Proofs.YtgcgheilbngcoaaW.PrintWords Go.Proofs.YtgcgheilbngcoaaW.PrintLast Go.Proofs.YtgcgheilbngcoaaW.PrintMore Go.Proofs.Ytgcgheilbngcoaa.PA Bit Dig
def wn (h l : Nat) : Nat := h * 18446744073709551616 + l
theorem wn_hi {h l : Nat} (hl : l < 18446744073709551616) : wn h l / 18446744073709551616 = h := by unfold wn; omega
theorem wn_lo {h l : Nat} (hl : l < 18446744073709551616) : wn h l % 18446744073709551616 = l := by unfold wn; omega
theorem wn_div (V : Nat) : wn (V / 18446744073709551616) (V % 18446744073709551616) = V := by unfold wn; omega
theorem wn_lt {h l : Nat} (hh : h < 18446744073709551616) (hl : l < 18446744073709551616) : wn h l < 340282366920938463463374607431768211456 := by unfold wn; omega
theorem p128 : (340282366920938463463374607431768211456 : Nat) = 2 ^ 128 := by decide
theorem p64 : (18446744073709551616 : Nat) = 2 ^ 64 := by decide
theorem bl_128 {n : Nat} (h : n < 340282366920938463463374607431768211456) : bl n ≤ 128 := bl_le.2 h
theorem bitLen_aux (f : Nat) : ∀ x, x < 2 ^ f → Lib.bitLenAux f x = bl x := by
  induction f with
  | zero => intro x h; obtain rfl : x = 0 := by simpa using h
            rfl
  | succ f ih =>
    intro x h
    unfold Lib.bitLenAux
    by_cases h0 : x = 0
    · rw [if_pos h0, h0, bl_zero]
    · rw [if_neg h0, ih _ (by rw [Nat.pow_succ] at h; omega), bl_half (show 0 < x by omega)]; omega
theorem bitLen_bl {x : Nat} (h : x < 18446744073709551616) : Lib.bitLen x = bl x := bitLen_aux 64 x h
theorem mulW (x y : Nat) (hx : x < 18446744073709551616) (hy : y < 18446744073709551616) : wide_Mul.f x y = some (((x * y / 18446744073709551616 : Nat) : Int), ((x * y % 18446744073709551616 : Nat) : Int)) := by
  unfold wide_Mul.f bits_Mul64.f
  rw [if_pos (by omega)]; rfl
theorem lenW (a b : Nat) (ha : a < 18446744073709551616) (hb : b < 18446744073709551616) : wide_Len.f a b = some ((bl (wn a b) : Nat) : Int) := by
  unfold wide_Len.f bits_Len64.f
  rw [if_pos (show 0 ≤ (a : Int) ∧ (a : Int) ≤ 18446744073709551615 by omega), if_pos (show 0 ≤ (b : Int) ∧ (b : Int) ≤ 18446744073709551615 by omega)]
  by_cases h : (a : Int) > 0
  · rw [if_pos h, Option.bind_some, Int.toNat_natCast, bitLen_bl ha]
    have h1 := bl64 ha
    have h2 := bl_add_low a b 64 (by omega) hb
    rw [w64_id (by omega) (by omega)]
    unfold wn
    rw [p64, h2]; congr 1; omega
  · rw [if_neg h, Option.bind_some, Int.toNat_natCast, bitLen_bl hb]
    have : a = 0 := by omega
    subst this
    unfold wn; rw [Nat.zero_mul, Nat.zero_add]
theorem shlN (c n : Nat) (hn : n < 64) : shl .u64 (c : Int) (n : Int) = ((c * 2 ^ n % 18446744073709551616 : Nat) : Int) := by
  unfold shl
  rw [show min ((n : Int)).toNat IntKind.u64.bits = n by rw [show IntKind.u64.bits = 64 by decide]; omega, IntKind.wrap_u64]
  have hp : (2 : Int) ^ n = ((2 ^ n : Nat) : Int) := by rw [Int.natCast_pow]; rfl
  rw [hp, ← Int.natCast_mul]; omega
theorem shrN' (c n : Nat) (hn : n < 64) : shr .u64 (c : Int) (n : Int) = ((c / 2 ^ n : Nat) : Int) := by
  unfold shr
  rw [show min ((n : Int)).toNat IntKind.u64.bits = n by rw [show IntKind.u64.bits = 64 by decide]; omega]
  have hp : (2 : Int) ^ n = ((2 ^ n : Nat) : Int) := by rw [Int.natCast_pow]; rfl
  rw [hp]; omega
theorem or_add (x y n : Nat) (hn : n ≤ 64) (hx : 2 ^ n ∣ x) (hy : y < 2 ^ n) (h : x < 18446744073709551616) (h2 : y < 18446744073709551616) : Go.bits .or .u64 (x : Int) (y : Int) = ((x + y : Nat) : Int) := by
  rw [u64_or_nat x y h h2]
  congr 1
  obtain ⟨c, rfl⟩ := hx
  rw [Nat.or_comm, Nat.mul_comm, or_pow y c n hy]; omega
theorem left_arith (h l n : Nat) (h0 : 0 < n) (hn : n < 64) (hl : l < 2 ^ 64) :
    wn h l * 2 ^ n % 2 ^ 128 / 2 ^ 64 = h * 2 ^ n % 2 ^ 64 + l / 2 ^ (64 - n) ∧ wn h l * 2 ^ n % 2 ^ 128 % 2 ^ 64 = l * 2 ^ n % 2 ^ 64 ∧ 2 ^ n ∣ h * 2 ^ n % 2 ^ 64 ∧ l / 2 ^ (64 - n) < 2 ^ n := by
  have hd : l / 2 ^ (64 - n) < 2 ^ n := by
    rw [Nat.div_lt_iff_lt_mul (Nat.pow_pos (by decide)), ← Nat.pow_add, show n + (64 - n) = 64 by omega]; exact hl
  have e64 : 2 ^ 64 = 2 ^ n * 2 ^ (64 - n) := by rw [← Nat.pow_add]; congr 1; omega
  have hdv : 2 ^ n ∣ h * 2 ^ n % 2 ^ 64 := by
    rw [e64]; exact (Nat.dvd_mod_iff (Nat.dvd_mul_right _ _)).2 (Nat.dvd_mul_left _ _)
  have hq : l * 2 ^ n = l / 2 ^ (64 - n) * 2 ^ 64 + l * 2 ^ n % 2 ^ 64 := by
    have h1 := Nat.div_add_mod (l * 2 ^ n) (2 ^ 64)
    have h2 : l * 2 ^ n / 2 ^ 64 = l / 2 ^ (64 - n) := by
      rw [e64, Nat.mul_comm l, Nat.mul_div_mul_left _ _ (Nat.pow_pos (by decide))]
    rw [h2, Nat.mul_comm] at h1
    omega
  have hlow := Nat.mod_lt (l * 2 ^ n) (show 0 < 2 ^ 64 by decide)
  have hhi := Nat.mod_lt (h * 2 ^ n) (show 0 < 2 ^ 64 by decide)
  have hh := Nat.div_add_mod (h * 2 ^ n) (2 ^ 64)
  have hv : wn h l * 2 ^ n = 2 ^ 128 * (h * 2 ^ n / 2 ^ 64) + ((h * 2 ^ n % 2 ^ 64 + l / 2 ^ (64 - n)) * 2 ^ 64 + l * 2 ^ n % 2 ^ 64) := by
    unfold wn
    rw [Nat.add_mul, p64, Nat.mul_right_comm, hq]
    generalize h * 2 ^ n = u at *
    generalize l * 2 ^ n % 2 ^ 64 = v at *
    rw [show (2 : Nat) ^ 128 = 340282366920938463463374607431768211456 by decide]
    rw [show (2 : Nat) ^ 64 = 18446744073709551616 by decide] at *
    omega
  have hs : h * 2 ^ n % 2 ^ 64 + l / 2 ^ (64 - n) < 2 ^ 64 := by
    obtain ⟨c, hc⟩ := hdv
    have h3 : c < 2 ^ (64 - n) := by
      rw [hc, e64] at hhi
      exact Nat.lt_of_mul_lt_mul_left hhi
    have h4 : 2 ^ n * (c + 1) ≤ 2 ^ n * 2 ^ (64 - n) := Nat.mul_le_mul_left _ h3
    rw [← e64, Nat.mul_add, Nat.mul_one, ← hc] at h4
    omega
  have hm : wn h l * 2 ^ n % 2 ^ 128 = (h * 2 ^ n % 2 ^ 64 + l / 2 ^ (64 - n)) * 2 ^ 64 + l * 2 ^ n % 2 ^ 64 := by
    rw [hv, Nat.mul_add_mod, Nat.mod_eq_of_lt]
    generalize h * 2 ^ n % 2 ^ 64 + l / 2 ^ (64 - n) = s at *
    generalize l * 2 ^ n % 2 ^ 64 = v at *
    rw [show (2 : Nat) ^ 128 = 340282366920938463463374607431768211456 by decide]
    rw [show (2 : Nat) ^ 64 = 18446744073709551616 by decide] at *
    omega
  refine ⟨?_, ?_, hdv, hd⟩
  · rw [hm, Nat.mul_comm, Nat.mul_add_div (by decide), Nat.div_eq_of_lt hlow, Nat.add_zero]
  · rw [hm, Nat.mul_comm, Nat.mul_add_mod, Nat.mod_mod]
def lfV (a : Nat) (n : Int) : Nat := a * 2 ^ n.toNat % 340282366920938463463374607431768211456
theorem leftW (h l : Nat) (n : Int) (hh : h < 18446744073709551616) (hl : l < 18446744073709551616) (hn : n < 9223372036854775808) :
    wide_Left.f h l n = some (((lfV (wn h l) n / 18446744073709551616 : Nat) : Int), ((lfV (wn h l) n % 18446744073709551616 : Nat) : Int)) := by
  unfold wide_Left.f lfV
  have hw := wn_lt hh hl
  by_cases h0 : n ≤ 0
  · rw [if_pos h0, show n.toNat = 0 by omega, Nat.pow_zero, Nat.mul_one, Nat.mod_eq_of_lt hw, wn_hi hl, wn_lo hl]
  · rw [if_neg h0]
    obtain ⟨m, rfl⟩ := Int.eq_ofNat_of_zero_le (show 0 ≤ n by omega)
    rw [Int.toNat_natCast]
    by_cases h1 : (m : Int) ≥ 128
    · rw [if_pos h1, p128, show m = 128 + (m - 128) by omega, Nat.pow_add, Nat.mul_left_comm, Nat.mul_mod_right]; rfl
    · rw [if_neg h1]
      by_cases h2 : (m : Int) ≥ 64
      · rw [if_pos h2, w64_id (by omega) (by omega), if_pos (by omega), show (m : Int) - 64 = ((m - 64 : Nat) : Int) by omega, shlN _ _ (by omega)]
        have e : wn h l * 2 ^ m % 340282366920938463463374607431768211456 = l * 2 ^ (m - 64) % 18446744073709551616 * 18446744073709551616 := by
          rw [show 2 ^ m = 2 ^ (m - 64) * 18446744073709551616 by rw [p64, ← Nat.pow_add]; congr 1; omega, ← Nat.mul_assoc, show (340282366920938463463374607431768211456 : Nat) = 18446744073709551616 * 18446744073709551616 by decide, Nat.mul_mod_mul_right]
          congr 1
          unfold wn
          rw [Nat.add_mul, Nat.mul_right_comm, Nat.add_comm, Nat.add_mul_mod_self_right]
        rw [e, Nat.mul_div_cancel _ (by decide), Nat.mul_mod_left]; rfl
      · rw [if_neg h2, if_pos (by omega), w64_id (by omega) (by omega), if_pos (by omega), show (64 : Int) - m = ((64 - m : Nat) : Int) by omega, shlN _ _ (by omega), shlN _ _ (by omega), shrN' _ _ (by omega)]
        obtain ⟨k1, k2, k3, k4⟩ := left_arith h l m (by omega) (by omega) hl
        rw [← p64] at k1 k2 k3
        rw [← p128] at k1 k2
        have k5 := Nat.mod_lt (h * 2 ^ m) (show 0 < 18446744073709551616 by decide)
        have k6 := Nat.div_le_self l (2 ^ (64 - m))
        rw [or_add _ _ m (by omega) k3 k4 (by omega) (by omega), k1, k2]
theorem wn_ne (V h l : Nat) (hV : V < 340282366920938463463374607431768211456) (hl : l < 18446744073709551616) :
    (!(((V / 18446744073709551616 : Nat) : Int) == (h : Int)) || !(((V % 18446744073709551616 : Nat) : Int) == (l : Int))) = decide (V ≠ wn h l) := by
  have e : (((V / 18446744073709551616 : Nat) : Int) == (h : Int)) = decide (V / 18446744073709551616 = h) := by
    rw [Bool.eq_iff_iff]; simp; omega
  have e2 : (((V % 18446744073709551616 : Nat) : Int) == (l : Int)) = decide (V % 18446744073709551616 = l) := by
    rw [Bool.eq_iff_iff]; simp; omega
  rw [e, e2]
  have h3 : V = wn h l ↔ V / 18446744073709551616 = h ∧ V % 18446744073709551616 = l := by
    unfold wn; omega
  by_cases h1 : V / 18446744073709551616 = h <;> by_cases h2 : V % 18446744073709551616 = l <;> simp [h1, h2, h3]
theorem or_add' (x y n : Nat) (hn : n ≤ 64) (hx : 2 ^ n ∣ x) (hy : y < 2 ^ n) (h : x < 18446744073709551616) (h2 : y < 18446744073709551616) : Go.bits .or .u64 (y : Int) (x : Int) = ((y + x : Nat) : Int) := by
  rw [u64_or_nat y x h2 h]
  congr 1
  obtain ⟨c, rfl⟩ := hx
  rw [Nat.mul_comm, or_pow y c n hy]
theorem gen_hi (B C h l : Nat) (hC : 0 < C) : (h * (B * C) + l) / C = h * B + l / C := by
  rw [← Nat.mul_assoc, Nat.mul_comm (h * B) C, Nat.mul_add_div hC]
theorem right_arith (h l n : Nat) (h0 : 0 < n) (hn : n < 64) (hh : h < 2 ^ 64) (hl : l < 2 ^ 64) :
    wn h l / 2 ^ n / 2 ^ 64 = h / 2 ^ n ∧ wn h l / 2 ^ n % 2 ^ 64 = l / 2 ^ n + h * 2 ^ (64 - n) % 2 ^ 64 ∧ 2 ^ (64 - n) ∣ h * 2 ^ (64 - n) % 2 ^ 64 ∧ l / 2 ^ n < 2 ^ (64 - n) := by
  have p0 : 0 < 2 ^ n := Nat.pow_pos (by decide)
  have p1 : 0 < 2 ^ (64 - n) := Nat.pow_pos (by decide)
  have e64 : 2 ^ 64 = 2 ^ (64 - n) * 2 ^ n := by rw [← Nat.pow_add]; congr 1; omega
  have hd : l / 2 ^ n < 2 ^ (64 - n) := by rw [Nat.div_lt_iff_lt_mul p0, ← e64]; exact hl
  have hdv : 2 ^ (64 - n) ∣ h * 2 ^ (64 - n) % 2 ^ 64 := by
    rw [e64]; exact (Nat.dvd_mod_iff (Nat.dvd_mul_right _ _)).2 (Nat.dvd_mul_left _ _)
  have hq : wn h l / 2 ^ n = h * 2 ^ (64 - n) + l / 2 ^ n := by
    unfold wn; rw [p64, e64]; exact gen_hi _ _ h l p0
  have hx : h * 2 ^ (64 - n) / 2 ^ 64 = h / 2 ^ n := by
    rw [e64, Nat.mul_comm (2 ^ (64 - n)), Nat.mul_div_mul_right _ _ p1]
  have hm := Nat.div_add_mod (h * 2 ^ (64 - n)) (2 ^ 64)
  have hlt := Nat.mod_lt (h * 2 ^ (64 - n)) (show 0 < 2 ^ 64 by decide)
  have hs : h * 2 ^ (64 - n) % 2 ^ 64 + l / 2 ^ n < 2 ^ 64 := by
    obtain ⟨c, hc⟩ := hdv
    have h3 : c < 2 ^ n := by
      rw [hc, e64] at hlt
      exact Nat.lt_of_mul_lt_mul_left hlt
    have h4 : 2 ^ (64 - n) * (c + 1) ≤ 2 ^ (64 - n) * 2 ^ n := Nat.mul_le_mul_left _ h3
    rw [← e64, Nat.mul_add, Nat.mul_one, ← hc] at h4
    omega
  rw [hx] at hm
  rw [hq]
  generalize h * 2 ^ (64 - n) % 2 ^ 64 = u at *
  generalize l / 2 ^ n = v at *
  rw [← hm, Nat.add_assoc]
  refine ⟨?_, ?_, hdv, hd⟩
  · rw [Nat.mul_add_div (by decide), Nat.div_eq_of_lt hs, Nat.add_zero]
  · rw [Nat.mul_add_mod, Nat.mod_eq_of_lt hs, Nat.add_comm]
theorem lost_iff (a p : Nat) (h : a < 340282366920938463463374607431768211456) : (a / p * p) % 340282366920938463463374607431768211456 ≠ a ↔ a % p ≠ 0 := by
  have h1 := Nat.div_add_mod a p
  rw [Nat.mul_comm] at h1
  have h2 : a / p * p < 340282366920938463463374607431768211456 := by omega
  rw [Nat.mod_eq_of_lt h2]
  omega
def rgV (a : Nat) (n : Int) : Nat := a / 2 ^ n.toNat
theorem rightW (h l : Nat) (n : Int) (hh : h < 18446744073709551616) (hl : l < 18446744073709551616) (hn : n < 9223372036854775808) :
    wide_Right.f h l n = some (((rgV (wn h l) n / 18446744073709551616 : Nat) : Int), ((rgV (wn h l) n % 18446744073709551616 : Nat) : Int), decide (wn h l % 2 ^ n.toNat ≠ 0)) := by
  unfold wide_Right.f rgV
  have hw := wn_lt hh hl
  by_cases h0 : n ≤ 0
  · rw [if_pos h0, show n.toNat = 0 by omega, Nat.pow_zero, Nat.div_one, Nat.mod_one, wn_hi hl, wn_lo hl]; rfl
  · rw [if_neg h0]
    obtain ⟨m, rfl⟩ := Int.eq_ofNat_of_zero_le (show 0 ≤ n by omega)
    rw [Int.toNat_natCast]
    have key : ∀ Q : Nat, Q = wn h l / 2 ^ m → (!(((lfV (wn (Q / 18446744073709551616) (Q % 18446744073709551616)) (m : Int) / 18446744073709551616 : Nat) : Int) == (h : Int)) || !(((lfV (wn (Q / 18446744073709551616) (Q % 18446744073709551616)) (m : Int) % 18446744073709551616 : Nat) : Int) == (l : Int))) = decide (wn h l % 2 ^ m ≠ 0) := by
      intro Q hQ
      rw [wn_div]
      unfold lfV
      rw [Int.toNat_natCast, hQ, wn_ne _ h l (Nat.mod_lt _ (by decide)) hl, decide_eq_decide]
      exact lost_iff _ _ hw
    by_cases h1 : (m : Int) ≥ 128
    · rw [if_pos h1]
      have hb : wn h l < 2 ^ m := Nat.lt_of_lt_of_le hw (by rw [p128]; exact Nat.pow_le_pow_right (by decide) (by omega))
      rw [Nat.div_eq_of_lt hb, Nat.mod_eq_of_lt hb]
      have e := wn_ne 0 h l (by decide) hl
      have e2 : (!((h : Int) == 0) || !((l : Int) == 0)) = decide (wn h l ≠ 0) := by
        rw [Bool.eq_iff_iff]; simp; unfold wn; omega
      rw [e2]; rfl
    · rw [if_neg h1]
      by_cases h2 : (m : Int) ≥ 64
      · rw [if_pos h2, w64_id (by omega) (by omega), show (m : Int) - 64 = ((m - 64 : Nat) : Int) by omega, shrN' _ _ (by omega)]
        have hQ : h / 2 ^ (m - 64) = wn h l / 2 ^ m := by
          rw [show 2 ^ m = 18446744073709551616 * 2 ^ (m - 64) by rw [p64, ← Nat.pow_add]; congr 1; omega, ← Nat.div_div_eq_div_mul, wn_hi hl]
        have hq1 := Nat.div_le_self h (2 ^ (m - 64))
        have k := key _ hQ
        rw [← hQ]
        generalize h / 2 ^ (m - 64) = q at *
        rw [Nat.div_eq_of_lt (show q < 18446744073709551616 by omega), Nat.mod_eq_of_lt (show q < 18446744073709551616 by omega)] at k ⊢
        have lw := leftW 0 q (m : Int) (by decide) (by omega) (by omega)
        rw [show ((0 : Nat) : Int) = 0 from rfl] at lw
        rw [lw, Option.bind_some]
        show some (0, (q : Int), _) = _
        rw [k]; rfl
      · rw [if_neg h2, w64_id (by omega) (by omega), show (64 : Int) - m = ((64 - m : Nat) : Int) by omega, shrN' _ _ (by omega), shrN' _ _ (by omega), shlN _ _ (by omega)]
        obtain ⟨k1, k2, k3, k4⟩ := right_arith h l m (by omega) (by omega) hh hl
        rw [← p64] at k1 k2 k3
        have k5 := Nat.mod_lt (h * 2 ^ (64 - m)) (show 0 < 18446744073709551616 by decide)
        have k6 := Nat.div_le_self l (2 ^ m)
        have k7 := Nat.div_le_self h (2 ^ m)
        rw [or_add' _ _ (64 - m) (by omega) k3 k4 (by omega) (by omega)]
        have k := key _ rfl
        rw [k1, k2] at k
        rw [k1, k2]
        have lw := leftW (h / 2 ^ m) (l / 2 ^ m + h * 2 ^ (64 - m) % 18446744073709551616) (m : Int) (by omega) (by rw [← k2]; exact Nat.mod_lt _ (by decide)) (by omega)
        rw [lw, Option.bind_some, k]
theorem addW (a b c d : Nat) (ha : a < 18446744073709551616) (hb : b < 18446744073709551616) (hc : c < 18446744073709551616) (hd : d < 18446744073709551616) :
    wide_Add.f a b c d = some ((((wn a b + wn c d) % 340282366920938463463374607431768211456 / 18446744073709551616 : Nat) : Int), (((wn a b + wn c d) % 340282366920938463463374607431768211456 % 18446744073709551616 : Nat) : Int)) := by
  unfold wide_Add.f wn
  rw [if_pos (by omega)]
  have e1 : ((a : Int) + (c : Int) + ((b : Int) + (d : Int)) / 18446744073709551616) % 18446744073709551616 = (((a * 18446744073709551616 + b + (c * 18446744073709551616 + d)) % 340282366920938463463374607431768211456 / 18446744073709551616 : Nat) : Int) := by omega
  have e2 : ((b : Int) + (d : Int)) % 18446744073709551616 = (((a * 18446744073709551616 + b + (c * 18446744073709551616 + d)) % 340282366920938463463374607431768211456 % 18446744073709551616 : Nat) : Int) := by omega
  rw [e1, e2]
end Go.Proofs.Ytgcgheilbngcoaa.Th
end
section
set_option linter.unusedVariables false
set_option linter.unusedSimpArgs false
namespace Go.Proofs.Ytgcgheilbngcoaa.Th
open Go.RowKit Go.Proofs.YtgcgheilbngcoaaW.PrintWords Go.Proofs.YtgcgheilbngcoaaW.PrintLast Go.Proofs.YtgcgheilbngcoaaW.PrintMore Go.Proofs.Ytgcgheilbngcoaa.PA Bit Flo
theorem fmt_bd' (w : Int) : (fmt w).f ≤ 52 ∧ (-5000 < (fmt w).low ∧ (fmt w).low < 0) ∧ (fmt w).top < 5000 ∧ 2 ≤ (fmt w).top := by
  unfold fmt; split <;> decide
def wH (V : Nat) : Int := ((V / 18446744073709551616 : Nat) : Int)
def wL (V : Nat) : Int := ((V % 18446744073709551616 : Nat) : Int)
theorem wHL (h l : Nat) (hl : l < 18446744073709551616) : wH (wn h l) = h ∧ wL (wn h l) = l := by unfold wH wL; rw [wn_hi hl, wn_lo hl]; exact ⟨rfl, rfl⟩
theorem hi64 {V : Nat} (h : V < 340282366920938463463374607431768211456) : V / 18446744073709551616 < 18446744073709551616 := by omega
theorem lo64 (V : Nat) : V % 18446744073709551616 < 18446744073709551616 := Nat.mod_lt _ (by decide)
theorem wLen {V : Nat} (h : V < 340282366920938463463374607431768211456) : wide_Len.f (wH V) (wL V) = some ((bl V : Nat) : Int) := by
  have := lenW (V / 18446744073709551616) (V % 18446744073709551616) (hi64 h) (lo64 V)
  rwa [wn_div] at this
theorem wLeft {V : Nat} (h : V < 340282366920938463463374607431768211456) (n : Nat) (hn : n < 1000) (hV : V * 2 ^ n < 340282366920938463463374607431768211456) : wide_Left.f (wH V) (wL V) n = some (wH (V * 2 ^ n), wL (V * 2 ^ n)) := by
  have := leftW (V / 18446744073709551616) (V % 18446744073709551616) n (hi64 h) (lo64 V) (by omega)
  rwa [wn_div, lfV, Int.toNat_natCast, Nat.mod_eq_of_lt hV] at this
theorem wRight {V : Nat} (h : V < 340282366920938463463374607431768211456) (n : Nat) (hn : n < 1099511627776) : wide_Right.f (wH V) (wL V) n = some (wH (V / 2 ^ n), wL (V / 2 ^ n), decide (V % 2 ^ n ≠ 0)) := by
  have := rightW (V / 18446744073709551616) (V % 18446744073709551616) n (hi64 h) (lo64 V) (by omega)
  rwa [wn_div, rgV, Int.toNat_natCast] at this
theorem wAdd1 {V : Nat} (h : V + 1 < 340282366920938463463374607431768211456) : wide_Add.f (wH V) (wL V) 0 1 = some (wH (V + 1), wL (V + 1)) := by
  have := addW (V / 18446744073709551616) (V % 18446744073709551616) 0 1 (hi64 (by omega)) (lo64 V) (by decide) (by decide)
  rw [wn_div, show wn 0 1 = 1 by decide, Nat.mod_eq_of_lt h] at this
  exact this
theorem wAnd1 (V : Nat) : (Go.bits .and .u64 (wL V) 1 == 1) = decide (V % 2 = 1) := by
  unfold wL
  rw [show (1 : Int) = ((1 : Nat) : Int) from rfl, u64_and_nat _ 1 (lo64 V) (by decide)]
  have h1 := and_low (V % 18446744073709551616) 1
  rw [show (2 : Nat) ^ 1 - 1 = 1 by decide, show (2 : Nat) ^ 1 = 2 by decide] at h1
  rw [h1, Bool.eq_iff_iff]; simp; omega
theorem wSmall {V : Nat} (h : V < 18446744073709551616) : wH V = 0 ∧ wL V = V := by unfold wH wL; omega
theorem shZ (w : Int) (hw : w = 32 ∨ w = 64) (s : Bool) : shape_Zero.f w s = some ((mkN w 0 s : Nat) : Int) := by rcases hw with rfl | rfl; exact shZero32 s; exact shZero64 s
theorem shI (w : Int) (hw : w = 32 ∨ w = 64) (s : Bool) : shape_Inf.f w s = some ((mkN w (fmt w).inf s : Nat) : Int) := by rcases hw with rfl | rfl; exact shInf32 s; exact shInf64 s
theorem clo (w : Int) (hw : w = 32 ∨ w = 64) (s : Bool) (m : Nat) (h0 : 0 < m) (hm : m < (fmt w).inf) : ∃ k z, shape_Close.f k w s 1 ((fmt w).ex m) ((fmt w).sg m : Nat) = some (((mkN w m s : Nat) : Int), z) := by
  rcases hw with rfl | rfl
  · obtain ⟨k, hk⟩ := (close32 s m h0 hm).rounds; exact ⟨k, 0, hk⟩
  · obtain ⟨k, hk⟩ := (close64 s m h0 hm).rounds; exact ⟨k, 0, hk⟩
end Go.Proofs.Ytgcgheilbngcoaa.Th
end
/- round.Pack answers the nearest float, for every number in the range of exponents that it looks at. -/
namespace Go.Proofs.Ytgcgheilbngcoaa.PA
open Go.RowKit Go.Proofs.YtgcgheilbngcoaaW.PrintWords Go.Proofs.YtgcgheilbngcoaaW.PrintLast Go.Proofs.YtgcgheilbngcoaaW.PrintMore
attribute [local go_sem] max2_int min2_int max_two min_two max_three min_three max_four min_four   -- for this text's walks alone
set_option linter.unusedVariables false
set_option linter.unusedSimpArgs false
open Go.Proofs.Ytgcgheilbngcoaa.Th Flo
theorem rp_fin (W : Int) (hw : W = 32 ∨ W = 64) (ng : Bool) (t2 t1 hi : Int) (h2 : t2 = ((2 ^ ((fmt W).f + 1) : Nat) : Int)) (h1 : t1 = ((2 ^ (fmt W).f : Nat) : Int)) (hh : hi = (fmt W).low + (fmt W).top - 2) (q R : Nat) (e3 : Int) (he : e3 = q + (fmt W).low)
    (hR : R ≤ 2 ^ ((fmt W).f + 1)) (hl : 0 < q → 2 ^ (fmt W).f ≤ R) :
    (hi < e3 ∧ shape_Inf.f W ng = some ((mkN W ((fmt W).fin q R) ng : Nat) : Int)) ∨ (e3 ≤ hi ∧ ∃ l4 e4, (((R : Int) = t2 ∧ t1 = l4 ∧ e3 + 1 = e4) ∨ ((R : Int) ≠ t2 ∧ (R : Int) = l4 ∧ e3 = e4)) ∧
      ((l4 = 0 ∧ shape_Zero.f W ng = some ((mkN W ((fmt W).fin q R) ng : Nat) : Int)) ∨ (l4 ≠ 0 ∧ hi < e4 ∧ shape_Inf.f W ng = some ((mkN W ((fmt W).fin q R) ng : Nat) : Int)) ∨ (l4 ≠ 0 ∧ e4 ≤ hi ∧ ∃ k z, shape_Close.f k W ng 1 e4 l4 = some (((mkN W ((fmt W).fin q R) ng : Nat) : Int), z)))) := by
  have hz := shZ W hw ng
  have hi_ := shI W hw ng
  have hc := clo W hw ng
  generalize fmt W = F at *
  have hp := F.pow_pos
  have ht := F.ht
  have e1 : 2 ^ (F.f + 1) = 2 ^ F.f * 2 := Nat.pow_succ ..
  by_cases c1 : F.top < q + 2
  · left
    refine ⟨by omega, ?_⟩
    have : F.fin q R = F.inf := by
      unfold Fmt.fin
      split
      · first | rfl | rw [if_pos (by omega)]
      · first | rfl | rw [if_pos c1]
    rw [this]; exact hi_
  · right
    refine ⟨by omega, ?_⟩
    by_cases c2 : R = 2 ^ (F.f + 1)
    · refine ⟨t1, e3 + 1, .inl ⟨by rw [c2, h2], rfl, rfl⟩, ?_⟩
      by_cases c3 : F.top < q + 3
      · refine .inr (.inl ⟨by rw [h1]; omega, by omega, ?_⟩)
        have : F.fin q R = F.inf := by unfold Fmt.fin; rw [if_pos c2, if_pos c3]
        rw [this]; exact hi_
      · refine .inr (.inr ⟨by rw [h1]; omega, by omega, ?_⟩)
        have e5 : F.fin q R = (q + 1) * 2 ^ F.f + 2 ^ F.f := by unfold Fmt.fin; rw [if_pos c2, if_neg c3, Nat.add_mul, Nat.add_mul]; omega
        have hm : F.fin q R < F.inf := by
          rw [e5]
          unfold Fmt.inf
          have := Nat.mul_le_mul_right (2 ^ F.f) (show q + 3 ≤ F.top by omega)
          rw [Nat.add_mul] at this ⊢
          omega
        obtain ⟨h3, h4⟩ := F.sg_mk (q + 1) (2 ^ F.f) (by omega) (fun _ => Nat.le_refl _)
        have := hc (F.fin q R) (by rw [e5]; omega) hm
        rw [e5, h3, h4, ← e5, show (((q + 1 : Nat) : Int) + F.low) = e3 + 1 by omega, ← h1] at this
        exact this
    · refine ⟨(R : Int), e3, .inr ⟨by rw [h2]; intro k; exact c2 (by exact_mod_cast k), rfl, rfl⟩, ?_⟩
      by_cases c3 : R = 0
      · left
        have hq : q = 0 := by rcases Nat.eq_zero_or_pos q with h | h; exact h; have := hl h; omega
        have : F.fin q R = 0 := by unfold Fmt.fin; rw [if_neg c2, if_neg c1, if_pos (by omega)]; exact c3
        exact ⟨by omega, by rw [this]; exact hz⟩
      · refine .inr (.inr ⟨by omega, by omega, ?_⟩)
        have e5 : F.fin q R = q * 2 ^ F.f + R := by
          unfold Fmt.fin
          rw [if_neg c2, if_neg c1]
          split
          · rcases Nat.eq_zero_or_pos q with h | h
            · rw [h]; omega
            · have := hl h; omega
          · rw [Nat.add_mul]; omega
        have hm : F.fin q R < F.inf := by
          rw [e5]
          unfold Fmt.inf
          have := Nat.mul_le_mul_right (2 ^ F.f) (show q + 2 ≤ F.top by omega)
          rw [Nat.add_mul] at this
          omega
        obtain ⟨h3, h4⟩ := F.sg_mk q R (by omega) hl
        have := hc (F.fin q R) (by rw [e5]; omega) hm
        rw [e5, h3, h4, ← e5, ← he] at this
        exact this
theorem rp_main (W f t2 t1 lo hi : Int) (hW : (W = 32 ∧ f = 23 ∧ t2 = 16777216 ∧ t1 = 8388608) ∨ (W = 64 ∧ f = 52 ∧ t2 = 9007199254740992 ∧ t1 = 4503599627370496)) (hlo : lo = (fmt W).low) (hhi : hi = (fmt W).low + (fmt W).top - 2)
    (AIM : ∀ ng h l e m, round_aim.f W ng h l e m = some (h, l, e, m, W, f, lo, hi, ng, true)) (S : Nat) (hS : S < 340282366920938463463374607431768211456) (e : Int) (m ng : Bool) (Z : S ≠ 0 ∨ m = true) (E1 : e ≤ 1048576) (E2 : -1048576 ≤ e) (w : World) :
    Calls Try.prog 39 #[.int .i64 W, .bool ng, .agg #[.int .u64 (wH S), .int .u64 (wL S)], .int .i64 e, .bool m] w fun en w' => en = .returned (.int .u64 ((mkN W (pkm (fmt W) S e m) ng : Nat) : Int)) ∧ Below w.heap.size w w' := by
  have hw : W = 32 ∨ W = 64 := by rcases hW with ⟨h, _⟩ | ⟨h, _⟩; exact .inl h; exact .inr h
  have hf : f = ((fmt W).f : Int) ∧ t2 = ((2 ^ ((fmt W).f + 1) : Nat) : Int) ∧ t1 = ((2 ^ (fmt W).f : Nat) : Int) := by
    rcases hW with ⟨rfl, rfl, rfl, rfl⟩ | ⟨rfl, rfl, rfl, rfl⟩ <;> decide
  have hbd := fmt_bd' W
  obtain ⟨hf, h2, h1⟩ := hf
  -- the number whose last bits go
  obtain ⟨S1, e1, m1, hS1, hpos, hm1, hk, hT⟩ : ∃ (S1 : Nat) (e1 : Int) (m1 : Bool), S1 < 340282366920938463463374607431768211456 ∧ 0 < S1 ∧ (m1 = true → 127 ≤ bl S1) ∧ pkm (fmt W) S e m = pkc (fmt W) S1 e1 (if m1 then 1 else 0) ∧
      ((m = true ∧ (∃ n0, wide_Len.f (wH S) (wL S) = some n0 ∧ n0 < 127) ∧ (∃ x0 x1, wide_Left.f (wH S) (wL S) 1 = some (x0, x1) ∧ wide_Add.f x0 x1 0 1 = some (wH S1, wL S1)) ∧ e - 1 = e1 ∧ m1 = false) ∨ ((m = false ∨ ∃ n0, wide_Len.f (wH S) (wL S) = some n0 ∧ 127 ≤ n0) ∧ wH S1 = wH S ∧ wL S1 = wL S ∧ e1 = e ∧ m1 = m)) := by
    have hk : pkm (fmt W) S e m = if m = true ∧ bl S < 127 then pkc (fmt W) (2 * S + 1) (e - 1) 0 else pkc (fmt W) S e (if m then 1 else 0) := by
      unfold pkm
      rw [if_neg (by rintro ⟨h1, h2⟩; rcases Z with h | h; exact h h1; rw [h2] at h; cases h), if_neg (by omega), if_neg (by omega)]
    by_cases c : m = true ∧ bl S < 127
    · rw [if_pos c] at hk
      have hlt := bl_le.1 (Nat.le_of_lt_succ (show bl S < 126 + 1 from c.2))
      rw [show (2 : Nat) ^ 126 = 85070591730234615865843651857942052864 by decide] at hlt
      have hl := wLeft hS 1 (by decide) (by omega)
      refine ⟨2 * S + 1, e - 1, false, by omega, by omega, fun h => (by cases h), (by rw [hk]; rfl), .inl ⟨c.1, ⟨_, wLen hS, by omega⟩, ⟨_, _, hl, ?_⟩, rfl, rfl⟩⟩
      rw [wAdd1 (by omega)]
      rw [show S * 2 ^ 1 + 1 = 2 * S + 1 by omega]
    · rw [if_neg c] at hk
      refine ⟨S, e, m, hS, ?_, fun h => ?_, hk, .inr ⟨?_, rfl, rfl, rfl, rfl⟩⟩
      · rcases Z with h | h
        · omega
        · have : 127 ≤ bl S := by
            rcases Nat.lt_or_ge (bl S) 127 with h3 | h3
            · exact absurd ⟨h, h3⟩ c
            · exact h3
          exact bl_pos.1 (by omega)
      · rcases Nat.lt_or_ge (bl S) 127 with h3 | h3
        · exact absurd ⟨h, h3⟩ c
        · exact h3
      · cases hm : m
        · exact .inl rfl
        · right
          refine ⟨_, wLen hS, ?_⟩
          rcases Nat.lt_or_ge (bl S) 127 with h3 | h3
          · exact absurd ⟨hm, h3⟩ c
          · omega
  have b128 := bl_128 hS1
  have he1 : -1048578 < e1 ∧ e1 < 1048578 := by rcases hT with ⟨_, _, _, h, _⟩ | ⟨_, _, _, h, _⟩ <;> omega
  rw [hk]
  have mx_ : ∀ a b : Int, mx a b = max a b := fun a b => by unfold mx; split <;> omega
  have mn_ : ∀ a b : Int, mn a b = min a b := fun a b => by unfold mn; split <;> omega
  have p54 : 2 ^ ((fmt W).f + 1) ≤ 9007199254740992 := by
    rw [show (9007199254740992 : Nat) = 2 ^ 53 by decide]; exact Nat.pow_le_pow_right (by decide) (by omega)
  by_cases c : (bl S1 : Int) - (fmt W).f - 1 ≤ 0 ∧ (fmt W).low - e1 ≤ 0
  · obtain rfl : m1 = false := by
      cases m1
      · rfl
      · have := hm1 rfl; omega
    obtain ⟨q, u, hu, hq, e5, _, hR, hl⟩ := pkc_up (fmt W) hpos c
    have e6 : pkc (fmt W) S1 e1 (if false = true then 1 else 0) = (fmt W).fin q (S1 * 2 ^ u) := e5
    rw [e6]
    have FX := rp_fin W hw ng t2 t1 hi h2 h1 hhi q (S1 * 2 ^ u) (e1 - u) (by omega) hR hl
    have hs := wSmall (V := S1 * 2 ^ u) (by omega)
    refine rp_pack W f t2 t1 lo hi hW (by omega) (wH S) (wL S) e (wH S1) (wL S1) e1 (bl S1) (max ((bl S1 : Int) - f - 1) (lo - e1)) (wH S1) (wL S1) e1 (bl S1) u (wH (S1 * 2 ^ u)) (wL (S1 * 2 ^ u)) (e1 - u) _ m false ng w (AIM _ _ _ _ _) ?_ E1 E2 hT (wLen hS1) (by omega) (mx_ _ _) (.inl ⟨by omega, rfl, rfl, rfl, rfl⟩) (wLen hS1) (by omega) ?_ ?_ ?_
    · rcases Z with h | h
      · left
        rw [Bool.and_eq_false_iff]
        by_cases h3 : S / 18446744073709551616 = 0
        · right; unfold wL; rw [beq_eq_false_iff_ne]; omega
        · left; unfold wH; rw [beq_eq_false_iff_ne]; omega
      · exact .inr h
    · rw [mn_, hf, hlo]; exact hu.symm
    · rcases Nat.eq_zero_or_pos u with h | h
      · right; subst h; exact ⟨by omega, by rw [Nat.pow_zero, Nat.mul_one], by rw [Nat.pow_zero, Nat.mul_one], by omega⟩
      · left; exact ⟨by omega, wLeft hS1 u (by omega) (by omega), rfl⟩
    · rw [hs.1, hs.2]
      rcases FX with h | ⟨h, h'⟩
      · exact .inl h
      · exact .inr ⟨h, rfl, h'⟩
  · obtain ⟨q, n, j, hj, hq, hn, e5, _, hR, hl⟩ := pkc_dn (fmt W) (S := S1) (m := if m1 then 1 else 0) (e := e1) (by cases m1 <;> decide) hpos c
    rw [e5]
    have FX := rp_fin W hw ng t2 t1 hi h2 h1 hhi q n (e1 + ((j + 1 : Nat) : Int)) (by omega) hR hl
    have hs := wSmall (V := n) (by omega)
    have hn128 : n < 340282366920938463463374607431768211456 := by omega
    have hj40 : j < 1099511627775 := by omega
    have r1 := wRight hS1 j (by omega)
    have hk1 : S1 / 2 ^ j < 340282366920938463463374607431768211456 := Nat.lt_of_le_of_lt (Nat.div_le_self _ _) hS1
    have r2 := wRight hk1 1 (by decide)
    have rb := rne_bits S1 j (if m1 then 1 else 0) (by cases m1 <;> decide)
    rw [← hn] at rb
    have hn2 := bl_128 hn128
    have hlen : (fmt W).f + 1 ≤ bl n ∨ q = 0 := by
      rcases Nat.eq_zero_or_pos q with h | h
      · exact .inr h
      · left
        have := hl h
        exact lt_bl.2 this
    refine rp_pack W f t2 t1 lo hi hW (by omega) (wH S) (wL S) e (wH S1) (wL S1) e1 (bl S1) ((j + 1 : Nat) : Int) (wH n) (wL n) (e1 + ((j + 1 : Nat) : Int)) (bl n) (min (f + 1 - bl n) (e1 + ((j + 1 : Nat) : Int) - lo)) (wH n) (wL n) (e1 + ((j + 1 : Nat) : Int)) _ m m1 ng w (AIM _ _ _ _ _) ?_ E1 E2 hT (wLen hS1) (by omega) ?_ (.inr ⟨by omega, rfl, wH (S1 / 2 ^ j), wL (S1 / 2 ^ j), wH (S1 / 2 ^ j / 2), wL (S1 / 2 ^ j / 2), decide (S1 % 2 ^ j ≠ 0), _, decide (S1 / 2 ^ j % 2 = 1 ∧ (S1 % 2 ^ j ≠ 0 ∨ (if m1 then 1 else 0) = 1 ∨ S1 / 2 ^ j / 2 % 2 = 1)), ?_, r2, ?_, ?_, ?_⟩) (wLen hn128) (by omega) (mn_ _ _) (.inr ⟨by omega, rfl, rfl, rfl⟩) ?_
    · rcases Z with h | h
      · left
        rw [Bool.and_eq_false_iff]
        by_cases h3 : S / 18446744073709551616 = 0
        · right; unfold wL; rw [beq_eq_false_iff_ne]; omega
        · left; unfold wH; rw [beq_eq_false_iff_ne]; omega
      · exact .inr h
    · rw [mx_, hf, hlo]; rw [← hj]; rfl
    · rw [show (((j + 1 : Nat) : Int) - 1) = (j : Int) by omega]; exact r1
    · rw [wAnd1, wAnd1, Bool.eq_iff_iff]
      cases m1 <;> simp
    · intro h
      rw [decide_eq_true_eq] at h
      rw [if_pos h] at rb
      rw [rb]
      exact wAdd1 (by omega)
    · intro h
      rw [decide_eq_false_iff_not] at h
      rw [if_neg h] at rb
      rw [rb]; exact ⟨rfl, rfl⟩
    · rw [hs.1, hs.2]
      rcases FX with h | ⟨h, h'⟩
      · exact .inl h
      · exact .inr ⟨h, rfl, h'⟩
end Go.Proofs.Ytgcgheilbngcoaa.PA
/- round.Pack's short ways: no width; nought; an exponent that is too great or too small. -/
namespace Go.Proofs.Ytgcgheilbngcoaa.PA
open Go.RowKit Go.Proofs.YtgcgheilbngcoaaW.PrintWords Go.Proofs.YtgcgheilbngcoaaW.PrintLast Go.Proofs.YtgcgheilbngcoaaW.PrintMore
attribute [local go_sem] max2_int min2_int max_two min_two max_three min_three max_four min_four   -- for this text's walks alone
set_option linter.unusedVariables false
set_option linter.unusedSimpArgs false
attribute [local go_sem high] eqA41
open Go.Proofs.Ytgcgheilbngcoaa.Th Flo
set_option maxHeartbeats 8000000 in
set_option maxRecDepth 100000 in
theorem rp_none (W : Int) (h l e : Int) (m ng : Bool) (w : World) (AIM : round_aim.f W ng h l e m = some (0, 0, 0, false, 0, 0, 0, 0, false, false)) :
    Calls Try.prog 39 #[.int .i64 W, .bool ng, .agg #[.int .u64 h, .int .u64 l], .int .i64 e, .bool m] w fun en w' => en = .returned (.int .u64 0) ∧ Below w.heap.size w w' := by
  have hu41 := Try.underlying41
  have hu95 := Try.underlying95
  have hu97 := Try.underlying97
  have A_ := Aside0.mk AIM
  clear AIM
  go_enter Try.func39, Try.ntmps39
  go_wp2_with (first | (go_at_call 104; (with_reducible refine (round_aim.calls W ng h l e m 0 0 0 false 0 0 0 0 false false _ A_.out).mono ?_); rintro en w1 ⟨rfl, hb⟩))
  go_ret
  exact ⟨rfl, below_alloc (below_step (below_alloc (Below.refl _ w) _) hb) _⟩
set_option maxHeartbeats 8000000 in
set_option maxRecDepth 100000 in
theorem rp_short (W f lo hi : Int) (h l e r : Int) (m ng : Bool) (w : World) (AIM : round_aim.f W ng h l e m = some (h, l, e, m, W, f, lo, hi, ng, true))
    (C : (h = 0 ∧ l = 0 ∧ m = false ∧ shape_Zero.f W ng = some r) ∨ (((h == 0) && (l == 0) && !m) = false ∧ ((1048576 < e ∧ shape_Inf.f W ng = some r) ∨ (e < -1048576 ∧ shape_Zero.f W ng = some r)))) :
    Calls Try.prog 39 #[.int .i64 W, .bool ng, .agg #[.int .u64 h, .int .u64 l], .int .i64 e, .bool m] w fun en w' => en = .returned (.int .u64 r) ∧ Below w.heap.size w w' := by
  have hu41 := Try.underlying41
  have hu95 := Try.underlying95
  have hu97 := Try.underlying97
  have A_ := Aside0.mk AIM
  clear AIM
  obtain ⟨bh, hh⟩ : ∃ y, (h == 0) = y := ⟨_, rfl⟩
  obtain ⟨bl_, hl⟩ : ∃ y, (l == 0) = y := ⟨_, rfl⟩
  rw [hh, hl] at C
  rcases C with ⟨rfl, rfl, rfl, B_⟩ | ⟨Z, C⟩
  · have B := Aside0.mk B_
    clear B_ hh hl
    go_enter Try.func39, Try.ntmps39
    go_wp2_with (first
      | (go_at_call 104; (with_reducible refine (round_aim.calls W ng 0 0 e false 0 0 e false W f lo hi ng true _ A_.out).mono ?_); rintro en w1 ⟨rfl, hb⟩; have sa := ((Nr.bcell hb).1 w.heap.size 0 (by simp)).trans (show _ = some (Value.int .u64 0) by simp [go_sem]); have sb := ((Nr.bcell hb).1 w.heap.size 1 (by simp)).trans (show _ = some (Value.int .u64 0) by simp [go_sem]); have hz := Nat.lt_of_lt_of_le (show w.heap.size < (w.alloc (.cells #[.int .u64 0, .int .u64 0] 41 (0, 0))).heap.size by simp) hb.size; have H1 := Aside0.mk (below_step (below_alloc (Below.refl _ w) _) hb); clear hb)
      | (go_at_call 52; (with_reducible refine (shape_Zero.calls W ng r _ B.out).mono ?_); rintro en w2 ⟨rfl, hb⟩))
    go_ret
    exact ⟨rfl, below_step (below_alloc H1.out _) hb⟩
  · have key : Aside0 ((decide (1048576 < e) = true ∧ shape_Inf.f W ng = some r) ∨ (decide (1048576 < e) = false ∧ decide (e < -1048576) = true ∧ shape_Zero.f W ng = some r)) := ⟨by
      rcases C with ⟨h1, h2⟩ | ⟨h1, h2⟩
      · exact .inl ⟨decide_eq_true h1, h2⟩
      · exact .inr ⟨decide_eq_false (by omega), decide_eq_true h1, h2⟩⟩
    clear C
    cases bh <;> cases bl_ <;> cases m <;> first
      | (exfalso; simp at Z; done)
      | (clear Z
         rcases key.out with ⟨d, B_⟩ | ⟨d, d2, B_⟩
         all_goals
          have B := Aside0.mk B_
          clear B_ key
          go_enter Try.func39, Try.ntmps39
          go_wp2_with (first
            | (go_at_call 104; (with_reducible refine (round_aim.calls W ng h l e _ h l e _ W f lo hi ng true _ A_.out).mono ?_); rintro en w1 ⟨rfl, hb⟩; have sa := ((Nr.bcell hb).1 w.heap.size 0 (by simp)).trans (show _ = some (Value.int .u64 h) by simp [go_sem]); have sb := ((Nr.bcell hb).1 w.heap.size 1 (by simp)).trans (show _ = some (Value.int .u64 l) by simp [go_sem]); have hz := Nat.lt_of_lt_of_le (show w.heap.size < (w.alloc (.cells #[.int .u64 h, .int .u64 l] 41 (0, 0))).heap.size by simp) hb.size; have H1 := Aside0.mk (below_step (below_alloc (Below.refl _ w) _) hb); clear hb)
            | (go_at_call 52; (with_reducible refine (shape_Zero.calls W ng r _ B.out).mono ?_); rintro en w2 ⟨rfl, hb⟩)
            | (go_at_call 51; (with_reducible refine (shape_Inf.calls W ng r _ B.out).mono ?_); rintro en w2 ⟨rfl, hb⟩))
          go_ret
          exact ⟨rfl, below_step (below_alloc H1.out _) hb⟩)
end Go.Proofs.Ytgcgheilbngcoaa.PA
namespace Go.Proofs.Ytgcgheilbngcoaa.PA
open Go.RowKit Go.Proofs.YtgcgheilbngcoaaW.PrintWords Go.Proofs.YtgcgheilbngcoaaW.PrintLast Go.Proofs.YtgcgheilbngcoaaW.PrintMore
attribute [local go_sem] max2_int min2_int max_two min_two max_three min_three max_four min_four   -- for this text's walks alone
set_option linter.unusedVariables false
set_option linter.unusedSimpArgs false
set_option maxHeartbeats 8000000
set_option maxRecDepth 100000
-- IMPORT Derived.Test.YtgcgheilbngcoaaHRpF
def round_Pack.f (a0 : Int) (a1 : Bool) (a2_0 : Int) (a2_1 : Int) (a3 : Int) (a4 : Bool) : Option (Int) :=
 if (0 ≤ a2_0 ∧ a2_0 < 18446744073709551616) ∧ (0 ≤ a2_1 ∧ a2_1 < 18446744073709551616) then
  some (if a0 = 32 ∨ a0 = 64 then ((Th.mkN a0 (Th.pkm (Th.fmt a0) (Th.wn a2_0.toNat a2_1.toNat) a3 a4) a1 : Nat) : Int) else 0) else none
theorem round_Pack.calls (a0 : Int) (a1 : Bool) (a2_0 : Int) (a2_1 : Int) (a3 : Int) (a4 : Bool) (r : Int) (w : World) (h : round_Pack.f a0 a1 a2_0 a2_1 a3 a4 = some r) :
  Calls Try.prog 39 #[.int .i64 a0, .bool a1, .agg #[.int .u64 a2_0, .int .u64 a2_1], .int .i64 a3, .bool a4] w fun e w' => e = .returned (.int .u64 r) ∧ Below w.heap.size w w' := by
 unfold round_Pack.f at h
 split at h
 rotate_left
 ·cases h
 rename_i hr
 obtain ⟨⟨p1, p2⟩, p3, p4⟩ := hr
 obtain rfl := Option.some.inj h
 obtain ⟨H, rfl⟩ := Int.eq_ofNat_of_zero_le p1
 obtain ⟨L, rfl⟩ := Int.eq_ofNat_of_zero_le p3
 rw [Int.toNat_natCast, Int.toNat_natCast]
 have hL : L < 18446744073709551616 := by omega
 have hS := Th.wn_lt (show H < 18446744073709551616 by omega) hL
 obtain ⟨e1, e2⟩ := Th.wHL H L hL
 have hz : Th.wn H L = 0 ↔ H = 0 ∧ L = 0 := by unfold Th.wn; omega
 by_cases hw : a0 = 32 ∨ a0 = 64
 ·rw [if_pos hw]
  have key : ∀ (f lo hi t2 t1 : Int), ((a0 = 32 ∧ f = 23 ∧ t2 = 16777216 ∧ t1 = 8388608) ∨ (a0 = 64 ∧ f = 52 ∧ t2 = 9007199254740992 ∧ t1 = 4503599627370496)) → lo = (Th.fmt a0).low → hi = (Th.fmt a0).low + (Th.fmt a0).top - 2 →
    (∀ ng h l e m, round_aim.f a0 ng h l e m = some (h, l, e, m, a0, f, lo, hi, ng, true)) → Calls Try.prog 39 #[.int .i64 a0, .bool a1, .agg #[.int .u64 (H : Int), .int .u64 (L : Int)], .int .i64 a3, .bool a4] w fun e w' => e = .returned (.int .u64 ((Th.mkN a0 (Th.pkm (Th.fmt a0) (Th.wn H L) a3 a4) a1 : Nat) : Int)) ∧ Below w.heap.size w w' := by
   intro f lo hi t2 t1 hW h1 h2 AIM
   by_cases c1 : Th.wn H L = 0 ∧ a4 = false
   ·refine rp_short a0 f lo hi H L a3 _ a4 a1 w (AIM _ _ _ _ _) (.inl ⟨by have := hz.1 c1.1; omega, by have := hz.1 c1.1; omega, c1.2, ?_⟩)
    unfold Th.pkm
    rw [if_pos c1]
    exact Th.shZ a0 hw a1
   ·have hb : (((H : Int) == 0) && ((L : Int) == 0) && !a4) = false := by
     cases a4
     ·have : ¬ (H = 0 ∧ L = 0) := fun h => c1 ⟨hz.2 h, rfl⟩
      rw [Bool.not_false, Bool.and_true, Bool.and_eq_false_iff, beq_eq_false_iff_ne, beq_eq_false_iff_ne]
      omega
     ·simp
    by_cases c2 : 1048576 < a3
    ·refine rp_short a0 f lo hi H L a3 _ a4 a1 w (AIM _ _ _ _ _) (.inr ⟨hb, .inl ⟨c2, ?_⟩⟩)
     unfold Th.pkm
     rw [if_neg c1, if_pos c2]
     exact Th.shI a0 hw a1
    ·by_cases c3 : a3 < -1048576
     ·refine rp_short a0 f lo hi H L a3 _ a4 a1 w (AIM _ _ _ _ _) (.inr ⟨hb, .inr ⟨c3, ?_⟩⟩)
      unfold Th.pkm
      rw [if_neg c1, if_neg c2, if_pos c3]
      exact Th.shZ a0 hw a1
     ·have := rp_main a0 f t2 t1 lo hi hW h1 h2 AIM (Th.wn H L) hS a3 a4 a1 (by
       cases a4
       ·exact .inl fun h => c1 ⟨h, rfl⟩
       ·exact .inr rfl) (by omega) (by omega) w
      rw [e1, e2] at this
      exact this
  rcases hw with rfl | rfl
  ·exact key 23 (-149) 104 16777216 8388608 (.inl ⟨rfl, rfl, rfl, rfl⟩) (by decide) (by decide) (fun ng h l e m => by
    unfold round_aim.f; rw [show shape_Fields.f 32 = some (8, 23) by decide, Option.bind_some, if_neg (by decide), if_pos (by decide +kernel), if_pos (by decide)]
    rw [show wrap64 ((wrap64 (2 - (shl .i64 1 (wrap64 ((8 : Int) - 1))))) - 23) = -149 by decide +kernel, show wrap64 ((wrap64 ((-149 : Int) + (shl .i64 1 8))) - 3) = 104 by decide +kernel])
  ·exact key 52 (-1074) 971 9007199254740992 4503599627370496 (.inr ⟨rfl, rfl, rfl, rfl⟩) (by decide) (by decide) (fun ng h l e m => by
    unfold round_aim.f; rw [show shape_Fields.f 64 = some (11, 52) by decide, Option.bind_some, if_neg (by decide), if_pos (by decide +kernel), if_pos (by decide)]
    rw [show wrap64 ((wrap64 (2 - (shl .i64 1 (wrap64 ((11 : Int) - 1))))) - 52) = -1074 by decide +kernel, show wrap64 ((wrap64 ((-1074 : Int) + (shl .i64 1 11))) - 3) = 971 by decide +kernel])
 ·rw [if_neg hw]
  refine rp_none a0 H L a3 a4 a1 w ?_
  unfold round_aim.f shape_Fields.f shape_of.f
  rw [if_neg (by omega), if_neg (by omega)]
  rfl
mutual
def product_parts.j0 : Nat → Int → Bool → Bool → Bool → Int → Int → Int → Bool → Int → Int → Int → Option (Int)
 | 0, _, _, _, _, _, _, _, _, _, _, _ => none
 | k + 1, x0, x7, x8, x648000, x648001, x648002, x648003, x649000, x649001, x649002, x649003 => if x648001 = 2 then (product_parts.j1 k x0 x7 x8 true x648000 x648001 x648002 x648003 x649000 x649001 x649002 x649003) else (product_parts.j1 k x0 x7 x8 (x649001 == 2) x648000 x648001 x648002 x648003 x649000 x649001 x649002 x649003)
def product_parts.j1 : Nat → Int → Bool → Bool → Bool → Bool → Int → Int → Int → Bool → Int → Int → Int → Option (Int)
 | 0, _, _, _, _, _, _, _, _, _, _, _, _ => none
 | k + 1, x0, x7, x8, x9, x648000, x648001, x648002, x648003, x649000, x649001, x649002, x649003 => if x648001 = 3 then (product_parts.j2 k x0 x7 x8 x9 true x648000 x648001 x648002 x648003 x649000 x649001 x649002 x649003) else (if x649001 = 3 then (product_parts.j2 k x0 x7 x8 x9 true x648000 x648001 x648002 x648003 x649000 x649001 x649002 x649003) else (if x8 = true then (product_parts.j2 k x0 x7 x8 x9 x9 x648000 x648001 x648002 x648003 x649000 x649001 x649002 x649003) else (product_parts.j2 k x0 x7 x8 x9 false x648000 x648001 x648002 x648003 x649000 x649001 x649002 x649003)))
def product_parts.j2 : Nat → Int → Bool → Bool → Bool → Bool → Bool → Int → Int → Int → Bool → Int → Int → Int → Option (Int)
 | 0, _, _, _, _, _, _, _, _, _, _, _, _, _ => none
 | k + 1, x0, x7, x8, x9, x31, x648000, x648001, x648002, x648003, x649000, x649001, x649002, x649003 => if x31 = true then ((shape_Nan.f x0).bind fun t649 => (some t649)) else (if x9 = true then ((shape_Inf.f x0 x7).bind fun t650 => (some t650)) else (if x8 = true then ((shape_Zero.f x0 x7).bind fun t651 => (some t651)) else ((wide_Mul.f x648003 x649003).bind fun bt652 => ((round_Pack.f x0 x7 bt652.1 bt652.2 (wrap64 (x648002 + x649002)) false).bind fun t654 => (some t654)))))
end
def product_parts.f (k : Nat) (a0 : Int) (a1_0 : Bool) (a1_1 : Int) (a1_2 : Int) (a1_3 : Int) (a2_0 : Bool) (a2_1 : Int) (a2_2 : Int) (a2_3 : Int) : Option (Int) := if a1_1 = 0 then (product_parts.j0 k a0 (a1_0 != a2_0) true a1_0 a1_1 a1_2 a1_3 a2_0 a2_1 a2_2 a2_3) else (product_parts.j0 k a0 (a1_0 != a2_0) (a2_1 == 0) a1_0 a1_1 a1_2 a1_3 a2_0 a2_1 a2_2 a2_3)
theorem product_parts.mono_l : ∀ k, (∀ y0 y1 y2 y3 y4 y5 y6 y7 y8 y9 y10, LeO (product_parts.j0 k y0 y1 y2 y3 y4 y5 y6 y7 y8 y9 y10) (product_parts.j0 (k + 1) y0 y1 y2 y3 y4 y5 y6 y7 y8 y9 y10)) ∧ (∀ y0 y1 y2 y3 y4 y5 y6 y7 y8 y9 y10 y11, LeO (product_parts.j1 k y0 y1 y2 y3 y4 y5 y6 y7 y8 y9 y10 y11) (product_parts.j1 (k + 1) y0 y1 y2 y3 y4 y5 y6 y7 y8 y9 y10 y11)) ∧ (∀ y0 y1 y2 y3 y4 y5 y6 y7 y8 y9 y10 y11 y12, LeO (product_parts.j2 k y0 y1 y2 y3 y4 y5 y6 y7 y8 y9 y10 y11 y12) (product_parts.j2 (k + 1) y0 y1 y2 y3 y4 y5 y6 y7 y8 y9 y10 y11 y12))
 | 0 => ⟨fun _ _ _ _ _ _ _ _ _ _ _ r h => by simp [product_parts.j0] at h, fun _ _ _ _ _ _ _ _ _ _ _ _ r h => by simp [product_parts.j1] at h, fun _ _ _ _ _ _ _ _ _ _ _ _ _ r h => by simp [product_parts.j2] at h⟩
 | k + 1 => by
  obtain ⟨ih0, ih1, ih2⟩ := product_parts.mono_l k
  refine ⟨?_, ?_, ?_⟩
  ·intro y0 y1 y2 y3 y4 y5 y6 y7 y8 y9 y10
   unfold product_parts.j0
   repeat' first
   | (with_reducible exact ih0 _ _ _ _ _ _ _ _ _ _ _)
   | (with_reducible exact ih1 _ _ _ _ _ _ _ _ _ _ _ _)
   | (with_reducible exact ih2 _ _ _ _ _ _ _ _ _ _ _ _ _)
   | (with_reducible exact LeO.refl _)
   | (with_reducible exact LeO.none _)
   | (with_reducible refine LeO.ite ?_ ?_)
   | (with_reducible refine LeO.bind ?_ (fun _ => ?_))
   | exact ih0 _ _ _ _ _ _ _ _ _ _ _
   | exact ih1 _ _ _ _ _ _ _ _ _ _ _ _
   | exact ih2 _ _ _ _ _ _ _ _ _ _ _ _ _
   | exact LeO.none _
   | refine LeO.ite ?_ ?_
   | refine LeO.bind ?_ (fun _ => ?_)
  ·intro y0 y1 y2 y3 y4 y5 y6 y7 y8 y9 y10 y11
   unfold product_parts.j1
   repeat' first
   | (with_reducible exact ih0 _ _ _ _ _ _ _ _ _ _ _)
   | (with_reducible exact ih1 _ _ _ _ _ _ _ _ _ _ _ _)
   | (with_reducible exact ih2 _ _ _ _ _ _ _ _ _ _ _ _ _)
   | (with_reducible exact LeO.refl _)
   | (with_reducible exact LeO.none _)
   | (with_reducible refine LeO.ite ?_ ?_)
   | (with_reducible refine LeO.bind ?_ (fun _ => ?_))
   | exact ih0 _ _ _ _ _ _ _ _ _ _ _
   | exact ih1 _ _ _ _ _ _ _ _ _ _ _ _
   | exact ih2 _ _ _ _ _ _ _ _ _ _ _ _ _
   | exact LeO.none _
   | refine LeO.ite ?_ ?_
   | refine LeO.bind ?_ (fun _ => ?_)
  ·intro y0 y1 y2 y3 y4 y5 y6 y7 y8 y9 y10 y11 y12
   unfold product_parts.j2
   repeat' first
   | (with_reducible exact ih0 _ _ _ _ _ _ _ _ _ _ _)
   | (with_reducible exact ih1 _ _ _ _ _ _ _ _ _ _ _ _)
   | (with_reducible exact ih2 _ _ _ _ _ _ _ _ _ _ _ _ _)
   | (with_reducible exact LeO.refl _)
   | (with_reducible exact LeO.none _)
   | (with_reducible refine LeO.ite ?_ ?_)
   | (with_reducible refine LeO.bind ?_ (fun _ => ?_))
   | exact ih0 _ _ _ _ _ _ _ _ _ _ _
   | exact ih1 _ _ _ _ _ _ _ _ _ _ _ _
   | exact ih2 _ _ _ _ _ _ _ _ _ _ _ _ _
   | exact LeO.none _
   | refine LeO.ite ?_ ?_
   | refine LeO.bind ?_ (fun _ => ?_)
theorem product_parts.mono : ∀ a0 a1 a2 a3 a4 a5 a6 a7 a8 k, LeO (product_parts.f k a0 a1 a2 a3 a4 a5 a6 a7 a8) (product_parts.f (k + 1) a0 a1 a2 a3 a4 a5 a6 a7 a8) := by
 intro a0 a1 a2 a3 a4 a5 a6 a7 a8 k
 obtain ⟨ih0, ih1, ih2⟩ := product_parts.mono_l k
 unfold product_parts.f
 repeat' first
   | (with_reducible exact ih0 _ _ _ _ _ _ _ _ _ _ _)
   | (with_reducible exact ih1 _ _ _ _ _ _ _ _ _ _ _ _)
   | (with_reducible exact ih2 _ _ _ _ _ _ _ _ _ _ _ _ _)
   | (with_reducible exact LeO.refl _)
   | (with_reducible exact LeO.none _)
   | (with_reducible refine LeO.ite ?_ ?_)
   | (with_reducible refine LeO.bind ?_ (fun _ => ?_))
   | exact ih0 _ _ _ _ _ _ _ _ _ _ _
   | exact ih1 _ _ _ _ _ _ _ _ _ _ _ _
   | exact ih2 _ _ _ _ _ _ _ _ _ _ _ _ _
   | exact LeO.none _
   | refine LeO.ite ?_ ?_
   | refine LeO.bind ?_ (fun _ => ?_)
def product_parts.T10 : Bool × List (List Nat × List Nat) := (true, [([], []), ([], []), ([], []), ([2], [2]), ([], []), ([4], [4]), ([3, 5], [3, 5]), ([], []), ([7], [7]), ([], []), ([9], [9]), ([8, 10], [8, 10]), ([0, 1, 6, 11, 6], [0, 1, 6, 11]), ([12, 12, 0, 1, 2, 3, 4, 5, 6, 7, 8, 9, 10, 11, 12], [12])])
def product_parts.B10 : List Nat := [0, 0, 0, 4, 0, 16, 60, 0, 128, 0, 512, 1920, 4095, 8191]
theorem product_parts.tab10 : rtab .any (opsOf Try.f125 10) = product_parts.T10 := by kernel_rfl
theorem product_parts.bits10 : waitsOk product_parts.T10.2 product_parts.B10 = true := by kernel_rfl
theorem product_parts.calls (k : Nat) (a0 : Int) (a1_0 : Bool) (a1_1 : Int) (a1_2 : Int) (a1_3 : Int) (a2_0 : Bool) (a2_1 : Int) (a2_2 : Int) (a2_3 : Int) (r : Int) (w : World) (h : product_parts.f k a0 a1_0 a1_1 a1_2 a1_3 a2_0 a2_1 a2_2 a2_3 = some r) :
  Calls Try.prog 125 #[.int .i64 a0, .agg #[.bool a1_0, .int .i64 a1_1, .int .i64 a1_2, .int .u64 a1_3], .agg #[.bool a2_0, .int .i64 a2_1, .int .i64 a2_2, .int .u64 a2_3]] w fun e w' => e = .returned (.int .u64 r) ∧ Below w.heap.size w w' := by
 have hu50 := Try.underlying50
 have HB := A_ (Below.refl w.heap.size w)
 have H : (if a1_1 = 0 then (product_parts.j0 k a0 (a1_0 != a2_0) true a1_0 a1_1 a1_2 a1_3 a2_0 a2_1 a2_2 a2_3) else (product_parts.j0 k a0 (a1_0 != a2_0) (a2_1 == 0) a1_0 a1_1 a1_2 a1_3 a2_0 a2_1 a2_2 a2_3)) = some r := h
 clear h;have HC4 := A_ H;clear H
 go_enter Try.func125, Try.ntmps125
 go_upto_region 2 with (first | ((with_reducible refine gate_dst (N := 4) rfl ?_); refine be_ 4 #[.bool a1_0, .int .i64 a1_1, .int .i64 a1_2, .int .u64 a1_3] 50 ?_; intro gb647 hg w5 hbox hb; have n0_ := A_ (below_step (hb_ HB.out) hb); have n1_ := A_ (hbox); have n2_ := A_ (sz_ hg (hb_ HB.out)); have n3_ := A_ (sz_ hg (hb_ HB.out)); clear HB; have HB := n0_; have BK647 := n1_; have GW647 := n2_; have GE647 := n3_; clear n0_ n1_ n2_ n3_; clear hb hbox hg) | ((with_reducible refine gate_dst (N := 5) rfl ?_); refine be_ 5 #[.bool a2_0, .int .i64 a2_1, .int .i64 a2_2, .int .u64 a2_3] 50 ?_; intro gb648 hg w6 hbox hb; have n0_ := A_ (bb_ BK647.out hb); have n1_ := A_ (below_step (hb1_ HB.out GE647.out) hb); have n2_ := A_ (hbox); have n3_ := A_ (sz_ hg (hb1_ HB.out GE647.out)); have n4_ := A_ (sz_ hg (hb1_ HB.out GE647.out)); have n5_ := A_ (nl_ hg BK647.out); have n6_ := A_ (ng_ hg BK647.out); clear BK647; clear HB; have BK647 := n0_; have HB := n1_; have BK648 := n2_; have GW648 := n3_; have GE648 := n4_; have NB647_648 := n5_; have NB648_647 := n6_; clear n0_ n1_ n2_ n3_ n4_ n5_ n6_; clear hb hbox hg; have hnb7 := NB647_648.out; have hnc7 := NB648_647.out; have hcz8_0 : w6.cell? ⟨gb647, 0, none⟩ = some (.bool a1_0) := bc_ BK647.out 0; have hcz8_1 : w6.cell? ⟨gb647, 1, none⟩ = some (.int .i64 a1_1) := bc_ BK647.out 1; have hcz8_2 : w6.cell? ⟨gb647, 2, none⟩ = some (.int .i64 a1_2) := bc_ BK647.out 2; have hcz8_3 : w6.cell? ⟨gb647, 3, none⟩ = some (.int .u64 a1_3) := bc_ BK647.out 3; have hfz8_0 := blk_frozen BK647.out 0; have hfz8_1 := blk_frozen BK647.out 1; have hfz8_2 := blk_frozen BK647.out 2; have hfz8_3 := blk_frozen BK647.out 3; have hcz9_0 : w6.cell? ⟨gb648, 0, none⟩ = some (.bool a2_0) := bc_ BK648.out 0; have hcz9_1 : w6.cell? ⟨gb648, 1, none⟩ = some (.int .i64 a2_1) := bc_ BK648.out 1; have hcz9_2 : w6.cell? ⟨gb648, 2, none⟩ = some (.int .i64 a2_2) := bc_ BK648.out 2; have hcz9_3 : w6.cell? ⟨gb648, 3, none⟩ = some (.int .u64 a2_3) := bc_ BK648.out 3; have hfz9_0 := blk_frozen BK648.out 0; have hfz9_1 := blk_frozen BK648.out 1; have hfz9_2 := blk_frozen BK648.out 2; have hfz9_3 := blk_frozen BK648.out 3))
 (try simp only [Act.put, lI_, l0_, lS_])
 go_cut [8] (fun v8 wc => ∃ (kq : Nat) (x8_3 : Bool), v8 = .bool x8_3 ∧ Aside0 (product_parts.j0 kq a0 (a1_0 != a2_0) x8_3 a1_0 a1_1 a1_2 a1_3 a2_0 a2_1 a2_2 a2_3 = some r) ∧ Aside0 (kq ≤ k) ∧ Aside0 (wc.heap[gb647]? = some (.cells #[.bool a1_0, .int .i64 a1_1, .int .i64 a1_2, .int .u64 a1_3] 50 (0, 0))) ∧ Aside0 (wc.heap[gb648]? = some (.cells #[.bool a2_0, .int .i64 a2_1, .int .i64 a2_2, .int .u64 a2_3] 50 (0, 0))) ∧ Aside0 (Below w.heap.size w wc))
 case first =>
  have H := HC4.out
  clear HC4
  by_cases c10 : a1_1 = 0
  ·rw [if_pos c10] at H
   have c10b0 : (a1_1 == 0) = true := beq_iff_eq.mpr c10
   have c10b1 : (a1_1 != 0) = false := bne_eq_false_iff_eq.mpr c10
   clear c10
   (first | rw [c10b0] | (simp only [i64_w, i32_w]; rw [c10b0]) | skip)
   have H' := A_ H
   clear H
   have hnb11 := NB647_648.out
   have hnc11 := NB648_647.out
   have hcz12_0 : w6.cell? ⟨gb647, 0, none⟩ = some (.bool a1_0) := bc_ BK647.out 0
   have hcz12_1 : w6.cell? ⟨gb647, 1, none⟩ = some (.int .i64 a1_1) := bc_ BK647.out 1
   have hcz12_2 : w6.cell? ⟨gb647, 2, none⟩ = some (.int .i64 a1_2) := bc_ BK647.out 2
   have hcz12_3 : w6.cell? ⟨gb647, 3, none⟩ = some (.int .u64 a1_3) := bc_ BK647.out 3
   have hfz12_0 := blk_frozen BK647.out 0
   have hfz12_1 := blk_frozen BK647.out 1
   have hfz12_2 := blk_frozen BK647.out 2
   have hfz12_3 := blk_frozen BK647.out 3
   go_wp2
   go_meet
   case rel => exact ⟨_, (true), sm_, H', ⟨by first | omega | exact Nat.le_refl _⟩, ⟨bk_ BK647.out⟩, ⟨bk_ BK648.out⟩, ⟨hb2_ HB.out GE647.out GE648.out⟩⟩
  ·rw [if_neg c10] at H
   have c10b0 : (a1_1 == 0) = false := beq_eq_false_iff_ne.mpr c10
   have c10b1 : (a1_1 != 0) = true := bne_iff_ne.mpr c10
   (first | rw [c10b0] | (simp only [i64_w, i32_w]; rw [c10b0]) | skip)
   have H' := A_ H
   clear H
   have hnb13 := NB647_648.out
   have hnc13 := NB648_647.out
   have hcz14_0 : w6.cell? ⟨gb647, 0, none⟩ = some (.bool a1_0) := bc_ BK647.out 0
   have hcz14_1 : w6.cell? ⟨gb647, 1, none⟩ = some (.int .i64 a1_1) := bc_ BK647.out 1
   have hcz14_2 : w6.cell? ⟨gb647, 2, none⟩ = some (.int .i64 a1_2) := bc_ BK647.out 2
   have hcz14_3 : w6.cell? ⟨gb647, 3, none⟩ = some (.int .u64 a1_3) := bc_ BK647.out 3
   have hfz14_0 := blk_frozen BK647.out 0
   have hfz14_1 := blk_frozen BK647.out 1
   have hfz14_2 := blk_frozen BK647.out 2
   have hfz14_3 := blk_frozen BK647.out 3
   have hcz15_0 : w6.cell? ⟨gb648, 0, none⟩ = some (.bool a2_0) := bc_ BK648.out 0
   have hcz15_1 : w6.cell? ⟨gb648, 1, none⟩ = some (.int .i64 a2_1) := bc_ BK648.out 1
   have hcz15_2 : w6.cell? ⟨gb648, 2, none⟩ = some (.int .i64 a2_2) := bc_ BK648.out 2
   have hcz15_3 : w6.cell? ⟨gb648, 3, none⟩ = some (.int .u64 a2_3) := bc_ BK648.out 3
   have hfz15_0 := blk_frozen BK648.out 0
   have hfz15_1 := blk_frozen BK648.out 1
   have hfz15_2 := blk_frozen BK648.out 2
   have hfz15_3 := blk_frozen BK648.out 3
   go_wp2
   go_meet
   case rel => exact ⟨_, ((a2_1 == 0)), sm_, H', ⟨by first | omega | exact Nat.le_refl _⟩, ⟨bk_ BK647.out⟩, ⟨bk_ BK648.out⟩, ⟨hb2_ HB.out GE647.out GE648.out⟩⟩
 case rest =>
  clear HC4
  try clear c1
  try clear p2
  try clear c7
  try clear c10
  try clear c10b0
  try clear c10b1
  try clear c11
  try clear c12
  try clear c13
  try clear hcz12_0
  try clear hcz12_1
  try clear hcz12_2
  try clear hcz12_3
  try clear hcz14_0
  try clear hcz14_1
  try clear hcz14_2
  try clear hcz14_3
  try clear hcz15_0
  try clear hcz15_1
  try clear hcz15_2
  try clear hcz15_3
  try clear hcz8_0
  try clear hcz8_1
  try clear hcz8_2
  try clear hcz8_3
  try clear hcz9_0
  try clear hcz9_1
  try clear hcz9_2
  try clear hcz9_3
  try clear hfz12_0
  try clear hfz12_1
  try clear hfz12_2
  try clear hfz12_3
  try clear hfz14_0
  try clear hfz14_1
  try clear hfz14_2
  try clear hfz14_3
  try clear hfz15_0
  try clear hfz15_1
  try clear hfz15_2
  try clear hfz15_3
  try clear hfz8_0
  try clear hfz8_1
  try clear hfz8_2
  try clear hfz8_3
  try clear hfz9_0
  try clear hfz9_1
  try clear hfz9_2
  try clear hfz9_3
  obtain ⟨kq, x8_3, rfl, HA, HJ3, BK647, BK648, HB⟩ := hcut
  cases kq with
  | zero => exact absurd HA.out (by simp [product_parts.j0])
  | succ kj3 =>
   have H := HA.out
   clear HA
   simp only [product_parts.j0] at H
   have HC16 := A_ H;clear H
   go_upto_region 3 with (fail)
   go_cut [9] (fun v9 wc => ∃ (kq : Nat) (x9_15 : Bool), v9 = .bool x9_15 ∧ Aside0 (product_parts.j1 kq a0 (a1_0 != a2_0) x8_3 x9_15 a1_0 a1_1 a1_2 a1_3 a2_0 a2_1 a2_2 a2_3 = some r) ∧ Aside0 (kq ≤ kj3) ∧ Aside0 (wc.heap[gb647]? = some (.cells #[.bool a1_0, .int .i64 a1_1, .int .i64 a1_2, .int .u64 a1_3] 50 (0, 0))) ∧ Aside0 (wc.heap[gb648]? = some (.cells #[.bool a2_0, .int .i64 a2_1, .int .i64 a2_2, .int .u64 a2_3] 50 (0, 0))) ∧ Aside0 (Below w.heap.size w wc))
   case first =>
    have H := HC16.out
    clear HC16
    by_cases c17 : a1_1 = 2
    ·rw [if_pos c17] at H
     have c17b0 : (a1_1 == 2) = true := beq_iff_eq.mpr c17
     have c17b1 : (a1_1 != 2) = false := bne_eq_false_iff_eq.mpr c17
     clear c17
     (first | rw [c17b0] | (simp only [i64_w, i32_w]; rw [c17b0]) | skip)
     have H' := A_ H
     clear H
     have hnb18 := NB647_648.out
     have hnc18 := NB648_647.out
     have hcz19_0 : wc.cell? ⟨gb647, 0, none⟩ = some (.bool a1_0) := bc_ BK647.out 0
     have hcz19_1 : wc.cell? ⟨gb647, 1, none⟩ = some (.int .i64 a1_1) := bc_ BK647.out 1
     have hcz19_2 : wc.cell? ⟨gb647, 2, none⟩ = some (.int .i64 a1_2) := bc_ BK647.out 2
     have hcz19_3 : wc.cell? ⟨gb647, 3, none⟩ = some (.int .u64 a1_3) := bc_ BK647.out 3
     have hfz19_0 := blk_frozen BK647.out 0
     have hfz19_1 := blk_frozen BK647.out 1
     have hfz19_2 := blk_frozen BK647.out 2
     have hfz19_3 := blk_frozen BK647.out 3
     go_wp2
     go_meet
     case rel => exact ⟨_, (true), sm_, H', ⟨by have := HJ3.out; first | omega | exact Nat.le_refl _⟩, ⟨bk_ BK647.out⟩, ⟨bk_ BK648.out⟩, ⟨hb2_ HB.out GE647.out GE648.out⟩⟩
    ·rw [if_neg c17] at H
     have c17b0 : (a1_1 == 2) = false := beq_eq_false_iff_ne.mpr c17
     have c17b1 : (a1_1 != 2) = true := bne_iff_ne.mpr c17
     (first | rw [c17b0] | (simp only [i64_w, i32_w]; rw [c17b0]) | skip)
     have H' := A_ H
     clear H
     have hnb20 := NB647_648.out
     have hnc20 := NB648_647.out
     have hcz21_0 : wc.cell? ⟨gb647, 0, none⟩ = some (.bool a1_0) := bc_ BK647.out 0
     have hcz21_1 : wc.cell? ⟨gb647, 1, none⟩ = some (.int .i64 a1_1) := bc_ BK647.out 1
     have hcz21_2 : wc.cell? ⟨gb647, 2, none⟩ = some (.int .i64 a1_2) := bc_ BK647.out 2
     have hcz21_3 : wc.cell? ⟨gb647, 3, none⟩ = some (.int .u64 a1_3) := bc_ BK647.out 3
     have hfz21_0 := blk_frozen BK647.out 0
     have hfz21_1 := blk_frozen BK647.out 1
     have hfz21_2 := blk_frozen BK647.out 2
     have hfz21_3 := blk_frozen BK647.out 3
     have hcz22_0 : wc.cell? ⟨gb648, 0, none⟩ = some (.bool a2_0) := bc_ BK648.out 0
     have hcz22_1 : wc.cell? ⟨gb648, 1, none⟩ = some (.int .i64 a2_1) := bc_ BK648.out 1
     have hcz22_2 : wc.cell? ⟨gb648, 2, none⟩ = some (.int .i64 a2_2) := bc_ BK648.out 2
     have hcz22_3 : wc.cell? ⟨gb648, 3, none⟩ = some (.int .u64 a2_3) := bc_ BK648.out 3
     have hfz22_0 := blk_frozen BK648.out 0
     have hfz22_1 := blk_frozen BK648.out 1
     have hfz22_2 := blk_frozen BK648.out 2
     have hfz22_3 := blk_frozen BK648.out 3
     go_wp2
     go_meet
     case rel => exact ⟨_, ((a2_1 == 2)), sm_, H', ⟨by have := HJ3.out; first | omega | exact Nat.le_refl _⟩, ⟨bk_ BK647.out⟩, ⟨bk_ BK648.out⟩, ⟨hb2_ HB.out GE647.out GE648.out⟩⟩
   case rest =>
    clear HC16
    try clear c1
    try clear c2
    try clear p2
    try clear c7
    try clear c10
    try clear c10b0
    try clear c10b1
    try clear c11
    try clear c12
    try clear c13
    try clear c17
    try clear c17b0
    try clear c17b1
    try clear c18
    try clear c20
    try clear hcz12_0
    try clear hcz12_1
    try clear hcz12_2
    try clear hcz12_3
    try clear hcz14_0
    try clear hcz14_1
    try clear hcz14_2
    try clear hcz14_3
    try clear hcz15_0
    try clear hcz15_1
    try clear hcz15_2
    try clear hcz15_3
    try clear hcz19_0
    try clear hcz19_1
    try clear hcz19_2
    try clear hcz19_3
    try clear hcz21_0
    try clear hcz21_1
    try clear hcz21_2
    try clear hcz21_3
    try clear hcz22_0
    try clear hcz22_1
    try clear hcz22_2
    try clear hcz22_3
    try clear hcz8_0
    try clear hcz8_1
    try clear hcz8_2
    try clear hcz8_3
    try clear hcz9_0
    try clear hcz9_1
    try clear hcz9_2
    try clear hcz9_3
    try clear hfz12_0
    try clear hfz12_1
    try clear hfz12_2
    try clear hfz12_3
    try clear hfz14_0
    try clear hfz14_1
    try clear hfz14_2
    try clear hfz14_3
    try clear hfz15_0
    try clear hfz15_1
    try clear hfz15_2
    try clear hfz15_3
    try clear hfz19_0
    try clear hfz19_1
    try clear hfz19_2
    try clear hfz19_3
    try clear hfz21_0
    try clear hfz21_1
    try clear hfz21_2
    try clear hfz21_3
    try clear hfz22_0
    try clear hfz22_1
    try clear hfz22_2
    try clear hfz22_3
    try clear hfz8_0
    try clear hfz8_1
    try clear hfz8_2
    try clear hfz8_3
    try clear hfz9_0
    try clear hfz9_1
    try clear hfz9_2
    try clear hfz9_3
    try clear p2
    obtain ⟨kq, x9_15, rfl, HA, HJ15, BK647, BK648, HB⟩ := hcut
    cases kq with
    | zero => exact absurd HA.out (by simp [product_parts.j1])
    | succ kj15 =>
     have H := HA.out
     clear HA
     simp only [product_parts.j1] at H
     have HC23 := A_ H;clear H
     go_upto_region 4 with (fail)
     go_cut [31] (fun v31 wc => ∃ (kq : Nat) (x31_22 : Bool), v31 = .bool x31_22 ∧ Aside0 (product_parts.j2 kq a0 (a1_0 != a2_0) x8_3 x9_15 x31_22 a1_0 a1_1 a1_2 a1_3 a2_0 a2_1 a2_2 a2_3 = some r) ∧ Aside0 (kq ≤ kj15) ∧ Aside0 (wc.heap[gb647]? = some (.cells #[.bool a1_0, .int .i64 a1_1, .int .i64 a1_2, .int .u64 a1_3] 50 (0, 0))) ∧ Aside0 (wc.heap[gb648]? = some (.cells #[.bool a2_0, .int .i64 a2_1, .int .i64 a2_2, .int .u64 a2_3] 50 (0, 0))) ∧ Aside0 (Below w.heap.size w wc))
     case first =>
      have H := HC23.out
      clear HC23
      by_cases c24 : a1_1 = 3
      ·rw [if_pos c24] at H
       have c24b0 : (a1_1 == 3) = true := beq_iff_eq.mpr c24
       have c24b1 : (a1_1 != 3) = false := bne_eq_false_iff_eq.mpr c24
       clear c24
       (first | rw [c24b0] | (simp only [i64_w, i32_w]; rw [c24b0]) | skip)
       have H' := A_ H
       clear H
       have hnb25 := NB647_648.out
       have hnc25 := NB648_647.out
       have hcz26_0 : wc.cell? ⟨gb647, 0, none⟩ = some (.bool a1_0) := bc_ BK647.out 0
       have hcz26_1 : wc.cell? ⟨gb647, 1, none⟩ = some (.int .i64 a1_1) := bc_ BK647.out 1
       have hcz26_2 : wc.cell? ⟨gb647, 2, none⟩ = some (.int .i64 a1_2) := bc_ BK647.out 2
       have hcz26_3 : wc.cell? ⟨gb647, 3, none⟩ = some (.int .u64 a1_3) := bc_ BK647.out 3
       have hfz26_0 := blk_frozen BK647.out 0
       have hfz26_1 := blk_frozen BK647.out 1
       have hfz26_2 := blk_frozen BK647.out 2
       have hfz26_3 := blk_frozen BK647.out 3
       go_wp2
       go_meet
       case rel => exact ⟨_, (true), sm_, H', ⟨by have := HJ3.out; have := HJ15.out; first | omega | exact Nat.le_refl _⟩, ⟨bk_ BK647.out⟩, ⟨bk_ BK648.out⟩, ⟨hb2_ HB.out GE647.out GE648.out⟩⟩
      ·rw [if_neg c24] at H
       have c24b0 : (a1_1 == 3) = false := beq_eq_false_iff_ne.mpr c24
       have c24b1 : (a1_1 != 3) = true := bne_iff_ne.mpr c24
       (first | rw [c24b0] | (simp only [i64_w, i32_w]; rw [c24b0]) | skip)
       by_cases c27 : a2_1 = 3
       ·rw [if_pos c27] at H
        have c27b0 : (a2_1 == 3) = true := beq_iff_eq.mpr c27
        have c27b1 : (a2_1 != 3) = false := bne_eq_false_iff_eq.mpr c27
        clear c27
        have H' := A_ H
        clear H
        have hnb28 := NB647_648.out
        have hnc28 := NB648_647.out
        have hcz29_0 : wc.cell? ⟨gb647, 0, none⟩ = some (.bool a1_0) := bc_ BK647.out 0
        have hcz29_1 : wc.cell? ⟨gb647, 1, none⟩ = some (.int .i64 a1_1) := bc_ BK647.out 1
        have hcz29_2 : wc.cell? ⟨gb647, 2, none⟩ = some (.int .i64 a1_2) := bc_ BK647.out 2
        have hcz29_3 : wc.cell? ⟨gb647, 3, none⟩ = some (.int .u64 a1_3) := bc_ BK647.out 3
        have hfz29_0 := blk_frozen BK647.out 0
        have hfz29_1 := blk_frozen BK647.out 1
        have hfz29_2 := blk_frozen BK647.out 2
        have hfz29_3 := blk_frozen BK647.out 3
        have hcz30_0 : wc.cell? ⟨gb648, 0, none⟩ = some (.bool a2_0) := bc_ BK648.out 0
        have hcz30_1 : wc.cell? ⟨gb648, 1, none⟩ = some (.int .i64 a2_1) := bc_ BK648.out 1
        have hcz30_2 : wc.cell? ⟨gb648, 2, none⟩ = some (.int .i64 a2_2) := bc_ BK648.out 2
        have hcz30_3 : wc.cell? ⟨gb648, 3, none⟩ = some (.int .u64 a2_3) := bc_ BK648.out 3
        have hfz30_0 := blk_frozen BK648.out 0
        have hfz30_1 := blk_frozen BK648.out 1
        have hfz30_2 := blk_frozen BK648.out 2
        have hfz30_3 := blk_frozen BK648.out 3
        go_wp2
        go_meet
        case rel => exact ⟨_, (true), sm_, H', ⟨by have := HJ3.out; have := HJ15.out; first | omega | exact Nat.le_refl _⟩, ⟨bk_ BK647.out⟩, ⟨bk_ BK648.out⟩, ⟨hb2_ HB.out GE647.out GE648.out⟩⟩
       ·rw [if_neg c27] at H
        have c27b0 : (a2_1 == 3) = false := beq_eq_false_iff_ne.mpr c27
        have c27b1 : (a2_1 != 3) = true := bne_iff_ne.mpr c27
        by_cases c31 : x8_3 = true
        ·subst c31
         have H1 : (product_parts.j2 kj15 a0 (a1_0 != a2_0) true x9_15 x9_15 a1_0 a1_1 a1_2 a1_3 a2_0 a2_1 a2_2 a2_3) = some r := by rw [if_pos rfl] at H; exact H
         clear H;have H := H1;clear H1
         have H' := A_ H
         clear H
         have hnb32 := NB647_648.out
         have hnc32 := NB648_647.out
         have hcz33_0 : wc.cell? ⟨gb647, 0, none⟩ = some (.bool a1_0) := bc_ BK647.out 0
         have hcz33_1 : wc.cell? ⟨gb647, 1, none⟩ = some (.int .i64 a1_1) := bc_ BK647.out 1
         have hcz33_2 : wc.cell? ⟨gb647, 2, none⟩ = some (.int .i64 a1_2) := bc_ BK647.out 2
         have hcz33_3 : wc.cell? ⟨gb647, 3, none⟩ = some (.int .u64 a1_3) := bc_ BK647.out 3
         have hfz33_0 := blk_frozen BK647.out 0
         have hfz33_1 := blk_frozen BK647.out 1
         have hfz33_2 := blk_frozen BK647.out 2
         have hfz33_3 := blk_frozen BK647.out 3
         have hcz34_0 : wc.cell? ⟨gb648, 0, none⟩ = some (.bool a2_0) := bc_ BK648.out 0
         have hcz34_1 : wc.cell? ⟨gb648, 1, none⟩ = some (.int .i64 a2_1) := bc_ BK648.out 1
         have hcz34_2 : wc.cell? ⟨gb648, 2, none⟩ = some (.int .i64 a2_2) := bc_ BK648.out 2
         have hcz34_3 : wc.cell? ⟨gb648, 3, none⟩ = some (.int .u64 a2_3) := bc_ BK648.out 3
         have hfz34_0 := blk_frozen BK648.out 0
         have hfz34_1 := blk_frozen BK648.out 1
         have hfz34_2 := blk_frozen BK648.out 2
         have hfz34_3 := blk_frozen BK648.out 3
         go_wp2
         go_meet
         case rel => exact ⟨_, (x9_15), sm_, H', ⟨by have := HJ3.out; have := HJ15.out; first | omega | exact Nat.le_refl _⟩, ⟨bk_ BK647.out⟩, ⟨bk_ BK648.out⟩, ⟨hb2_ HB.out GE647.out GE648.out⟩⟩
        ·replace c31 := Bool.eq_false_iff.mpr c31
         subst c31
         have H1 : (product_parts.j2 kj15 a0 (a1_0 != a2_0) false x9_15 false a1_0 a1_1 a1_2 a1_3 a2_0 a2_1 a2_2 a2_3) = some r := by rw [if_neg (show ¬ (false = true) by decide)] at H; exact H
         clear H;have H := H1;clear H1
         have H' := A_ H
         clear H
         have hnb35 := NB647_648.out
         have hnc35 := NB648_647.out
         have hcz36_0 : wc.cell? ⟨gb647, 0, none⟩ = some (.bool a1_0) := bc_ BK647.out 0
         have hcz36_1 : wc.cell? ⟨gb647, 1, none⟩ = some (.int .i64 a1_1) := bc_ BK647.out 1
         have hcz36_2 : wc.cell? ⟨gb647, 2, none⟩ = some (.int .i64 a1_2) := bc_ BK647.out 2
         have hcz36_3 : wc.cell? ⟨gb647, 3, none⟩ = some (.int .u64 a1_3) := bc_ BK647.out 3
         have hfz36_0 := blk_frozen BK647.out 0
         have hfz36_1 := blk_frozen BK647.out 1
         have hfz36_2 := blk_frozen BK647.out 2
         have hfz36_3 := blk_frozen BK647.out 3
         have hcz37_0 : wc.cell? ⟨gb648, 0, none⟩ = some (.bool a2_0) := bc_ BK648.out 0
         have hcz37_1 : wc.cell? ⟨gb648, 1, none⟩ = some (.int .i64 a2_1) := bc_ BK648.out 1
         have hcz37_2 : wc.cell? ⟨gb648, 2, none⟩ = some (.int .i64 a2_2) := bc_ BK648.out 2
         have hcz37_3 : wc.cell? ⟨gb648, 3, none⟩ = some (.int .u64 a2_3) := bc_ BK648.out 3
         have hfz37_0 := blk_frozen BK648.out 0
         have hfz37_1 := blk_frozen BK648.out 1
         have hfz37_2 := blk_frozen BK648.out 2
         have hfz37_3 := blk_frozen BK648.out 3
         go_wp2
         go_meet
         case rel => exact ⟨_, (false), sm_, H', ⟨by have := HJ3.out; have := HJ15.out; first | omega | exact Nat.le_refl _⟩, ⟨bk_ BK647.out⟩, ⟨bk_ BK648.out⟩, ⟨hb2_ HB.out GE647.out GE648.out⟩⟩
     case rest =>
      clear HC23
      try clear c1
      try clear c2
      try clear p2
      try clear c3
      try clear c7
      try clear c10
      try clear c10b0
      try clear c10b1
      try clear c11
      try clear c12
      try clear c13
      try clear c17
      try clear c17b0
      try clear c17b1
      try clear c18
      try clear c20
      try clear c24
      try clear c24b0
      try clear c24b1
      try clear c25
      try clear c27
      try clear c27b0
      try clear c27b1
      try clear c28
      try clear c31
      try clear c32
      try clear c35
      try clear hcz12_0
      try clear hcz12_1
      try clear hcz12_2
      try clear hcz12_3
      try clear hcz14_0
      try clear hcz14_1
      try clear hcz14_2
      try clear hcz14_3
      try clear hcz15_0
      try clear hcz15_1
      try clear hcz15_2
      try clear hcz15_3
      try clear hcz19_0
      try clear hcz19_1
      try clear hcz19_2
      try clear hcz19_3
      try clear hcz21_0
      try clear hcz21_1
      try clear hcz21_2
      try clear hcz21_3
      try clear hcz22_0
      try clear hcz22_1
      try clear hcz22_2
      try clear hcz22_3
      try clear hcz26_0
      try clear hcz26_1
      try clear hcz26_2
      try clear hcz26_3
      try clear hcz29_0
      try clear hcz29_1
      try clear hcz29_2
      try clear hcz29_3
      try clear hcz30_0
      try clear hcz30_1
      try clear hcz30_2
      try clear hcz30_3
      try clear hcz33_0
      try clear hcz33_1
      try clear hcz33_2
      try clear hcz33_3
      try clear hcz34_0
      try clear hcz34_1
      try clear hcz34_2
      try clear hcz34_3
      try clear hcz36_0
      try clear hcz36_1
      try clear hcz36_2
      try clear hcz36_3
      try clear hcz37_0
      try clear hcz37_1
      try clear hcz37_2
      try clear hcz37_3
      try clear hcz8_0
      try clear hcz8_1
      try clear hcz8_2
      try clear hcz8_3
      try clear hcz9_0
      try clear hcz9_1
      try clear hcz9_2
      try clear hcz9_3
      try clear hfz12_0
      try clear hfz12_1
      try clear hfz12_2
      try clear hfz12_3
      try clear hfz14_0
      try clear hfz14_1
      try clear hfz14_2
      try clear hfz14_3
      try clear hfz15_0
      try clear hfz15_1
      try clear hfz15_2
      try clear hfz15_3
      try clear hfz19_0
      try clear hfz19_1
      try clear hfz19_2
      try clear hfz19_3
      try clear hfz21_0
      try clear hfz21_1
      try clear hfz21_2
      try clear hfz21_3
      try clear hfz22_0
      try clear hfz22_1
      try clear hfz22_2
      try clear hfz22_3
      try clear hfz26_0
      try clear hfz26_1
      try clear hfz26_2
      try clear hfz26_3
      try clear hfz29_0
      try clear hfz29_1
      try clear hfz29_2
      try clear hfz29_3
      try clear hfz30_0
      try clear hfz30_1
      try clear hfz30_2
      try clear hfz30_3
      try clear hfz33_0
      try clear hfz33_1
      try clear hfz33_2
      try clear hfz33_3
      try clear hfz34_0
      try clear hfz34_1
      try clear hfz34_2
      try clear hfz34_3
      try clear hfz36_0
      try clear hfz36_1
      try clear hfz36_2
      try clear hfz36_3
      try clear hfz37_0
      try clear hfz37_1
      try clear hfz37_2
      try clear hfz37_3
      try clear hfz8_0
      try clear hfz8_1
      try clear hfz8_2
      try clear hfz8_3
      try clear hfz9_0
      try clear hfz9_1
      try clear hfz9_2
      try clear hfz9_3
      try clear p2
      obtain ⟨kq, x31_22, rfl, HA, HJ22, BK647, BK648, HB⟩ := hcut
      cases kq with
      | zero => exact absurd HA.out (by simp [product_parts.j2])
      | succ kj22 =>
       have H := HA.out
       clear HA
       simp only [product_parts.j2] at H
       by_cases c38 : x31_22 = true
       ·subst c38
        have H1 : ((shape_Nan.f a0).bind fun t649 => (some t649)) = some r := by rw [if_pos rfl] at H; exact H
        clear H;have H := H1;clear H1
        replace H := ob_ H
        obtain ⟨t649, A390, H⟩ := H
        replace H : (some t649) = some r := H
        have A39 := A_ A390;clear A390
        obtain rfl := Option.some.inj H
        go_wp2_with (first | ((with_reducible refine gate_callee (f := 76) rfl ?_); refine gl_ (some 47) Try.func76 #[.int .i64 a0] ?_; (with_reducible refine (shape_Nan.calls a0 t649 _ A39.out).mono ?_); rintro e w40 ⟨rfl, hb⟩; refine ⟨_, rfl, ?_⟩; have n0_ := A_ (bb_ BK647.out hb); have n1_ := A_ (bb_ BK648.out hb); have n2_ := A_ (below_step (hb2_ HB.out GE647.out GE648.out) hb); clear BK647; clear BK648; clear HB; have BK647 := n0_; have BK648 := n1_; have HB := n2_; clear n0_ n1_ n2_; (try clear hb); (try clear hb2); (try clear hk); (try clear hi)))
        go_ret
        exact ⟨er_, hb2_ HB.out GE647.out GE648.out⟩
       ·replace c38 := Bool.eq_false_iff.mpr c38
        subst c38
        have H1 : (if x9_15 = true then ((shape_Inf.f a0 (a1_0 != a2_0)).bind fun t650 => (some t650)) else (if x8_3 = true then ((shape_Zero.f a0 (a1_0 != a2_0)).bind fun t651 => (some t651)) else ((wide_Mul.f a1_3 a2_3).bind fun bt652 => ((round_Pack.f a0 (a1_0 != a2_0) bt652.1 bt652.2 (wrap64 (a1_2 + a2_2)) false).bind fun t654 => (some t654))))) = some r := by rw [if_neg (show ¬ (false = true) by decide)] at H; exact H
        clear H;have H := H1;clear H1
        by_cases c41 : x9_15 = true
        ·subst c41
         have H1 : ((shape_Inf.f a0 (a1_0 != a2_0)).bind fun t650 => (some t650)) = some r := by rw [if_pos rfl] at H; exact H
         clear H;have H := H1;clear H1
         replace H := ob_ H
         obtain ⟨t650, A420, H⟩ := H
         replace H : (some t650) = some r := H
         have A42 := A_ A420;clear A420
         obtain rfl := Option.some.inj H
         go_wp2_with (first | ((with_reducible refine gate_callee (f := 51) rfl ?_); refine gl_ (some 52) Try.func51 #[.int .i64 a0, .bool (a1_0 != a2_0)] ?_; (with_reducible refine (shape_Inf.calls a0 (a1_0 != a2_0) t650 _ A42.out).mono ?_); rintro e w43 ⟨rfl, hb⟩; refine ⟨_, rfl, ?_⟩; have n0_ := A_ (bb_ BK647.out hb); have n1_ := A_ (bb_ BK648.out hb); have n2_ := A_ (below_step (hb2_ HB.out GE647.out GE648.out) hb); clear BK647; clear BK648; clear HB; have BK647 := n0_; have BK648 := n1_; have HB := n2_; clear n0_ n1_ n2_; (try clear hb); (try clear hb2); (try clear hk); (try clear hi)))
         go_ret
         exact ⟨er_, hb2_ HB.out GE647.out GE648.out⟩
        ·replace c41 := Bool.eq_false_iff.mpr c41
         subst c41
         have H1 : (if x8_3 = true then ((shape_Zero.f a0 (a1_0 != a2_0)).bind fun t651 => (some t651)) else ((wide_Mul.f a1_3 a2_3).bind fun bt652 => ((round_Pack.f a0 (a1_0 != a2_0) bt652.1 bt652.2 (wrap64 (a1_2 + a2_2)) false).bind fun t654 => (some t654)))) = some r := by rw [if_neg (show ¬ (false = true) by decide)] at H; exact H
         clear H;have H := H1;clear H1
         by_cases c44 : x8_3 = true
         ·subst c44
          have H1 : ((shape_Zero.f a0 (a1_0 != a2_0)).bind fun t651 => (some t651)) = some r := by rw [if_pos rfl] at H; exact H
          clear H;have H := H1;clear H1
          replace H := ob_ H
          obtain ⟨t651, A450, H⟩ := H
          replace H : (some t651) = some r := H
          have A45 := A_ A450;clear A450
          obtain rfl := Option.some.inj H
          go_wp2_with (first | ((with_reducible refine gate_callee (f := 52) rfl ?_); refine gl_ (some 57) Try.func52 #[.int .i64 a0, .bool (a1_0 != a2_0)] ?_; (with_reducible refine (shape_Zero.calls a0 (a1_0 != a2_0) t651 _ A45.out).mono ?_); rintro e w46 ⟨rfl, hb⟩; refine ⟨_, rfl, ?_⟩; have n0_ := A_ (bb_ BK647.out hb); have n1_ := A_ (bb_ BK648.out hb); have n2_ := A_ (below_step (hb2_ HB.out GE647.out GE648.out) hb); clear BK647; clear BK648; clear HB; have BK647 := n0_; have BK648 := n1_; have HB := n2_; clear n0_ n1_ n2_; (try clear hb); (try clear hb2); (try clear hk); (try clear hi)))
          go_ret
          exact ⟨er_, hb2_ HB.out GE647.out GE648.out⟩
         ·replace c44 := Bool.eq_false_iff.mpr c44
          subst c44
          have H1 : ((wide_Mul.f a1_3 a2_3).bind fun bt652 => ((round_Pack.f a0 (a1_0 != a2_0) bt652.1 bt652.2 (wrap64 (a1_2 + a2_2)) false).bind fun t654 => (some t654))) = some r := by rw [if_neg (show ¬ (false = true) by decide)] at H; exact H
          clear H;have H := H1;clear H1
          replace H := ob_ H
          obtain ⟨⟨t652, t653⟩, A470, H⟩ := H
          replace H : ((round_Pack.f a0 (a1_0 != a2_0) t652 t653 (wrap64 (a1_2 + a2_2)) false).bind fun t654 => (some t654)) = some r := H
          have A47 := A_ A470;clear A470
          replace H := ob_ H
          obtain ⟨t654, A480, H⟩ := H
          replace H : (some t654) = some r := H
          have A48 := A_ A480;clear A480
          obtain rfl := Option.some.inj H
          try go_wp2
          have n0_ := A_ (blk_drew BK647.out)
          have n1_ := A_ (blk_drew BK648.out)
          have n2_ := A_ (below_drew1 HB.out)
          clear BK647;clear BK648;clear HB;have BK647 := n0_;have BK648 := n1_;have HB := n2_;clear n0_ n1_ n2_
          refine start_ (n := 14) (S := fun w' => w'.cell? ⟨gb647, 0, none⟩ = some (.bool a1_0) ∧ w'.cell? ⟨gb647, 1, none⟩ = some (.int .i64 a1_1) ∧ w'.cell? ⟨gb647, 2, none⟩ = some (.int .i64 a1_2) ∧ w'.cell? ⟨gb647, 3, none⟩ = some (.int .u64 a1_3) ∧ w'.cell? ⟨gb648, 0, none⟩ = some (.bool a2_0) ∧ w'.cell? ⟨gb648, 1, none⟩ = some (.int .i64 a2_1) ∧ w'.cell? ⟨gb648, 2, none⟩ = some (.int .i64 a2_2) ∧ w'.cell? ⟨gb648, 3, none⟩ = some (.int .u64 a2_3)) (ds := []) #[false, false, false, false, false, false, false, false, false, false, false, false, false, false] (by kernel_rfl) rfl rfl ⟨bc_ BK647.out 0, bc_ BK647.out 1, bc_ BK647.out 2, bc_ BK647.out 3, bc_ BK648.out 0, bc_ BK648.out 1, bc_ BK648.out 2, bc_ BK648.out 3⟩ (fun hHeld => ?_); refine with_tabW product_parts.tab10 product_parts.bits10 (fun HT_ HW_ => ?_)
          generalize wc.drew = w49 at BK647 BK648 HB hHeld ⊢
          refine pu_ 0 (some 58) #[true, false, false, false, false, false, false, false, false, false, false, false, false, false] rfl rfl (any_of HT_.out (by kernel_rfl)) ?_
          refine pu_ 1 (some 59) #[true, true, false, false, false, false, false, false, false, false, false, false, false, false] rfl rfl (any_of HT_.out (by kernel_rfl)) ?_
          refine pu_ 2 (some 60) #[true, true, true, false, false, false, false, false, false, false, false, false, false, false] rfl rfl (any_of HT_.out (by kernel_rfl)) ?_
          refine pu_ 4 (some 62) #[true, true, true, false, true, false, false, false, false, false, false, false, false, false] rfl rfl (any_of HT_.out (by kernel_rfl)) ?_
          refine pu_ 7 (some 65) #[true, true, true, false, true, false, false, true, false, false, false, false, false, false] rfl rfl (any_of HT_.out (by kernel_rfl)) ?_
          refine pu_ 9 (some 67) #[true, true, true, false, true, false, false, true, false, true, false, false, false, false] rfl rfl (any_of HT_.out (by kernel_rfl)) ?_
          refine tk8_ 3 (some 61) #[true, true, true, true, true, false, false, true, false, true, false, false, false, false] rfl rfl (take_ofW HT_.out HW_.out (by kernel_rfl)) hHeld ?_
          refine tk8_ 5 (some 63) #[true, true, true, true, true, true, false, true, false, true, false, false, false, false] rfl rfl (take_ofW HT_.out HW_.out (by kernel_rfl)) hHeld ?_
          refine tk8_ 8 (some 66) #[true, true, true, true, true, true, false, true, true, true, false, false, false, false] rfl rfl (take_ofW HT_.out HW_.out (by kernel_rfl)) hHeld ?_
          refine tk8_ 10 (some 68) #[true, true, true, true, true, true, false, true, true, true, true, false, false, false] rfl rfl (take_ofW HT_.out HW_.out (by kernel_rfl)) hHeld ?_
          refine pu_ 11 (some 69) #[true, true, true, true, true, true, false, true, true, true, true, true, false, false] rfl rfl (any_of HT_.out (by kernel_rfl)) ?_
          refine one_ (i := 6) (N := some 64) #[true, true, true, true, true, true, true, true, true, true, true, true, false, false] rfl rfl (one_of HT_.out (by kernel_rfl)) (by decide) (fun K hK => ?_)
          refine goes_ Try.func161 (by kernel_rfl) rfl #[.int .u64 a1_3, .int .u64 a2_3] (by rfl) rfl rfl mp_ ?_
          with_reducible refine (wide_Mul.calls a1_3 a2_3 t652 t653 _ A47.out).mono ?_
          rintro e w50 ⟨rfl, hb⟩
          refine ⟨_, rfl, ?_⟩
          have n0_ := A_ (bb_ BK647.out hb)
          have n1_ := A_ (bb_ BK648.out hb)
          have n2_ := A_ (below_step (hb2_ HB.out GE647.out GE648.out) hb)
          clear BK647;clear BK648;clear HB;have BK647 := n0_;have BK648 := n1_;have HB := n2_;clear n0_ n1_ n2_;(try clear hb);(try clear hb2);(try clear hk);(try clear hi)
          refine hK.out _ _ ⟨bc_ BK647.out 0, bc_ BK647.out 1, bc_ BK647.out 2, bc_ BK647.out 3, bc_ BK648.out 0, bc_ BK648.out 1, bc_ BK648.out 2, bc_ BK648.out 3⟩ (fun hHeld => ?_)
          clear hK K
          refine norm_ (a' := ?_) ?_ ?_
          rotate_left
          ·show Act.put _ (some 64) _ = _
           simp only [Act.put, lI_, l0_, lS_, i64_w, i32_w]
           rfl
          refine one_ (i := 12) (N := some 70) #[true, true, true, true, true, true, true, true, true, true, true, true, true, false] rfl rfl (one_of HT_.out (by kernel_rfl)) (by decide) (fun K hK => ?_)
          refine goes_ Try.func39 (by kernel_rfl) rfl #[.int .i64 a0, .bool (a1_0 != a2_0), .agg #[.int .u64 t652, .int .u64 t653], .int .i64 (wrap64 (a1_2 + a2_2)), .bool false] (by rfl) rfl rfl mp_ ?_
          with_reducible refine (round_Pack.calls a0 (a1_0 != a2_0) t652 t653 (wrap64 (a1_2 + a2_2)) false t654 _ A48.out).mono ?_
          rintro e w51 ⟨rfl, hb⟩
          refine ⟨_, rfl, ?_⟩
          have n0_ := A_ (bb_ BK647.out hb)
          have n1_ := A_ (bb_ BK648.out hb)
          have n2_ := A_ (below_step (hb2_ HB.out GE647.out GE648.out) hb)
          clear BK647;clear BK648;clear HB;have BK647 := n0_;have BK648 := n1_;have HB := n2_;clear n0_ n1_ n2_;(try clear hb);(try clear hb2);(try clear hk);(try clear hi)
          refine hK.out _ _ ⟨bc_ BK647.out 0, bc_ BK647.out 1, bc_ BK647.out 2, bc_ BK647.out 3, bc_ BK648.out 0, bc_ BK648.out 1, bc_ BK648.out 2, bc_ BK648.out 3⟩ (fun hHeld => ?_)
          clear hK K
          refine norm_ (a' := ?_) ?_ ?_
          rotate_left
          ·show Act.put _ (some 70) _ = _
           simp only [Act.put, lI_, l0_, lS_, i64_w, i32_w]
           rfl
          refine pu_ 13 (some 6) #[true, true, true, true, true, true, true, true, true, true, true, true, true, true] rfl rfl (any_of HT_.out (by kernel_rfl)) ?_
          refine done_ (done_of HT_.out (by kernel_rfl)) ?_
          try go_wp2
          go_ret
          exact ⟨er_, hb2_ HB.out GE647.out GE648.out⟩
def product_Mul.f (k : Nat) (a0 : Int) (a1 : Int) (a2 : Int) : Option (Int) := (product_known.f a0).bind fun t655 => (if t655 = true then ((shape_Open.f k a0 a1).bind fun bt656 => ((shape_Open.f k a0 a2).bind fun bt660 => ((product_parts.f k a0 bt656.1 bt656.2.1 bt656.2.2.1 bt656.2.2.2 bt660.1 bt660.2.1 bt660.2.2.1 bt660.2.2.2).bind fun t664 => (some t664)))) else (some 0))
theorem product_Mul.mono : ∀ a0 a1 a2 k, LeO (product_Mul.f k a0 a1 a2) (product_Mul.f (k + 1) a0 a1 a2) := by
 intro a0 a1 a2 k
 unfold product_Mul.f
 repeat' first
   | (with_reducible exact product_parts.mono _ _ _ _ _ _ _ _ _ _)
   | (with_reducible exact shape_Open.mono _ _ _)
   | (with_reducible exact LeO.refl _)
   | (with_reducible exact LeO.none _)
   | (with_reducible refine LeO.ite ?_ ?_)
   | (with_reducible refine LeO.bind ?_ (fun _ => ?_))
   | exact product_parts.mono _ _ _ _ _ _ _ _ _ _
   | exact shape_Open.mono _ _ _
   | exact LeO.none _
   | refine LeO.ite ?_ ?_
   | refine LeO.bind ?_ (fun _ => ?_)
theorem product_Mul.calls (k : Nat) (a0 : Int) (a1 : Int) (a2 : Int) (r : Int) (w : World) (h : product_Mul.f k a0 a1 a2 = some r) :
  Calls Try.prog 54 #[.int .i64 a0, .int .u64 a1, .int .u64 a2] w fun e w' => e = .returned (.int .u64 r) ∧ Below w.heap.size w w' := by
 have HB := A_ (Below.refl w.heap.size w)
 have H : ((product_known.f a0).bind fun t655 => (if t655 = true then ((shape_Open.f k a0 a1).bind fun bt656 => ((shape_Open.f k a0 a2).bind fun bt660 => ((product_parts.f k a0 bt656.1 bt656.2.1 bt656.2.2.1 bt656.2.2.2 bt660.1 bt660.2.1 bt660.2.2.1 bt660.2.2.2).bind fun t664 => (some t664)))) else (some 0))) = some r := h
 clear h
 replace H := ob_ H
 obtain ⟨t655, A40, H⟩ := H
 replace H : (if t655 = true then ((shape_Open.f k a0 a1).bind fun bt656 => ((shape_Open.f k a0 a2).bind fun bt660 => ((product_parts.f k a0 bt656.1 bt656.2.1 bt656.2.2.1 bt656.2.2.2 bt660.1 bt660.2.1 bt660.2.2.1 bt660.2.2.2).bind fun t664 => (some t664)))) else (some 0)) = some r := H
 have A4 := A_ A40;clear A40
 by_cases c5 : t655 = true
 ·subst c5
  have H1 : ((shape_Open.f k a0 a1).bind fun bt656 => ((shape_Open.f k a0 a2).bind fun bt660 => ((product_parts.f k a0 bt656.1 bt656.2.1 bt656.2.2.1 bt656.2.2.2 bt660.1 bt660.2.1 bt660.2.2.1 bt660.2.2.2).bind fun t664 => (some t664)))) = some r := by rw [if_pos rfl] at H; exact H
  clear H;have H := H1;clear H1
  replace H := ob_ H
  obtain ⟨⟨t656, t657, t658, t659⟩, A60, H⟩ := H
  replace H : ((shape_Open.f k a0 a2).bind fun bt660 => ((product_parts.f k a0 t656 t657 t658 t659 bt660.1 bt660.2.1 bt660.2.2.1 bt660.2.2.2).bind fun t664 => (some t664))) = some r := H
  have A6 := A_ A60;clear A60
  replace H := ob_ H
  obtain ⟨⟨t660, t661, t662, t663⟩, A70, H⟩ := H
  replace H : ((product_parts.f k a0 t656 t657 t658 t659 t660 t661 t662 t663).bind fun t664 => (some t664)) = some r := H
  have A7 := A_ A70;clear A70
  replace H := ob_ H
  obtain ⟨t664, A80, H⟩ := H
  replace H : (some t664) = some r := H
  have A8 := A_ A80;clear A80
  obtain rfl := Option.some.inj H
  go_enter Try.func54, Try.ntmps54
  go_wp2_with (first | ((with_reducible refine gate_callee (f := 124) rfl ?_); refine gl_ (some 8) Try.func124 #[.int .i64 a0] ?_; (with_reducible refine (product_known.calls a0 true _ A4.out).mono ?_); rintro e w' ⟨rfl, ⟨nd, rfl⟩⟩; refine ⟨_, rfl, ?_⟩) | ((with_reducible refine gate_callee (f := 48) rfl ?_); refine gl_ (some 13) Try.func48 #[.int .i64 a0, .int .u64 a1] ?_; (with_reducible refine (shape_Open.calls k a0 a1 t656 t657 t658 t659 _ A6.out).mono ?_); rintro e w9 ⟨rfl, hb⟩; refine ⟨_, rfl, ?_⟩; have n0_ := A_ (below_step (hb_ HB.out) hb); clear HB; have HB := n0_; clear n0_; (try clear hb); (try clear hb2); (try clear hk); (try clear hi)) | ((with_reducible refine gate_callee (f := 48) rfl ?_); refine gl_ (some 16) Try.func48 #[.int .i64 a0, .int .u64 a2] ?_; (with_reducible refine (shape_Open.calls k a0 a2 t660 t661 t662 t663 _ A7.out).mono ?_); rintro e w10 ⟨rfl, hb⟩; refine ⟨_, rfl, ?_⟩; have n0_ := A_ (below_step (hb_ HB.out) hb); clear HB; have HB := n0_; clear n0_; (try clear hb); (try clear hb2); (try clear hk); (try clear hi)) | ((with_reducible refine gate_callee (f := 125) rfl ?_); refine gl_ (some 17) Try.func125 #[.int .i64 a0, .agg #[.bool t656, .int .i64 t657, .int .i64 t658, .int .u64 t659], .agg #[.bool t660, .int .i64 t661, .int .i64 t662, .int .u64 t663]] ?_; (with_reducible refine (product_parts.calls k a0 t656 t657 t658 t659 t660 t661 t662 t663 t664 _ A8.out).mono ?_); rintro e w11 ⟨rfl, hb⟩; refine ⟨_, rfl, ?_⟩; have n0_ := A_ (below_step (hb_ HB.out) hb); clear HB; have HB := n0_; clear n0_; (try clear hb); (try clear hb2); (try clear hk); (try clear hi)))
  go_ret
  exact ⟨er_, hb_ HB.out⟩
 ·replace c5 := Bool.eq_false_iff.mpr c5
  subst c5
  have H1 : (some 0) = some r := by rw [if_neg (show ¬ (false = true) by decide)] at H; exact H
  clear H;have H := H1;clear H1
  obtain rfl := Option.some.inj H
  go_enter Try.func54, Try.ntmps54
  go_wp2_with (first | ((with_reducible refine gate_callee (f := 124) rfl ?_); refine gl_ (some 8) Try.func124 #[.int .i64 a0] ?_; (with_reducible refine (product_known.calls a0 false _ A4.out).mono ?_); rintro e w' ⟨rfl, ⟨nd, rfl⟩⟩; refine ⟨_, rfl, ?_⟩))
  go_ret
  exact ⟨er_, hb_ HB.out⟩
end Go.Proofs.Ytgcgheilbngcoaa.PA
