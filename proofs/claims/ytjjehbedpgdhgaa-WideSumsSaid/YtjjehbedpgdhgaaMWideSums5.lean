/- What the Go functions that the statement WideSums reaches compute, and the mathematics on it, in the order in which one leans on the other; for every input. -/
import Derived.Test.YtjjehbedpgdhgaaVWideSums0
import Derived.Laws.BitsAllLaws
import Derived.Test.YtjjehbedpgdhgaaMWideSums0
import Derived.Test.YtjjehbedpgdhgaaMWideSums2
import Derived.Test.YtjjehbedpgdhgaaMWideSums3
import Derived.Test.YtjjehbedpgdhgaaMWideSums1
import Derived.Test.YtjjehbedpgdhgaaMWideSums4
import Derived.Test.YtjjehbedpgdhgaaRows
import Derived.ProofKit
import Derived.JoinedOf
import Derived.KernelRfl
namespace Bit
theorem or_pow (x c k : Nat) (hx : x < 2 ^ k) : x ||| c * 2 ^ k = x + c * 2 ^ k := by
  rw [Nat.mul_comm, Nat.or_comm, ← Nat.two_pow_add_eq_or_of_lt hx, Nat.add_comm]
end Bit
section
set_option linter.unusedVariables false
set_option linter.unusedSimpArgs false
namespace Go.Proofs.Ytjjehbedpgdhgaa.Th
open Go.RowKit Go.Proofs.YtjjehbedpgdhgaaW.PrintWords Go.Proofs.YtjjehbedpgdhgaaW.PrintLast Go.Proofs.YtjjehbedpgdhgaaW.PrintMore Go.Proofs.Ytjjehbedpgdhgaa.PA Bit
theorem wf_u64 {a : Int} (h : (Lit.int .u64 a).wf = true) : 0 ≤ a ∧ a < 18446744073709551616 := by
  simp [Lit.wf, IntKind.min, IntKind.max, IntKind.signed, IntKind.bits] at h; omega
theorem Ev.pos {α : Type} {c : Prop} [Decidable c] {f g : Nat → Option α} {r : α} (h : c) (k : Ev f r) : Ev (fun n => if c then f n else g n) r := Ev.congr (fun _ => if_pos h) k
theorem Ev.neg {α : Type} {c : Prop} [Decidable c] {f g : Nat → Option α} {r : α} (h : ¬ c) (k : Ev g r) : Ev (fun n => if c then f n else g n) r := Ev.congr (fun _ => if_neg h) k
theorem Ev.bs {α β : Type} {g : Option α} {a : α} {f : Nat → α → Option β} {r : β} (h : g = some a) (k : Ev (fun n => f n a) r) : Ev (fun n => g.bind (f n)) r := by subst h; exact k
theorem Ev.out {α : Type} {r s : α} (h : r = s) : Ev (fun _ => some r) s := by subst h; exact Ev.now _
theorem u64_id {n : Int} (h : 0 ≤ n) (h2 : n < 18446744073709551616) : IntKind.u64.wrap n = n := by rw [IntKind.wrap_u64]; omega
theorem w64_id {n : Int} (h : -9223372036854775808 ≤ n) (h2 : n < 9223372036854775808) : wrap64 n = n := by unfold wrap64; omega
end Go.Proofs.Ytjjehbedpgdhgaa.Th
end
namespace Dig
def dgB (B n : Nat) : List Int := if _h : n = 0 ∨ B < 2 then [] else ((n % B : Nat) : Int) :: dgB B (n / B)
termination_by n
decreasing_by exact Nat.div_lt_self (by omega) (by omega)
def valB (B : Nat) : List Int → Nat
  | [] => 0
  | d :: l => d.toNat + B * valB B l
def OkB (B : Nat) (l : List Int) : Prop := ∀ d ∈ l, 0 ≤ d ∧ d < B
section
variable {B : Nat}
theorem dgB_zero : dgB B 0 = [] := by rw [dgB, dif_pos (.inl rfl)]
theorem dgB_pos (hB : 2 ≤ B) {n : Nat} (h : 0 < n) : dgB B n = ((n % B : Nat) : Int) :: dgB B (n / B) := by rw [dgB, dif_neg (by omega)]
theorem OkB.nil : OkB B [] := fun _ h => by cases h
theorem OkB.cons {d : Int} {l : List Int} (h : 0 ≤ d ∧ d < B) (k : OkB B l) : OkB B (d :: l) := fun x hx => by
  rcases List.mem_cons.1 hx with rfl | hx
  · exact h
  · exact k x hx
theorem OkB.snoc {d : Int} {l : List Int} (k : OkB B l) (h : 0 ≤ d ∧ d < B) : OkB B (l ++ [d]) := fun x hx => by
  rcases List.mem_append.1 hx with hx | hx
  · exact k x hx
  · rcases List.mem_singleton.1 hx with rfl; exact h
theorem OkB.head {d : Int} {l : List Int} (k : OkB B (d :: l)) : 0 ≤ d ∧ d < B := k d List.mem_cons_self
theorem OkB.tail {d : Int} {l : List Int} (k : OkB B (d :: l)) : OkB B l := fun x hx => k x (List.mem_cons_of_mem _ hx)
theorem OkB.take {l : List Int} (k : OkB B l) (i : Nat) : OkB B (l.take i) := fun x hx => k x (List.mem_of_mem_take hx)
theorem okB_dg (hB : 2 ≤ B) (n : Nat) : OkB B (dgB B n) := by
  induction n using Nat.strongRecOn with
  | _ n ih =>
    rcases Nat.eq_zero_or_pos n with h | h
    · subst h; rw [dgB_zero]; exact OkB.nil
    · rw [dgB_pos hB h]
      refine OkB.cons ⟨by omega, ?_⟩ (ih _ (Nat.div_lt_self h (by omega)))
      have := Nat.mod_lt n (show 0 < B by omega)
      omega
theorem valB_dg (hB : 2 ≤ B) (n : Nat) : valB B (dgB B n) = n := by
  induction n using Nat.strongRecOn with
  | _ n ih =>
    rcases Nat.eq_zero_or_pos n with h | h
    · subst h; rw [dgB_zero]; rfl
    · rw [dgB_pos hB h, valB, ih _ (Nat.div_lt_self h (by omega)), Int.toNat_natCast]
      exact Nat.mod_add_div n B
theorem valB_append (l m : List Int) : valB B (l ++ m) = valB B l + B ^ l.length * valB B m := by
  induction l with
  | nil => simp [valB]
  | cons d l ih =>
    simp only [List.cons_append, valB, ih, List.length_cons, Nat.pow_succ, Nat.mul_add]
    rw [Nat.add_assoc, Nat.mul_comm (B ^ l.length) B, Nat.mul_assoc]
theorem valB_snoc (l : List Int) (d : Int) : valB B (l ++ [d]) = valB B l + B ^ l.length * d.toNat := by rw [valB_append]; simp [valB]
theorem valB_lt {l : List Int} (h : OkB B l) : valB B l < B ^ l.length := by
  induction l with
  | nil => simp [valB]
  | cons d l ih =>
    have h1 := ih h.tail
    have h2 := h.head
    simp only [valB, List.length_cons, Nat.pow_succ]
    have h4 : B * (valB B l + 1) ≤ B * B ^ l.length := Nat.mul_le_mul_left _ h1
    rw [Nat.mul_add, Nat.mul_one, Nat.mul_comm B (B ^ l.length)] at h4
    have : d.toNat < B := by omega
    omega
theorem valB_zeros (n : Nat) : valB B (List.replicate n 0) = 0 := by
  induction n with
  | zero => rfl
  | succ n ih => rw [List.replicate_succ, valB, ih]; simp
theorem okB_zeros (hB : 2 ≤ B) (n : Nat) : OkB B (List.replicate n 0) := fun x hx => by
  rw [List.eq_of_mem_replicate hx]; omega
theorem atB_val (hB : 2 ≤ B) {l : List Int} (h : OkB B l) (i : Nat) : (l.getD i 0).toNat = valB B l / B ^ i % B := by
  induction l generalizing i with
  | nil => simp [valB]
  | cons d l ih =>
    have h2 := h.head
    have h3 : d.toNat < B := by omega
    cases i with
    | zero =>
      simp only [List.getD_cons_zero, valB, Nat.pow_zero, Nat.div_one, Nat.add_mul_mod_self_left]
      rw [Nat.mod_eq_of_lt h3]
    | succ i =>
      simp only [List.getD_cons_succ, valB]
      rw [ih h.tail, Nat.pow_succ, Nat.mul_comm (B ^ i) B, ← Nat.div_div_eq_div_mul, Nat.add_mul_div_left _ _ (show 0 < B by omega), Nat.div_eq_of_lt h3, Nat.zero_add]
theorem okB_getD (hB : 2 ≤ B) {l : List Int} (h : OkB B l) (i : Nat) : 0 ≤ l.getD i 0 ∧ l.getD i 0 < B := by
  rcases Nat.lt_or_ge i l.length with hi | hi
  · rw [List.getD_eq_getElem?_getD, List.getElem?_eq_getElem hi]; exact h _ (List.getElem_mem hi)
  · rw [List.getD_eq_getElem?_getD, List.getElem?_eq_none hi]; simp; omega
theorem getDB_val (hB : 2 ≤ B) {l : List Int} (h : OkB B l) (i : Nat) : l.getD i 0 = ((valB B l / B ^ i % B : Nat) : Int) := by
  have h1 := atB_val hB h i
  have h2 := okB_getD hB h i
  rw [← h1]; omega
theorem lengthB_le (hB : 2 ≤ B) {n k : Nat} (h : n < B ^ k) : (dgB B n).length ≤ k := by
  induction k generalizing n with
  | zero => obtain rfl : n = 0 := by simpa using h
            rw [dgB_zero]; simp
  | succ k ih =>
    rcases Nat.eq_zero_or_pos n with h0 | h0
    · subst h0; rw [dgB_zero]; simp
    · rw [dgB_pos hB h0, List.length_cons]
      have : n / B < B ^ k := by rw [Nat.div_lt_iff_lt_mul (by omega)]; rwa [Nat.pow_succ] at h
      have := ih this
      omega
theorem dgB_val (hB : 2 ≤ B) {l : List Int} (h : OkB B l) (h0 : ∀ d, l.getLast? = some d → d ≠ 0) : dgB B (valB B l) = l := by
  induction l with
  | nil => rw [valB, dgB_zero]
  | cons d l ih =>
    have h2 := h.head
    have h4 : d.toNat < B := by omega
    have h3 : dgB B (valB B l) = l := by
      refine ih h.tail fun e he => ?_
      cases l with
      | nil => cases he
      | cons e' l' => exact h0 e (by rwa [List.getLast?_cons_cons])
    have hp : 0 < valB B (d :: l) := by
      rw [valB]
      rcases Nat.eq_zero_or_pos (valB B l) with hv | hv
      · rw [hv, dgB_zero] at h3
        subst h3
        have := h0 d rfl
        omega
      · have : 1 ≤ B * valB B l := Nat.mul_pos (by omega) hv
        omega
    rw [dgB_pos hB hp, valB, Nat.add_mul_mod_self_left, Nat.add_mul_div_left _ _ (by omega), Nat.mod_eq_of_lt h4, Nat.div_eq_of_lt h4, Nat.zero_add, h3, Int.toNat_of_nonneg h2.1]
theorem valB_take (hB : 2 ≤ B) {l : List Int} (h : OkB B l) (i : Nat) : valB B (l.take i) = valB B l % B ^ i := by
  rcases Nat.lt_or_ge i l.length with hi | hi
  · have h1 : valB B l = valB B (l.take i) + B ^ (l.take i).length * valB B (l.drop i) := by rw [← valB_append, List.take_append_drop]
    have h2 := valB_lt (h.take i)
    rw [List.length_take, Nat.min_eq_left (by omega)] at h1 h2
    rw [h1, Nat.add_mul_mod_self_left, Nat.mod_eq_of_lt h2]
  · rw [List.take_of_length_le hi, Nat.mod_eq_of_lt]
    exact Nat.lt_of_lt_of_le (valB_lt h) (Nat.pow_le_pow_right (by omega) hi)
theorem valB_set {l : List Int} (h : OkB B l) (i : Nat) (hi : i < l.length) (x : Int) : valB B (l.set i x) + B ^ i * (l.getD i 0).toNat = valB B l + B ^ i * x.toNat := by
  induction l generalizing i with
  | nil => simp at hi
  | cons d l ih =>
    cases i with
    | zero => simp only [List.set_cons_zero, valB, Nat.pow_zero, List.getD_cons_zero, Nat.one_mul]; omega
    | succ i =>
      have h1 := ih h.tail i (by simpa using hi)
      simp only [List.set_cons_succ, valB, List.getD_cons_succ, Nat.pow_succ]
      have h2 := congrArg (B * ·) h1
      simp only [Nat.mul_add] at h2
      rw [Nat.mul_comm (B ^ i) B, Nat.mul_assoc, Nat.mul_assoc]
      omega
theorem okB_set {l : List Int} (h : OkB B l) (i : Nat) (x : Int) (hx : 0 ≤ x ∧ x < B) : OkB B (l.set i x) := fun y hy => by
  rcases List.mem_or_eq_of_mem_set hy with hy | rfl
  · exact h y hy
  · exact hx
theorem modB_succ (n i : Nat) : n % B ^ (i + 1) = n % B ^ i + B ^ i * (n / B ^ i % B) := by
  rw [Nat.pow_succ, Nat.mod_mul]
theorem divB_step (n i : Nat) : n / B ^ i = n / B ^ (i + 1) * B + n / B ^ i % B := by
  rw [Nat.pow_succ, ← Nat.div_div_eq_div_mul]
  have := Nat.div_add_mod (n / B ^ i) B
  rw [Nat.mul_comm] at this
  omega
end
theorem W2 : 2 ≤ 4294967296 := by decide
def dg (n : Nat) : List Int := dgB 4294967296 n
def val (l : List Int) : Nat := valB 4294967296 l
def Ok (l : List Int) : Prop := ∀ d ∈ l, 0 ≤ d ∧ d < 4294967296
theorem Ok.nil : Ok [] := fun _ h => by cases h
theorem Ok.cons {d : Int} {l : List Int} (h : 0 ≤ d ∧ d < 4294967296) (k : Ok l) : Ok (d :: l) := OkB.cons (B := 4294967296) h k
theorem Ok.snoc {d : Int} {l : List Int} (k : Ok l) (h : 0 ≤ d ∧ d < 4294967296) : Ok (l ++ [d]) := OkB.snoc (B := 4294967296) k h
theorem Ok.take {l : List Int} (k : Ok l) (i : Nat) : Ok (l.take i) := OkB.take (B := 4294967296) k i
theorem ok_set {l : List Int} (h : Ok l) (i : Nat) (x : Int) (hx : 0 ≤ x ∧ x < 4294967296) : Ok (l.set i x) := okB_set (B := 4294967296) h i x hx
theorem ok_zeros (n : Nat) : Ok (List.replicate n 0) := okB_zeros W2 n
theorem ok_dg (n : Nat) : Ok (dg n) := okB_dg W2 n
theorem dg_zero : dg 0 = [] := dgB_zero
theorem val_dg (n : Nat) : val (dg n) = n := valB_dg W2 n
theorem val_nil : val [] = 0 := rfl
theorem val_cons (d : Int) (l : List Int) : val (d :: l) = d.toNat + 4294967296 * val l := rfl
theorem val_snoc (l : List Int) (d : Int) : val (l ++ [d]) = val l + 4294967296 ^ l.length * d.toNat := valB_snoc l d
theorem val_lt {l : List Int} (h : Ok l) : val l < 4294967296 ^ l.length := valB_lt h
theorem val_zeros (n : Nat) : val (List.replicate n 0) = 0 := valB_zeros n
theorem val_take {l : List Int} (h : Ok l) (i : Nat) : val (l.take i) = val l % 4294967296 ^ i := valB_take W2 h i
theorem val_set {l : List Int} (h : Ok l) (i : Nat) (hi : i < l.length) (x : Int) : val (l.set i x) + 4294967296 ^ i * (l.getD i 0).toNat = val l + 4294967296 ^ i * x.toNat := valB_set h i hi x
theorem dg_val {l : List Int} (h : Ok l) (h0 : ∀ d, l.getLast? = some d → d ≠ 0) : dg (val l) = l := dgB_val W2 h h0
theorem getD_val {l : List Int} (h : Ok l) (i : Nat) : l.getD i 0 = ((val l / 4294967296 ^ i % 4294967296 : Nat) : Int) := getDB_val W2 h i
theorem getD_dg (n i : Nat) : (dg n).getD i 0 = ((n / 4294967296 ^ i % 4294967296 : Nat) : Int) := by rw [getD_val (ok_dg n), val_dg]
theorem len_le {n k : Nat} (h : n < 4294967296 ^ k) : (dg n).length ≤ k := lengthB_le W2 h
theorem lt_len (n : Nat) : n < 4294967296 ^ (dg n).length := by
  have := val_lt (ok_dg n); rwa [val_dg] at this
theorem lt_of_len {n i : Nat} (h : (dg n).length ≤ i) : n < 4294967296 ^ i := Nat.lt_of_lt_of_le (lt_len n) (Nat.pow_le_pow_right (by decide) h)
theorem len_pos {n : Nat} : 0 < (dg n).length ↔ 0 < n := by
  rcases Nat.eq_zero_or_pos n with h | h
  · subst h; rw [dg_zero]; simp
  · unfold dg; rw [dgB_pos W2 h]; simp [h]
theorem mod_len {n i : Nat} (h : (dg n).length ≤ i) : n % 4294967296 ^ i = n := Nat.mod_eq_of_lt (lt_of_len h)
theorem mod_succ (n i : Nat) : n % 4294967296 ^ (i + 1) = n % 4294967296 ^ i + 4294967296 ^ i * (n / 4294967296 ^ i % 4294967296) := modB_succ n i
theorem div_step (n i : Nat) : n / 4294967296 ^ i = n / 4294967296 ^ (i + 1) * 4294967296 + n / 4294967296 ^ i % 4294967296 := divB_step n i
theorem word_lt (n i : Nat) : n / 4294967296 ^ i % 4294967296 < 4294967296 := Nat.mod_lt _ (by decide)
end Dig
section
set_option linter.unusedVariables false
set_option linter.unusedSimpArgs false
namespace Go.Proofs.Ytjjehbedpgdhgaa.Th
open Go.RowKit Go.Proofs.YtjjehbedpgdhgaaW.PrintWords Go.Proofs.YtjjehbedpgdhgaaW.PrintLast Go.Proofs.YtjjehbedpgdhgaaW.PrintMore Go.Proofs.Ytjjehbedpgdhgaa.PA Dig

theorem at_dg (n i : Nat) : r1_at.f (dg n) i = some ((n / 4294967296 ^ i % 4294967296 : Nat) : Int) := by
  unfold r1_at.f
  by_cases h : (i : Int) < ((dg n).length : Int)
  · rw [if_pos h, if_pos (by omega)]
    unfold rd
    rw [Int.toNat_natCast, getD_dg]
  · rw [if_neg h]
    have h1 : n / 4294967296 ^ i = 0 := by
      refine Nat.div_eq_of_lt ?_
      have h1 := val_lt (ok_dg n)
      rw [val_dg] at h1
      exact Nat.lt_of_lt_of_le h1 (Nat.pow_le_pow_right (by decide) (by omega))
    rw [h1]; rfl
theorem trim_from (l : List Int) (hl : Ok l) (hn : l.length < 4611686018427387904) (i : Nat) : i ≤ l.length → val (l.take i) = val l → Ev (fun k => r1_trim.l0 k l i) (dg (val l)) := by
  induction i with
  | zero =>
    intro _ hv
    refine Ev.step (fun _ => r1_trim.l0.eq_2 ..) ?_
    refine Ev.neg (by omega) (Ev.pos (by omega) (Ev.pos (by omega) (Ev.out ?_)))
    rw [← hv]
    simp [val_nil, dg_zero]
  | succ i ih =>
    intro hi hv
    refine Ev.step (fun _ => r1_trim.l0.eq_2 ..) ?_
    have e : wrap64 (((i + 1 : Nat) : Int) - 1) = i := by rw [w64_id (by omega) (by omega)]; omega
    rw [e]
    refine Ev.pos (by omega) (Ev.pos (by omega) (Ev.pos (by omega) ?_))
    have er : rd l (i : Int) = l.getD i 0 := by unfold rd; rw [Int.toNat_natCast]
    rw [er]
    have et : l.take (i + 1) = l.take i ++ [l.getD i 0] := by
      rw [List.take_succ_eq_append_getElem (by omega), List.getD_eq_getElem?_getD, List.getElem?_eq_getElem (by omega)]; rfl
    by_cases h : l.getD i 0 = 0
    · refine Ev.pos h (ih (by omega) ?_)
      rw [et, val_snoc, h] at hv
      simpa using hv
    · refine Ev.neg h (Ev.pos (by omega) (Ev.pos (by omega) (Ev.out ?_)))
      rw [← hv, Int.toNat_natCast]
      refine (dg_val (hl.take _) fun d hd => ?_).symm
      rw [et, List.getLast?_concat] at hd
      injection hd with hd
      rw [← hd]; exact h
theorem trim_val (l : List Int) (hl : Ok l) (hn : l.length < 4611686018427387904) : Ev (fun k => r1_trim.f k l) (dg (val l)) :=
  trim_from l hl hn l.length (Nat.le_refl _) (by rw [List.take_length])

theorem of_dg (n : Nat) (hn : n < 18446744073709551616) : Ev (fun k => r1_Of.f k n) (dg n) := by
  unfold r1_Of.f
  have e1 : Int.tmod (n : Int) 4294967296 = ((n % 4294967296 : Nat) : Int) := by rw [Int.tmod_eq_emod_of_nonneg (by omega)]; omega
  have e2 : IntKind.u64.wrap (Int.tdiv (n : Int) 4294967296) = ((n / 4294967296 : Nat) : Int) := by
    rw [Int.tdiv_eq_ediv_of_nonneg (by omega), u64_id (by omega) (by omega)]; omega
  rw [e1, e2]
  refine Ev.bind (trim_val _ (Ok.cons (by omega) (Ok.cons (by omega) Ok.nil)) (by simp)) (Ev.out ?_)
  congr 1
  simp only [val_cons, val_nil, Int.toNat_natCast]
  omega

theorem add_loop (m n : Nat) (hm : (dg m).length < 1000000000000) (hn : (dg n).length < 1000000000000) (d : Nat) : ∀ (x : List Int) (c i : Nat), Ok x → x.length = i → c ≤ 1 → i ≤ max (dg m).length (dg n).length + 1 →
    val x + c * 4294967296 ^ i = m % 4294967296 ^ i + n % 4294967296 ^ i → max (dg m).length (dg n).length + 1 - i = d →
    Ev (fun k => r1_Add.l0 k x c i (dg m) (dg n)) (dg (m + n)) := by
  induction d with
  | zero =>
    intro x c i hx hl hc hi hv hd
    have h1 := mod_len (n := m) (i := i) (by omega)
    have h2 := mod_len (n := n) (i := i) (by omega)
    rw [h1, h2] at hv
    refine Ev.step (fun _ => r1_Add.l0.eq_2 ..) ?_
    have hm' : m < 4294967296 ^ (i - 1) := by
      have h1 := val_lt (ok_dg m)
      rw [val_dg] at h1
      exact Nat.lt_of_lt_of_le h1 (Nat.pow_le_pow_right (by decide) (by omega))
    have hn' : n < 4294967296 ^ (i - 1) := by
      have h1 := val_lt (ok_dg n)
      rw [val_dg] at h1
      exact Nat.lt_of_lt_of_le h1 (Nat.pow_le_pow_right (by decide) (by omega))
    have e : 4294967296 ^ i = 4294967296 ^ (i - 1) * 4294967296 := by rw [← Nat.pow_succ]; congr 1; omega
    have hc0 : c = 0 := by
      rcases Nat.eq_zero_or_pos c with h | h
      · exact h
      · obtain rfl : c = 1 := by omega
        rw [e] at hv
        omega
    subst hc0
    have hmx : mx ((dg m).length : Int) ((dg n).length : Int) = ((max (dg m).length (dg n).length : Nat) : Int) := by unfold mx; split <;> omega
    rw [hmx]
    refine Ev.neg (by omega) ?_
    refine Ev.step (fun _ => r1_Add.j1.eq_2 ..) ?_
    refine Ev.neg (by simp) (Ev.bind (trim_val x hx (by omega)) (Ev.out ?_))
    congr 1
    omega
  | succ d ih =>
    intro x c i hx hl hc hi hv hd
    refine Ev.step (fun _ => r1_Add.l0.eq_2 ..) ?_
    have hmx : mx ((dg m).length : Int) ((dg n).length : Int) = ((max (dg m).length (dg n).length : Nat) : Int) := by unfold mx; split <;> omega
    rw [hmx]
    -- the round
    have round : Ev (fun k => r1_Add.j1 k x c i true (dg m) (dg n)) (dg (m + n)) := by
      refine Ev.step (fun _ => r1_Add.j1.eq_2 ..) ?_
      refine Ev.pos rfl (Ev.bs (at_dg m i) (Ev.bs (at_dg n i) (Ev.pos (by omega) ?_)))
      have h1 := word_lt m i
      have h2 := word_lt n i
      have s1 := mod_succ m i
      have s2 := mod_succ n i
      generalize m / 4294967296 ^ i % 4294967296 = A at *
      generalize n / 4294967296 ^ i % 4294967296 = A' at *
      rw [u64_id (n := (A : Int) + A') (by omega) (by omega), u64_id (by omega) (by omega), Int.tmod_eq_emod_of_nonneg (by omega), Int.tdiv_eq_ediv_of_nonneg (by omega), u64_id (by omega) (by omega), w64_id (by omega) (by omega)]
      rw [show ((A : Int) + A' + c) % 4294967296 = (((A + A' + c) % 4294967296 : Nat) : Int) by omega, show ((A : Int) + A' + c) / 4294967296 = (((A + A' + c) / 4294967296 : Nat) : Int) by omega, show (i : Int) + 1 = ((i + 1 : Nat) : Int) by omega]
      refine ih (x ++ [(((A + A' + c) % 4294967296 : Nat) : Int)]) ((A + A' + c) / 4294967296) (i + 1) (hx.snoc (by omega)) (by simp [hl]) (by omega) (by omega) ?_ (by omega)
      rw [val_snoc, hl, s1, s2, Int.toNat_natCast, Nat.pow_succ]
      have h4 : 4294967296 ^ i * ((A + A' + c) % 4294967296) + (A + A' + c) / 4294967296 * (4294967296 ^ i * 4294967296) = 4294967296 ^ i * A + 4294967296 ^ i * A' + c * 4294967296 ^ i := by
        have h5 := Nat.mod_add_div (A + A' + c) 4294967296
        have h6 := congrArg (4294967296 ^ i * ·) h5
        simp only [Nat.mul_add] at h6
        rw [Nat.mul_comm c, ← h6]
        congr 1
        rw [Nat.mul_comm ((A + A' + c) / 4294967296), Nat.mul_assoc]
      omega
    by_cases h : (i : Int) < ((max (dg m).length (dg n).length : Nat) : Int)
    · exact Ev.pos h round
    · refine Ev.neg h ?_
      by_cases h0 : c = 0
      · subst h0
        have h1 := mod_len (n := m) (i := i) (by omega)
        have h2 := mod_len (n := n) (i := i) (by omega)
        rw [h1, h2] at hv
        refine Ev.step (fun _ => r1_Add.j1.eq_2 ..) ?_
        refine Ev.neg (by simp) (Ev.bind (trim_val x hx (by omega)) (Ev.out ?_))
        congr 1
        omega
      · have : decide ((c : Int) > 0) = true := by simp; omega
        rw [this]; exact round
theorem add_dg (m n : Nat) (hm : (dg m).length < 1000000000000) (hn : (dg n).length < 1000000000000) : Ev (fun k => r1_Add.f k (dg m) (dg n)) (dg (m + n)) := by
  have h := add_loop m n hm hn _ [] 0 0 Ok.nil rfl (by omega) (by omega) (by simp [val_nil, Nat.mod_one]) rfl
  exact h

theorem sub_loop (m n : Nat) (hmn : n ≤ m) (hm : (dg m).length < 1000000000000) (d : Nat) : ∀ (x : List Int) (c i : Nat), Ok x → x.length = i → c ≤ 1 → i ≤ (dg m).length →
    val x + n % 4294967296 ^ i = m % 4294967296 ^ i + c * 4294967296 ^ i → (dg m).length - i = d →
    Ev (fun k => r1_Sub.l0 k x c i (dg m) (dg n)) (dg (m - n)) := by
  induction d with
  | zero =>
    intro x c i hx hl hc hi hv hd
    have h1 := mod_len (n := m) (i := i) (by omega)
    have h2 : n % 4294967296 ^ i = n := Nat.mod_eq_of_lt (Nat.lt_of_le_of_lt hmn (lt_of_len (by omega)))
    rw [h1, h2] at hv
    have h3 := val_lt hx
    rw [hl] at h3
    have h4 := lt_of_len (n := m) (i := i) (by omega)
    refine Ev.step (fun _ => r1_Sub.l0.eq_2 ..) ?_
    refine Ev.neg (by omega) (Ev.bind (trim_val x hx (by omega)) (Ev.out ?_))
    congr 1
    rcases Nat.eq_zero_or_pos c with h | h
    · subst h; omega
    · obtain rfl : c = 1 := by omega
      omega
  | succ d ih =>
    intro x c i hx hl hc hi hv hd
    refine Ev.step (fun _ => r1_Sub.l0.eq_2 ..) ?_
    have er : rd (dg m) (i : Int) = ((m / 4294967296 ^ i % 4294967296 : Nat) : Int) := by unfold rd; rw [Int.toNat_natCast, getD_dg]
    refine Ev.pos (by omega) (Ev.pos (by omega) (Ev.bs (at_dg n i) (Ev.pos (by omega) ?_)))
    rw [er]
    have h1 := word_lt m i
    have h2 := word_lt n i
    have s1 := mod_succ m i
    have s2 := mod_succ n i
    generalize m / 4294967296 ^ i % 4294967296 = A at *
    generalize n / 4294967296 ^ i % 4294967296 = A' at *
    rw [u64_id (n := (A : Int) + 4294967296) (by omega) (by omega), u64_id (n := (A : Int) + 4294967296 - A') (by omega) (by omega), u64_id (n := (A : Int) + 4294967296 - A' - c) (by omega) (by omega), Int.tmod_eq_emod_of_nonneg (by omega), Int.tdiv_eq_ediv_of_nonneg (by omega),
      u64_id (n := ((A : Int) + 4294967296 - A' - c) / 4294967296) (by omega) (by omega), u64_id (by omega) (by omega), w64_id (by omega) (by omega)]
    rw [show ((A : Int) + 4294967296 - A' - c) % 4294967296 = (((A + 4294967296 - A' - c) % 4294967296 : Nat) : Int) by omega, show 1 - ((A : Int) + 4294967296 - A' - c) / 4294967296 = ((1 - (A + 4294967296 - A' - c) / 4294967296 : Nat) : Int) by omega, show (i : Int) + 1 = ((i + 1 : Nat) : Int) by omega]
    refine ih (x ++ [(((A + 4294967296 - A' - c) % 4294967296 : Nat) : Int)]) (1 - (A + 4294967296 - A' - c) / 4294967296) (i + 1) (hx.snoc (by omega)) (by simp [hl]) (by omega) (by omega) ?_ (by omega)
    rw [val_snoc, hl, s1, s2, Int.toNat_natCast, Nat.pow_succ]
    have h4 : c + (A + 4294967296 - A' - c) % 4294967296 + A' = A + 4294967296 * (1 - (A + 4294967296 - A' - c) / 4294967296) := by omega
    have h5 := congrArg (4294967296 ^ i * ·) h4
    simp only [Nat.mul_add] at h5
    rw [Nat.mul_comm (1 - _), Nat.mul_assoc]
    rw [Nat.mul_comm c] at hv
    omega
theorem sub_dg (m n : Nat) (hmn : n ≤ m) (hm : (dg m).length < 1000000000000) : Ev (fun k => r1_Sub.f k (dg m) (dg n)) (dg (m - n)) :=
  sub_loop m n hmn hm _ [] 0 0 Ok.nil rfl (by omega) (by omega) (by simp [val_nil, Nat.mod_one]) rfl

theorem shl_l2 (m q u : Nat) (hq : q < 1000000000) (hu : u ≤ 2147483648) (hu0 : 0 < u) (hm : (dg m).length < 1000000000000) (d : Nat) : ∀ (x : List Int) (c i : Nat), Ok x → x.length = q + i → c < u → i ≤ (dg m).length →
    val x + c * 4294967296 ^ (q + i) = (m % 4294967296 ^ i) * u * 4294967296 ^ q → (dg m).length - i = d →
    Ev (fun k => r1_Shl.l2 k x u c i (dg m)) (dg (m * u * 4294967296 ^ q)) := by
  induction d with
  | zero =>
    intro x c i hx hl hc hi hv hd
    have h1 := mod_len (n := m) (i := i) (by omega)
    rw [h1] at hv
    refine Ev.step (fun _ => r1_Shl.l2.eq_2 ..) ?_
    refine Ev.neg (by omega) (Ev.pos (by omega) (Ev.bind (trim_val _ (hx.snoc (by omega)) (by simp; omega)) (Ev.out ?_)))
    congr 1
    rw [val_snoc, hl, Int.toNat_natCast, Nat.mul_comm _ c]
    exact hv
  | succ d ih =>
    intro x c i hx hl hc hi hv hd
    refine Ev.step (fun _ => r1_Shl.l2.eq_2 ..) ?_
    have er : rd (dg m) (i : Int) = ((m / 4294967296 ^ i % 4294967296 : Nat) : Int) := by unfold rd; rw [Int.toNat_natCast, getD_dg]
    refine Ev.pos (by omega) (Ev.pos (by omega) (Ev.pos (by omega) ?_))
    rw [er]
    have h1 := word_lt m i
    have s1 := mod_succ m i
    generalize m / 4294967296 ^ i % 4294967296 = A at *
    have hau : A * u ≤ 4294967295 * u := Nat.mul_le_mul_right u (by omega)
    rw [← Int.natCast_mul, u64_id (n := ((A * u : Nat) : Int)) (by omega) (by omega), u64_id (by omega) (by omega), Int.tmod_eq_emod_of_nonneg (by omega), Int.tdiv_eq_ediv_of_nonneg (by omega), u64_id (by omega) (by omega), w64_id (by omega) (by omega)]
    rw [show (((A * u : Nat) : Int) + c) % 4294967296 = (((A * u + c) % 4294967296 : Nat) : Int) by omega, show (((A * u : Nat) : Int) + c) / 4294967296 = (((A * u + c) / 4294967296 : Nat) : Int) by omega, show (i : Int) + 1 = ((i + 1 : Nat) : Int) by omega]
    refine ih (x ++ [(((A * u + c) % 4294967296 : Nat) : Int)]) ((A * u + c) / 4294967296) (i + 1) (hx.snoc (by omega)) (by simp [hl]; omega) ?_ (by omega) ?_ (by omega)
    · rw [Nat.div_lt_iff_lt_mul (by decide)]; omega
    rw [val_snoc, hl, s1, Int.toNat_natCast, ← Nat.add_assoc, Nat.pow_succ]
    have h5 := Nat.mod_add_div (A * u + c) 4294967296
    have h6 := congrArg (4294967296 ^ (q + i) * ·) h5
    simp only [Nat.mul_add] at h6
    have h7 : 4294967296 ^ (q + i) * (A * u) = 4294967296 ^ i * A * u * 4294967296 ^ q := by
      rw [Nat.pow_add]; simp only [Nat.mul_comm, Nat.mul_left_comm, Nat.mul_assoc]
    have h8 : (m % 4294967296 ^ i + 4294967296 ^ i * A) * u * 4294967296 ^ q = (m % 4294967296 ^ i) * u * 4294967296 ^ q + 4294967296 ^ i * A * u * 4294967296 ^ q := by
      rw [Nat.add_mul, Nat.add_mul]
    rw [h8, ← h7, ← hv, Nat.mul_comm ((A * u + c) / 4294967296), Nat.mul_assoc, Nat.mul_comm c]
    omega
theorem shl_l1 (m n : Nat) (hn : n < 30000000000) (hm : (dg m).length < 1000000000000) (d : Nat) : ∀ (x : List Int) (j : Nat), Ok x → x.length = n / 32 → val x = 0 → j ≤ n % 32 → n % 32 - j = d →
    Ev (fun k => r1_Shl.l1 k n x (2 ^ j : Nat) j (dg m)) (dg (m * 2 ^ n)) := by
  have e : m * 2 ^ n = m * 2 ^ (n % 32) * 4294967296 ^ (n / 32) := by
    rw [show (4294967296 : Nat) = 2 ^ 32 by decide, ← Nat.pow_mul, Nat.mul_assoc, ← Nat.pow_add]
    congr 2; omega
  induction d with
  | zero =>
    intro x j hx hl hv hj hd
    obtain rfl : j = n % 32 := by omega
    refine Ev.step (fun _ => r1_Shl.l1.eq_2 ..) ?_
    rw [Int.tmod_eq_emod_of_nonneg (by omega)]
    refine Ev.neg (by omega) ?_
    rw [e]
    have hp : 2 ^ (n % 32) ≤ 2147483648 := by
      have : 2 ^ (n % 32) ≤ 2 ^ 31 := Nat.pow_le_pow_right (by decide) (by omega)
      simpa using this
    exact shl_l2 m (n / 32) (2 ^ (n % 32)) (by omega) hp (Nat.pow_pos (by decide)) hm _ x 0 0 hx (by simpa using hl) (Nat.pow_pos (by decide)) (by omega) (by simp [hv, Nat.mod_one]) rfl
  | succ d ih =>
    intro x j hx hl hv hj hd
    refine Ev.step (fun _ => r1_Shl.l1.eq_2 ..) ?_
    rw [Int.tmod_eq_emod_of_nonneg (by omega)]
    refine Ev.pos (by omega) ?_
    have hp : 2 ^ j ≤ 2147483648 := by
      have : 2 ^ j ≤ 2 ^ 31 := Nat.pow_le_pow_right (by decide) (by omega)
      simpa using this
    have h := ih x (j + 1) hx hl hv (by omega) (by omega)
    rw [Nat.pow_succ] at h
    generalize 2 ^ j = P at *
    rw [u64_id (by omega) (by omega), w64_id (by omega) (by omega)]
    rw [show (2 : Int) * (P : Int) = ((P * 2 : Nat) : Int) by omega, show (j : Int) + 1 = ((j + 1 : Nat) : Int) by omega]
    exact h
theorem shl_l0 (m n : Nat) (hn : n < 30000000000) (hm : (dg m).length < 1000000000000) (d : Nat) : ∀ (i : Nat), i ≤ n / 32 → n / 32 - i = d →
    Ev (fun k => r1_Shl.l0 k n (List.replicate i 0) i (dg m)) (dg (m * 2 ^ n)) := by
  induction d with
  | zero =>
    intro i hi hd
    refine Ev.step (fun _ => r1_Shl.l0.eq_2 ..) ?_
    rw [Int.tdiv_eq_ediv_of_nonneg (by omega), w64_id (by omega) (by omega)]
    refine Ev.neg (by omega) ?_
    exact shl_l1 m n hn hm _ _ 0 (ok_zeros _) (by simp; omega) (val_zeros _) (by omega) rfl
  | succ d ih =>
    intro i hi hd
    refine Ev.step (fun _ => r1_Shl.l0.eq_2 ..) ?_
    rw [Int.tdiv_eq_ediv_of_nonneg (by omega), w64_id (n := (n : Int) / 32) (by omega) (by omega), w64_id (by omega) (by omega)]
    refine Ev.pos (by omega) (Ev.pos (by simp; omega) ?_)
    have h := ih (i + 1) (by omega) (by omega)
    rw [← List.replicate_succ', show (i : Int) + 1 = ((i + 1 : Nat) : Int) by omega]
    exact h
theorem shl_dg (m n : Nat) (hn : n < 30000000000) (hm : (dg m).length < 1000000000000) : Ev (fun k => r1_Shl.f k (dg m) n) (dg (m * 2 ^ n)) :=
  shl_l0 m n hn hm _ 0 (by omega) rfl

def cmpN (m n : Nat) : Int := if m < n then -1 else if n < m then 1 else 0
theorem div_lt_of {m n p : Nat} (hp : 0 < p) (h : m / p < n / p) : m < n := by
  rcases Nat.lt_or_ge m n with h1 | h1
  · exact h1
  · have := Nat.div_le_div_right (c := p) h1; omega
theorem cmp_loop (m n : Nat) (i : Nat) : i < 1000000000000 → m / 4294967296 ^ i = n / 4294967296 ^ i → Ev (fun k => r1_Cmp.l0 k ((i : Int) - 1) (dg m) (dg n)) (cmpN m n) := by
  induction i with
  | zero =>
    intro hi h
    simp at h
    subst h
    refine Ev.step (fun _ => r1_Cmp.l0.eq_2 ..) ?_
    refine Ev.neg (by omega) (Ev.out ?_)
    simp [cmpN]
  | succ i ih =>
    intro hi h
    refine Ev.step (fun _ => r1_Cmp.l0.eq_2 ..) ?_
    rw [show ((i + 1 : Nat) : Int) - 1 = i by omega]
    refine Ev.pos (by omega) (Ev.bs (at_dg m i) (Ev.bs (at_dg n i) ?_))
    have s1 := div_step m i
    have s2 := div_step n i
    rw [h] at s1
    have hp : 0 < 4294967296 ^ i := Nat.pow_pos (by decide)
    by_cases h1 : m / 4294967296 ^ i % 4294967296 < n / 4294967296 ^ i % 4294967296
    · refine Ev.pos (Int.ofNat_lt.2 h1) (Ev.out ?_)
      rw [cmpN, if_pos (div_lt_of hp (by omega))]
    · refine Ev.neg (fun h' => h1 (Int.ofNat_lt.1 h')) ?_
      by_cases h2 : n / 4294967296 ^ i % 4294967296 < m / 4294967296 ^ i % 4294967296
      · refine Ev.pos (Int.ofNat_lt.2 h2) (Ev.out ?_)
        have := div_lt_of hp (show n / 4294967296 ^ i < m / 4294967296 ^ i by omega)
        rw [cmpN, if_neg (by omega), if_pos this]
      · refine Ev.neg (fun h' => h2 (Int.ofNat_lt.1 h')) ?_
        rw [w64_id (by omega) (by omega)]
        exact ih (by omega) (by omega)
theorem cmp_dg (m n : Nat) (hm : (dg m).length < 100000000000) (hn : (dg n).length < 100000000000) : Ev (fun k => r1_Cmp.f k (dg m) (dg n)) (cmpN m n) := by
  unfold r1_Cmp.f
  have hmx : mx ((dg m).length : Int) ((dg n).length : Int) = ((max (dg m).length (dg n).length : Nat) : Int) := by unfold mx; split <;> omega
  rw [hmx, w64_id (by omega) (by omega)]
  refine cmp_loop m n _ (by omega) ?_
  rw [Nat.div_eq_of_lt (lt_of_len (by omega)), Nat.div_eq_of_lt (lt_of_len (by omega))]

theorem uint_dg (n : Nat) : r1_Uint.f (dg n) = some ((n % 18446744073709551616 : Nat) : Int) := by
  unfold r1_Uint.f
  have h0 := at_dg n 0
  have h1 := at_dg n 1
  rw [show ((0 : Nat) : Int) = 0 from rfl] at h0
  rw [show ((1 : Nat) : Int) = 1 from rfl] at h1
  rw [h1, Option.bind_some, h0, Option.bind_some]
  simp only [Nat.pow_zero, Nat.div_one, Nat.pow_one]
  rw [u64_id (n := ((n / 4294967296 % 4294967296 : Nat) : Int) * 4294967296) (by omega) (by omega), u64_id (by omega) (by omega)]
  congr 1
  omega

theorem mod_in (s : Nat) : 0 ≤ ((s % 4294967296 : Nat) : Int) ∧ ((s % 4294967296 : Nat) : Int) < 4294967296 := by omega
theorem mul_most (e A b c : Nat) (h1 : A < 4294967296) (h2 : b < 4294967296) (h3 : e < 4294967296) (h4 : c < 4294967296) : e + A * b + c < 18446744073709551616 := by
  have h5 : A * b ≤ 4294967295 * 4294967295 := Nat.mul_le_mul (by omega) (by omega)
  omega
theorem mul_carry (e A b c : Nat) (h1 : A < 4294967296) (h2 : b < 4294967296) (h3 : e < 4294967296) (h4 : c < 4294967296) : (e + A * b + c) / 4294967296 < 4294967296 := by
  have := mul_most e A b c h1 h2 h3 h4; omega
theorem mul_word0 (e A b c : Nat) (h1 : A < 4294967296) (h2 : b < 4294967296) (h3 : e < 4294967296) (h4 : c < 4294967296) :
    IntKind.u64.wrap ((IntKind.u64.wrap ((e : Int) + (IntKind.u64.wrap ((A : Int) * (b : Int))))) + (c : Int)) = ((e + A * b + c : Nat) : Int) := by
  have := mul_most e A b c h1 h2 h3 h4
  rw [← Int.natCast_mul]
  generalize A * b = p at *
  rw [u64_id (n := (p : Int)) (by omega) (by omega), u64_id (n := (e : Int) + _) (by omega) (by omega), u64_id (by omega) (by omega)]
  omega
theorem mul_word1 (e A b c : Nat) (h1 : A < 4294967296) (h2 : b < 4294967296) (h3 : e < 4294967296) (h4 : c < 4294967296) :
    Int.tmod (IntKind.u64.wrap ((IntKind.u64.wrap ((e : Int) + (IntKind.u64.wrap ((A : Int) * (b : Int))))) + (c : Int))) 4294967296 = (((e + A * b + c) % 4294967296 : Nat) : Int) := by
  rw [mul_word0 e A b c h1 h2 h3 h4]
  generalize e + A * b + c = s
  rw [Int.tmod_eq_emod_of_nonneg (by omega)]; omega
theorem mul_word2 (e A b c : Nat) (h1 : A < 4294967296) (h2 : b < 4294967296) (h3 : e < 4294967296) (h4 : c < 4294967296) :
    IntKind.u64.wrap (Int.tdiv (IntKind.u64.wrap ((IntKind.u64.wrap ((e : Int) + (IntKind.u64.wrap ((A : Int) * (b : Int))))) + (c : Int))) 4294967296) = (((e + A * b + c) / 4294967296 : Nat) : Int) := by
  rw [mul_word0 e A b c h1 h2 h3 h4]
  have := mul_most e A b c h1 h2 h3 h4
  generalize e + A * b + c = s at *
  rw [Int.tdiv_eq_ediv_of_nonneg (by omega), u64_id (by omega) (by omega)]; omega
theorem mul_arith (v v' A b n' n'' P P' c e r q V : Nat) (hP : P' = P * 4294967296) (h1 : v' + P * e = v + P * r) (h5 : r + 4294967296 * q = e + A * b + c) (st : n' = n'' * 4294967296 + b) (hv : v + c * P + A * n' * P = V) :
    v' + q * P' + A * n'' * P' = V := by
  subst hP st hv
  have h6 := congrArg (P * ·) h5
  simp only [Nat.mul_add, Nat.add_mul] at h6 ⊢
  have h7 : A * (n'' * 4294967296) * P = A * n'' * (P * 4294967296) := by simp only [Nat.mul_comm, Nat.mul_left_comm, Nat.mul_assoc]
  have h8 : A * b * P = P * (A * b) := Nat.mul_comm ..
  have h9 : q * (P * 4294967296) = P * (4294967296 * q) := by simp only [Nat.mul_comm, Nat.mul_left_comm, Nat.mul_assoc]
  have h10 : c * P = P * c := Nat.mul_comm ..
  omega
theorem val_set_at {l : List Int} (h : Ok l) (i : Nat) (hi : i < l.length) (s : Nat) : val (l.set i ((s : Nat) : Int)) + 4294967296 ^ i * (val l / 4294967296 ^ i % 4294967296) = val l + 4294967296 ^ i * s := by
  have h1 := val_set h i hi (s : Int)
  rw [getD_val h, Int.toNat_natCast, Int.toNat_natCast] at h1
  exact h1
theorem mul_inner (m n i : Nat) (hi : i < (dg m).length) (hm : (dg m).length < 1000000000) (hn : (dg n).length < 1000000000)
    (next : ∀ y : List Int, Ok y → y.length = (dg m).length + (dg n).length + 1 → val y = m % 4294967296 ^ (i + 1) * n → Ev (fun k => r1_Mul.l0 k y ((i + 1 : Nat) : Int) (dg m) (dg n)) (dg (m * n))) (d : Nat) :
    ∀ (x : List Int) (c t : Nat), Ok x → x.length = (dg m).length + (dg n).length + 1 → c < 4294967296 → t ≤ (dg n).length + 1 →
    val x + c * 4294967296 ^ (i + t) + (m / 4294967296 ^ i % 4294967296) * (n / 4294967296 ^ t) * 4294967296 ^ (i + t) = m % 4294967296 ^ (i + 1) * n → (dg n).length + 1 - t = d →
    Ev (fun k => r1_Mul.l1 k x i c t (dg m) (dg n)) (dg (m * n)) := by
  have er : rd (dg m) (i : Int) = ((m / 4294967296 ^ i % 4294967296 : Nat) : Int) := by unfold rd; rw [Int.toNat_natCast, getD_dg]
  have hbound : m % 4294967296 ^ (i + 1) * n < 4294967296 ^ (i + 1 + (dg n).length) := by
    rw [Nat.pow_add 4294967296 (i + 1)]
    have h1 : m % 4294967296 ^ (i + 1) < 4294967296 ^ (i + 1) := Nat.mod_lt _ (Nat.pow_pos (by decide))
    exact Nat.mul_lt_mul_of_lt_of_le h1 (Nat.le_of_lt (lt_len n)) (Nat.pow_pos (by decide))
  have carry0 : ∀ (x : List Int) (c t : Nat), val x + c * 4294967296 ^ (i + t) + (m / 4294967296 ^ i % 4294967296) * (n / 4294967296 ^ t) * 4294967296 ^ (i + t) = m % 4294967296 ^ (i + 1) * n → 0 < c → t < (dg n).length + 1 := by
    intro x c t hv hc
    have h1 : 4294967296 ^ (i + t) ≤ c * 4294967296 ^ (i + t) := Nat.le_mul_of_pos_left _ hc
    have h2 : 4294967296 ^ (i + t) < 4294967296 ^ (i + 1 + (dg n).length) := by omega
    have h3 := (Nat.pow_lt_pow_iff_right (show 1 < 4294967296 by decide)).1 h2
    omega
  have done : ∀ (x : List Int) (t : Nat), Ok x → x.length = (dg m).length + (dg n).length + 1 → (dg n).length ≤ t →
      val x + 0 * 4294967296 ^ (i + t) + (m / 4294967296 ^ i % 4294967296) * (n / 4294967296 ^ t) * 4294967296 ^ (i + t) = m % 4294967296 ^ (i + 1) * n → Ev (fun k => r1_Mul.l1 k x i ((0 : Nat) : Int) t (dg m) (dg n)) (dg (m * n)) := by
    intro x t hx hl ht hv
    refine Ev.step (fun _ => r1_Mul.l1.eq_2 ..) ?_
    refine Ev.neg (by omega) (Ev.neg (show ¬ (((0 : Nat) : Int) > 0) by omega) ?_)
    rw [w64_id (n := (i : Int) + 1) (by clear hv; omega) (by clear hv; omega), show (i : Int) + 1 = ((i + 1 : Nat) : Int) from rfl]
    refine next x hx hl ?_
    rw [Nat.div_eq_of_lt (a := n) (b := 4294967296 ^ t) (lt_of_len (by omega))] at hv
    simpa using hv
  induction d with
  | zero =>
    intro x c t hx hl hc ht hv hd
    have h0 : c = 0 := by
      rcases Nat.eq_zero_or_pos c with h | h
      · exact h
      · have := carry0 x c t hv h; omega
    subst h0
    exact done x t hx hl (by omega) hv
  | succ d ih =>
    intro x c t hx hl hc ht hv hd
    have a1 : t ≤ (dg n).length := by clear hv; omega
    have a2 : i + t < (dg m).length + (dg n).length + 1 := by clear hv; omega
    have a3 : t + 1 ≤ (dg n).length + 1 := by clear hv; omega
    have a4 : (dg n).length + 1 - (t + 1) = d := by clear hv; omega
    have c1 : 0 ≤ ((i + t : Nat) : Int) := by clear hv; omega
    have c2 : ((i + t : Nat) : Int) < (x.length : Int) := by clear hv; omega
    have c3 : 0 ≤ (i : Int) := by clear hv; omega
    have c4 : (i : Int) < ((dg m).length : Int) := by clear hv; omega
    -- a round
    have hj : wrap64 ((i : Int) + t) = ((i + t : Nat) : Int) := by clear hv; rw [w64_id (by omega) (by omega)]; omega
    have ht1 : wrap64 ((t : Int) + 1) = ((t + 1 : Nat) : Int) := by clear hv; rw [w64_id (by omega) (by omega)]; omega
    have exr : rd x ((i + t : Nat) : Int) = ((val x / 4294967296 ^ (i + t) % 4294967296 : Nat) : Int) := by unfold rd; rw [Int.toNat_natCast, getD_val hx]
    have b1 := word_lt m i
    have b2 := word_lt n t
    have b3 := word_lt (val x) (i + t)
    have hbt := at_dg n t
    have hS : ∃ s, s = val x / 4294967296 ^ (i + t) % 4294967296 + m / 4294967296 ^ i % 4294967296 * (n / 4294967296 ^ t % 4294967296) + c := ⟨_, rfl⟩
    obtain ⟨s, hs⟩ := hS
    have g1 : Ok (x.set (i + t) (((s % 4294967296 : Nat) : Int))) := ok_set hx _ _ (mod_in _)
    have g2 : (x.set (i + t) (((s % 4294967296 : Nat) : Int))).length = (dg m).length + (dg n).length + 1 := by rw [List.length_set]; exact hl
    have g3 : s / 4294967296 < 4294967296 := by rw [hs]; exact mul_carry _ _ _ _ b1 b2 b3 hc
    have g4 : val (x.set (i + t) ((s % 4294967296 : Nat) : Int)) + s / 4294967296 * 4294967296 ^ (i + (t + 1)) + (m / 4294967296 ^ i % 4294967296) * (n / 4294967296 ^ (t + 1)) * 4294967296 ^ (i + (t + 1)) = m % 4294967296 ^ (i + 1) * n := by
      have k1 : 4294967296 ^ (i + (t + 1)) = 4294967296 ^ (i + t) * 4294967296 := by rw [← Nat.add_assoc, Nat.pow_succ]
      have k2 := val_set_at hx (i + t) (by rw [hl]; exact a2) (s % 4294967296)
      have k3 := Nat.mod_add_div s 4294967296
      exact mul_arith _ _ _ _ _ _ _ _ _ _ _ _ _ k1 k2 (k3.trans hs) (div_step n t) hv
    have hround := ih _ _ (t + 1) g1 g2 g3 a3 g4 a4
    by_cases h : (t : Int) < ((dg n).length : Int)
    · refine Ev.step (fun _ => r1_Mul.l1.eq_2 ..) ?_
      rw [hj, exr, er, ht1]
      refine Ev.pos h (Ev.pos c1 (Ev.pos c2 (Ev.pos c3 (Ev.pos c4 (Ev.bs hbt ?_)))))
      rw [mul_word1 _ _ _ _ b1 b2 b3 hc, mul_word2 _ _ _ _ b1 b2 b3 hc, Int.toNat_natCast, ← hs]
      exact hround
    · rcases Nat.eq_zero_or_pos c with h0 | h0
      · subst h0
        exact done x t hx hl (Nat.le_of_not_lt fun h' => h (Int.ofNat_lt.2 h')) hv
      · have h1 := carry0 x c t hv h0
        refine Ev.step (fun _ => r1_Mul.l1.eq_2 ..) ?_
        rw [hj, exr, er, ht1]
        refine Ev.neg h (Ev.pos (show ((c : Nat) : Int) > 0 from Int.natCast_pos.2 h0) (Ev.pos c1 (Ev.pos c2 (Ev.pos c3 (Ev.pos c4 (Ev.bs hbt ?_))))))
        rw [mul_word1 _ _ _ _ b1 b2 b3 hc, mul_word2 _ _ _ _ b1 b2 b3 hc, Int.toNat_natCast, ← hs]
        exact hround
theorem mul_outer (m n : Nat) (hm : (dg m).length < 1000000000) (hn : (dg n).length < 1000000000) (d : Nat) : ∀ (x : List Int) (i : Nat), Ok x → x.length = (dg m).length + (dg n).length + 1 → i ≤ (dg m).length →
    val x = m % 4294967296 ^ i * n → (dg m).length - i = d → Ev (fun k => r1_Mul.l0 k x i (dg m) (dg n)) (dg (m * n)) := by
  induction d with
  | zero =>
    intro x i hx hl hi hv hd
    refine Ev.step (fun _ => r1_Mul.l0.eq_2 ..) ?_
    refine Ev.neg (by omega) (Ev.bind (trim_val x hx (by omega)) (Ev.out ?_))
    rw [hv, mod_len (by omega)]
  | succ d ih =>
    intro x i hx hl hi hv hd
    refine Ev.step (fun _ => r1_Mul.l0.eq_2 ..) ?_
    refine Ev.pos (by omega) ?_
    refine mul_inner m n i (by omega) hm hn (fun y hy hly hvy => ih y (i + 1) hy hly (by omega) hvy (by omega)) _ x 0 0 hx hl (by decide) (by omega) ?_ rfl
    rw [hv, mod_succ, Nat.add_mul]
    simp only [Nat.zero_mul, Nat.add_zero, Nat.pow_zero, Nat.div_one]
    congr 1
    simp only [Nat.mul_comm, Nat.mul_left_comm, Nat.mul_assoc]
theorem mul_dg (m n : Nat) (hm : (dg m).length < 1000000000) (hn : (dg n).length < 1000000000) : Ev (fun k => r1_Mul.f k (dg m) (dg n)) (dg (m * n)) := by
  unfold r1_Mul.f
  rw [w64_id (n := ((dg m).length : Int) + ((dg n).length : Int)) (by omega) (by omega), w64_id (by omega) (by omega)]
  refine Ev.pos (by omega) (Ev.pos (by omega) ?_)
  have e : (((dg m).length : Int) + ((dg n).length : Int) + 1).toNat = (dg m).length + (dg n).length + 1 := by omega
  rw [e]
  exact mul_outer m n hm hn _ _ 0 (ok_zeros _) (by simp) (by omega) (by rw [val_zeros]; simp [Nat.mod_one]) rfl

def bl (n : Nat) : Nat := if n = 0 then 0 else n.log2 + 1
theorem bl_zero : bl 0 = 0 := rfl
theorem bl_half {n : Nat} (h : 0 < n) : bl n = bl (n / 2) + 1 := by
  unfold bl
  rw [if_neg (by omega)]
  by_cases h2 : n < 2
  · obtain rfl : n = 1 := by omega
    rfl
  · rw [if_neg (by omega), Nat.log2_def, if_pos (by omega)]
theorem bl_le {n k : Nat} : bl n ≤ k ↔ n < 2 ^ k := by
  unfold bl
  split
  · subst_vars; simp [Nat.pow_pos]
  · rw [← Nat.log2_lt ‹_›]; omega
theorem lt_bl {n k : Nat} : k < bl n ↔ 2 ^ k ≤ n := by
  have := @bl_le n k; omega
theorem bl_shift (n k : Nat) (h : 0 < n) : bl (n * 2 ^ k) = bl n + k := by
  refine Nat.le_antisymm ?_ ?_
  · rw [bl_le, Nat.pow_add]
    exact Nat.mul_lt_mul_of_pos_right (bl_le.1 (Nat.le_refl _)) (Nat.pow_pos (by decide))
  · have h1 : 2 ^ (bl n - 1) ≤ n := lt_bl.1 (by have := (lt_bl (n := n) (k := 0)).2 (by rw [Nat.pow_zero]; omega); omega)
    have h0 : 0 < bl n := (lt_bl (n := n) (k := 0)).2 (by rw [Nat.pow_zero]; omega)
    have h2 : bl n + k - 1 < bl (n * 2 ^ k) := by
      rw [lt_bl, show bl n + k - 1 = (bl n - 1) + k by omega, Nat.pow_add]
      exact Nat.mul_le_mul_right _ h1
    omega
theorem bl_add_low (a b k : Nat) (ha : 0 < a) (hb : b < 2 ^ k) : bl (a * 2 ^ k + b) = bl a + k := by
  refine Nat.le_antisymm ?_ ?_
  · rw [bl_le, Nat.pow_add]
    have h1 : a + 1 ≤ 2 ^ bl a := bl_le.1 (Nat.le_refl _)
    have h2 := Nat.mul_le_mul_right (2 ^ k) h1
    rw [Nat.add_mul] at h2
    omega
  · rw [← bl_shift a k ha]
    have h0 : 0 < bl (a * 2 ^ k) := (lt_bl (n := a * 2 ^ k) (k := 0)).2 (by rw [Nat.pow_zero]; exact Nat.mul_pos ha (Nat.pow_pos (by decide)))
    have h1 : bl (a * 2 ^ k) - 1 < bl (a * 2 ^ k + b) := by
      rw [lt_bl]
      have : 2 ^ (bl (a * 2 ^ k) - 1) ≤ a * 2 ^ k := lt_bl.1 (by omega)
      omega
    omega
theorem bl_mono {m n : Nat} (h : m ≤ n) : bl m ≤ bl n := by
  rw [bl_le]; exact Nat.lt_of_le_of_lt h (bl_le.1 (Nat.le_refl _))
theorem lt_two_bl (n : Nat) : n < 2 ^ bl n := bl_le.1 (Nat.le_refl _)
theorem bl_add (m n : Nat) : bl (m + n) ≤ max (bl m) (bl n) + 1 := by
  rw [bl_le, Nat.pow_succ]
  have h1 := lt_two_bl m
  have h2 := lt_two_bl n
  have h3 : 2 ^ bl m ≤ 2 ^ max (bl m) (bl n) := Nat.pow_le_pow_right (by decide) (by omega)
  have h4 : 2 ^ bl n ≤ 2 ^ max (bl m) (bl n) := Nat.pow_le_pow_right (by decide) (by omega)
  omega
theorem bl_shl (m k : Nat) : bl (m * 2 ^ k) ≤ bl m + k := by
  rw [bl_le, Nat.pow_add]
  exact Nat.mul_lt_mul_of_pos_right (lt_two_bl m) (Nat.pow_pos (by decide))
theorem bl_one : bl 1 = 1 := by decide
theorem pow32 (k : Nat) : (4294967296 : Nat) ^ k = 2 ^ (32 * k) := by
  rw [show (4294967296 : Nat) = 2 ^ 32 by decide, ← Nat.pow_mul]
theorem len_bl (n : Nat) : (dg n).length ≤ bl n / 32 + 1 := by
  refine len_le ?_
  rw [pow32]
  exact bl_le.1 (by omega)
theorem len_loop (t : Nat) : ∀ (s : Nat), t < 18446744073709551616 → s + bl t < 1000000000000 → Ev (fun k => r1_Len.l0 k s t) ((s + bl t : Nat) : Int) := by
  induction t using Nat.strongRecOn with
  | _ t ih =>
    intro s ht hs
    refine Ev.step (fun _ => r1_Len.l0.eq_2 ..) ?_
    rcases Nat.eq_zero_or_pos t with h | h
    · subst h
      exact Ev.neg (by omega) (Ev.out (by simp [bl_zero]))
    · refine Ev.pos (by omega) ?_
      rw [Int.tdiv_eq_ediv_of_nonneg (by omega), u64_id (by omega) (by omega), w64_id (by omega) (by omega), bl_half h]
      rw [show (t : Int) / 2 = ((t / 2 : Nat) : Int) by omega, show (s : Int) + 1 = ((s + 1 : Nat) : Int) by omega, show s + (bl (t / 2) + 1) = s + 1 + bl (t / 2) by omega]
      exact ih (t / 2) (by omega) (s + 1) (by omega) (by have := bl_half h; omega)
theorem len_dg (m : Nat) (hm : bl m < 1000000000) : Ev (fun k => r1_Len.f k (dg m)) ((bl m : Nat) : Int) := by
  have hL := len_bl m
  unfold r1_Len.f
  rcases Nat.eq_zero_or_pos m with h | h
  · subst h
    rw [dg_zero]
    exact Ev.pos rfl (Ev.out rfl)
  · have h0 := len_pos.2 h
    generalize hl : (dg m).length = L at *
    have e : wrap64 ((L : Int) - 1) = ((L - 1 : Nat) : Int) := by rw [w64_id (by omega) (by omega)]; omega
    rw [e, w64_id (n := 32 * ((L - 1 : Nat) : Int)) (by omega) (by omega)]
    refine Ev.neg (by omega) (Ev.pos (by omega) (Ev.pos (by omega) ?_))
    have er : rd (dg m) ((L - 1 : Nat) : Int) = ((m / 4294967296 ^ (L - 1) % 4294967296 : Nat) : Int) := by unfold rd; rw [Int.toNat_natCast, getD_dg]
    have hw := word_lt m (L - 1)
    have htop : m / 4294967296 ^ (L - 1) % 4294967296 = m / 4294967296 ^ (L - 1) := by
      refine Nat.mod_eq_of_lt ?_
      rw [Nat.div_lt_iff_lt_mul (Nat.pow_pos (by decide)), Nat.mul_comm, ← Nat.pow_succ]
      exact lt_of_len (by omega)
    have hpos : 0 < m / 4294967296 ^ (L - 1) := by
      refine Nat.div_pos ?_ (Nat.pow_pos (by decide))
      rcases Nat.lt_or_ge m (4294967296 ^ (L - 1)) with h1 | h1
      · have := len_le h1; omega
      · exact h1
    rw [er, htop]
    rw [htop] at hw
    have hm2 : bl m = bl (m / 4294967296 ^ (L - 1)) + 32 * (L - 1) := by
      have h1 := Nat.div_add_mod m (4294967296 ^ (L - 1))
      have h2 : m % 4294967296 ^ (L - 1) < 4294967296 ^ (L - 1) := Nat.mod_lt _ (Nat.pow_pos (by decide))
      rw [pow32] at h1 h2 ⊢
      have h3 := bl_add_low (m / 2 ^ (32 * (L - 1))) (m % 2 ^ (32 * (L - 1))) (32 * (L - 1)) (by rw [pow32] at hpos; exact hpos) h2
      rw [Nat.mul_comm, h1] at h3
      exact h3
    rw [hm2, Nat.add_comm, show (32 : Int) * ((L - 1 : Nat) : Int) = ((32 * (L - 1) : Nat) : Int) by omega]
    exact len_loop _ _ (Nat.lt_trans hw (by decide)) (by rw [Nat.add_comm, ← hm2]; clear hm2 htop er hw hpos; omega)

theorem add_bl (m n : Nat) (hm : bl m < 1000000000) (hn : bl n < 1000000000) : Ev (fun k => r1_Add.f k (dg m) (dg n)) (dg (m + n)) := add_dg m n (by have := len_bl m; omega) (by have := len_bl n; omega)
theorem sub_bl (m n : Nat) (hmn : n ≤ m) (hm : bl m < 1000000000) : Ev (fun k => r1_Sub.f k (dg m) (dg n)) (dg (m - n)) := sub_dg m n hmn (by have := len_bl m; omega)
theorem shl_bl (m n : Nat) (hn : n < 30000000000) (hm : bl m < 1000000000) : Ev (fun k => r1_Shl.f k (dg m) n) (dg (m * 2 ^ n)) := shl_dg m n hn (by have := len_bl m; omega)
theorem cmp_bl (m n : Nat) (hm : bl m < 1000000000) (hn : bl n < 1000000000) : Ev (fun k => r1_Cmp.f k (dg m) (dg n)) (cmpN m n) := cmp_dg m n (by have := len_bl m; omega) (by have := len_bl n; omega)
theorem mul_bl (m n : Nat) (hm : bl m < 1000000000) (hn : bl n < 1000000000) : Ev (fun k => r1_Mul.f k (dg m) (dg n)) (dg (m * n)) := mul_dg m n (by have := len_bl m; omega) (by have := len_bl n; omega)
theorem bl64 {n : Nat} (h : n < 18446744073709551616) : bl n ≤ 64 := bl_le.2 h

theorem pair_dg (a b : Nat) (ha : a < 18446744073709551616) (hb : b < 18446744073709551616) : Ev (fun k => r1_Pair.f k a b) (dg (a * 18446744073709551616 + b)) := by
  unfold r1_Pair.f
  have h1 := bl64 ha
  have h2 := bl64 hb
  have h3 := bl_shl a 64
  have hs := shl_bl a 64 (by decide) (by omega)
  refine Ev.bind (of_dg a ha) (Ev.bind hs (Ev.bind (of_dg b hb) ?_))
  refine Ev.bind (add_bl (a * 2 ^ 64) b (by omega) (by omega)) (Ev.out rfl)
end Go.Proofs.Ytjjehbedpgdhgaa.Th
end
namespace Go.Proofs.Ytjjehbedpgdhgaa.PA
open Go.RowKit Go.Proofs.YtjjehbedpgdhgaaW.PrintWords Go.Proofs.YtjjehbedpgdhgaaW.PrintLast Go.Proofs.YtjjehbedpgdhgaaW.PrintMore
attribute [local go_sem] max2_int min2_int max_two min_two max_three min_three max_four min_four   -- for this text's walks alone
set_option linter.unusedVariables false
set_option linter.unusedSimpArgs false
set_option maxHeartbeats 8000000
set_option maxRecDepth 100000
-- IMPORT Derived.Test.YtjjehbedpgdhgaaShelf
def bits_Len64.f (a0 : Int) : Option (Int) := if 0 ≤ a0 ∧ a0 ≤ 18446744073709551615 then some ((Lib.bitLen a0.toNat : Nat) : Int) else none
theorem bits_Len64.calls (a0 : Int) (r : Int) (w : World) (h : bits_Len64.f a0 = some r) :
  Calls Try.prog 95 #[.int .u64 a0] w fun e w' => e = .returned (.int .i64 r) ∧ Drawn0 w w' := by
 unfold bits_Len64.f at h
 split at h
 ·rename_i hr
  obtain rfl := Option.some.inj h
  refine (Try.bits_Len64 a0 w hr.1 hr.2).mono ?_
  rintro e w' ⟨rfl, rfl⟩
  exact ⟨rfl, Drawn0.refl _⟩
 ·cases h
end Go.Proofs.Ytjjehbedpgdhgaa.PA
section
set_option linter.unusedVariables false
set_option linter.unusedSimpArgs false
namespace Go.Proofs.Ytjjehbedpgdhgaa.Th
open Go.RowKit Go.Proofs.YtjjehbedpgdhgaaW.PrintWords Go.Proofs.YtjjehbedpgdhgaaW.PrintLast Go.Proofs.YtjjehbedpgdhgaaW.PrintMore Go.Proofs.Ytjjehbedpgdhgaa.PA Bit Dig
def wn (h l : Nat) : Nat := h * 18446744073709551616 + l
theorem wn_div (V : Nat) : wn (V / 18446744073709551616) (V % 18446744073709551616) = V := by unfold wn; omega
theorem wn_lt {h l : Nat} (hh : h < 18446744073709551616) (hl : l < 18446744073709551616) : wn h l < 340282366920938463463374607431768211456 := by unfold wn; omega
theorem bl_128 {n : Nat} (h : n < 340282366920938463463374607431768211456) : bl n ≤ 128 := bl_le.2 h
theorem mulW (x y : Nat) (hx : x < 18446744073709551616) (hy : y < 18446744073709551616) : wide_Mul.f x y = some (((x * y / 18446744073709551616 : Nat) : Int), ((x * y % 18446744073709551616 : Nat) : Int)) := by
  unfold wide_Mul.f bits_Mul64.f
  rw [if_pos (by omega)]; rfl
theorem cmpW (a b c d : Nat) (hb : b < 18446744073709551616) (hd : d < 18446744073709551616) : wide_Cmp.f a b c d = some (cmpN (wn a b) (wn c d)) := by
  unfold wide_Cmp.f wide_order.f cmpN wn
  by_cases h : (a : Int) = c
  · have h : a = c := by omega
    subst h
    rw [if_pos rfl]
    by_cases h1 : (b : Int) < d
    · rw [if_pos h1, if_pos (by omega)]; rfl
    · rw [if_neg h1]
      by_cases h2 : (b : Int) > d
      · rw [if_pos h2, if_neg (by omega), if_pos (by omega)]; rfl
      · rw [if_neg h2, if_neg (by omega), if_neg (by omega)]; rfl
  · rw [if_neg h]
    by_cases h1 : (a : Int) < c
    · rw [if_pos h1, if_pos (by omega)]; rfl
    · rw [if_neg h1]
      have h2 : (a : Int) > c := by omega
      rw [if_pos h2, if_neg (by omega), if_pos (by omega)]; rfl
theorem or_add (x y n : Nat) (hn : n ≤ 64) (hx : 2 ^ n ∣ x) (hy : y < 2 ^ n) (h : x < 18446744073709551616) (h2 : y < 18446744073709551616) : Go.bits .or .u64 (x : Int) (y : Int) = ((x + y : Nat) : Int) := by
  rw [u64_or_nat x y h h2]
  congr 1
  obtain ⟨c, rfl⟩ := hx
  rw [Nat.or_comm, Nat.mul_comm, or_pow y c n hy]; omega
theorem ofW (n : Nat) : wide_Of.f n = some (0, (n : Int)) := rfl
end Go.Proofs.Ytjjehbedpgdhgaa.Th
end
section
set_option linter.unusedVariables false
set_option linter.unusedSimpArgs false
namespace Go.Proofs.Ytjjehbedpgdhgaa.Th
open Go.RowKit Go.Proofs.YtjjehbedpgdhgaaW.PrintWords Go.Proofs.YtjjehbedpgdhgaaW.PrintLast Go.Proofs.YtjjehbedpgdhgaaW.PrintMore Go.Proofs.Ytjjehbedpgdhgaa.PA Dig
theorem sq_unique {a x y : Nat} (h1 : x * x ≤ a) (h2 : a < (x + 1) * (x + 1)) (h3 : y * y ≤ a) (h4 : a < (y + 1) * (y + 1)) : x = y := by
  rcases Nat.lt_trichotomy x y with h | h | h
  · have := Nat.mul_le_mul (show x + 1 ≤ y from h) (show x + 1 ≤ y from h); omega
  · exact h
  · have := Nat.mul_le_mul (show y + 1 ≤ x from h) (show y + 1 ≤ x from h); omega
theorem cmp_le (m n : Nat) : cmpN m n ≤ 0 ↔ m ≤ n := by unfold cmpN; split <;> (try split) <;> omega
end Go.Proofs.Ytjjehbedpgdhgaa.Th
end
section
set_option linter.unusedVariables false
set_option linter.unusedSimpArgs false
namespace Go.Proofs.Ytjjehbedpgdhgaa.Th
open Go.RowKit Go.Proofs.YtjjehbedpgdhgaaW.PrintWords Go.Proofs.YtjjehbedpgdhgaaW.PrintLast Go.Proofs.YtjjehbedpgdhgaaW.PrintMore Go.Proofs.Ytjjehbedpgdhgaa.PA Bit Dig
theorem wn_ne (V h l : Nat) (hV : V < 340282366920938463463374607431768211456) (hl : l < 18446744073709551616) :
    (!(((V / 18446744073709551616 : Nat) : Int) == (h : Int)) || !(((V % 18446744073709551616 : Nat) : Int) == (l : Int))) = decide (V ≠ wn h l) := by
  have e : (((V / 18446744073709551616 : Nat) : Int) == (h : Int)) = decide (V / 18446744073709551616 = h) := by
    rw [Bool.eq_iff_iff]; simp; omega
  have e2 : (((V % 18446744073709551616 : Nat) : Int) == (l : Int)) = decide (V % 18446744073709551616 = l) := by
    rw [Bool.eq_iff_iff]; simp; omega
  rw [e, e2]
  have h3 : V = wn h l ↔ V / 18446744073709551616 = h ∧ V % 18446744073709551616 = l := by
    unfold wn; omega
  by_cases h1 : V / 18446744073709551616 = h <;> by_cases h2 : V % 18446744073709551616 = l <;> simp [h1, h2, h3]
theorem rootW_loop (h l : Nat) (hh : h < 18446744073709551616) (hl : l < 18446744073709551616) (s : Nat) : ∀ (r : Nat), s ≤ 64 → 2 ^ s ∣ r → r + 2 ^ s ≤ 18446744073709551616 → r * r ≤ wn h l → wn h l < (r + 2 ^ s) * (r + 2 ^ s) →
    ∃ x, x * x ≤ wn h l ∧ wn h l < (x + 1) * (x + 1) ∧ x < 18446744073709551616 ∧ Ev (fun k => wide_Root.l0 k r ((2 ^ s / 2 : Nat) : Int) h l) ((x : Int), decide (x * x ≠ wn h l)) := by
  have hsq : ∀ x : Nat, x < 18446744073709551616 → x * x < 340282366920938463463374607431768211456 := fun x hx => Nat.lt_of_le_of_lt (Nat.mul_le_mul (show x ≤ 18446744073709551615 by omega) (show x ≤ 18446744073709551615 by omega)) (by decide)
  induction s with
  | zero =>
    intro r _ _ h1 h2 h3
    refine ⟨r, h2, h3, by omega, ?_⟩
    refine Ev.step (fun _ => wide_Root.l0.eq_2 ..) ?_
    refine Ev.neg (by decide) (Ev.bs (mulW r r (by omega) (by omega)) (Ev.out ?_))
    rw [wn_ne (r * r) h l (hsq r (by omega)) hl]
  | succ s ih =>
    intro r hs hd h1 h2 h3
    have e1 : 2 ^ (s + 1) / 2 = 2 ^ s := by rw [Nat.pow_succ]; omega
    have p1 : 0 < 2 ^ s := Nat.pow_pos (by decide)
    have p2 : 2 ^ (s + 1) = 2 ^ s * 2 := Nat.pow_succ ..
    have hor : Go.bits .or .u64 (r : Int) ((2 ^ s : Nat) : Int) = ((r + 2 ^ s : Nat) : Int) := or_add r (2 ^ s) (s + 1) hs hd (by omega) (by omega) (by omega)
    have ehalf : ((2 ^ s : Nat) : Int) / 2 = ((2 ^ s / 2 : Nat) : Int) := by omega
    rw [e1]
    have hds : 2 ^ s ∣ r := Nat.dvd_trans ⟨2, p2⟩ hd
    have hlt : r + 2 ^ s < 18446744073709551616 := by omega
    by_cases hc : (r + 2 ^ s) * (r + 2 ^ s) ≤ wn h l
    · obtain ⟨x, x1, x2, x3, x4⟩ := ih (r + 2 ^ s) (by omega) ((Nat.dvd_add_right hds).2 (Nat.dvd_refl _)) (by omega) hc (by rw [Nat.add_assoc, ← Nat.mul_two, ← p2]; exact h3)
      refine ⟨x, x1, x2, x3, ?_⟩
      refine Ev.step (fun _ => wide_Root.l0.eq_2 ..) ?_
      rw [hor, ehalf]
      refine Ev.pos (by omega) (Ev.bs (mulW _ _ hlt hlt) (Ev.bs (cmpW _ _ h l (Nat.mod_lt _ (by decide)) hl) ?_))
      rw [wn_div]
      exact Ev.pos ((cmp_le _ _).2 hc) x4
    · obtain ⟨x, x1, x2, x3, x4⟩ := ih r (by omega) hds (by omega) h2 (by omega)
      refine ⟨x, x1, x2, x3, ?_⟩
      refine Ev.step (fun _ => wide_Root.l0.eq_2 ..) ?_
      rw [hor, ehalf]
      refine Ev.pos (by omega) (Ev.bs (mulW _ _ hlt hlt) (Ev.bs (cmpW _ _ h l (Nat.mod_lt _ (by decide)) hl) ?_))
      rw [wn_div]
      exact Ev.neg (fun h' => hc ((cmp_le _ _).1 h')) x4
theorem rootW (h l : Nat) (hh : h < 18446744073709551616) (hl : l < 18446744073709551616) :
    ∃ x, x * x ≤ wn h l ∧ wn h l < (x + 1) * (x + 1) ∧ x < 18446744073709551616 ∧ Ev (fun k => wide_Root.f k h l) ((x : Int), decide (x * x ≠ wn h l)) :=
  rootW_loop h l hh hl 64 0 (Nat.le_refl _) (Nat.dvd_zero _) (by decide) (by omega) (by have := wn_lt hh hl; rw [Nat.zero_add]; exact Nat.lt_of_lt_of_le this (by decide))
theorem awake01 : Ev (fun k => L01_awake.f k) true := by
  unfold L01_awake.f
  have r1 : wide_Right.f 0 5 1 = some (0, 2, true) := by decide +kernel
  have m1 : wide_Mul.f 9223372036854775808 4 = some (2, 0) := by decide +kernel
  obtain ⟨x, x1, x2, x3, x4⟩ := rootW 1 0 (by decide) (by decide)
  have hx : x = 4294967296 := sq_unique x1 x2 (by decide) (by decide)
  subst hx
  have x5 : Ev (fun k => wide_Root.f k 1 0) (4294967296, false) := x4
  exact Ev.bs (show wide_Of.f 5 = some (0, 5) from rfl) (Ev.bs r1 (Ev.bind x5 (Ev.bs m1 (Ev.pos rfl (Ev.bs (show wide_Of.f 2 = some (0, 2) from rfl) (Ev.pos rfl (Ev.pos rfl (Ev.pos rfl (Ev.out rfl)))))))))
theorem natW (h l : Nat) (hh : h < 18446744073709551616) (hl : l < 18446744073709551616) : Ev (fun k => L01_Nat.f k h l) (dg (wn h l)) := by
  unfold L01_Nat.f
  exact Ev.bind (pair_dg h l hh hl) (Ev.out rfl)
end Go.Proofs.Ytjjehbedpgdhgaa.Th
end
section
set_option linter.unusedVariables false
set_option linter.unusedSimpArgs false
namespace Go.Proofs.Ytjjehbedpgdhgaa.Th
open Go.RowKit Go.Proofs.YtjjehbedpgdhgaaW.PrintWords Go.Proofs.YtjjehbedpgdhgaaW.PrintLast Go.Proofs.YtjjehbedpgdhgaaW.PrintMore Go.Proofs.Ytjjehbedpgdhgaa.PA Dig
theorem mod_dg (n : Nat) (hn : bl n < 100000000) : Ev (fun k => r1_Mod.f k (dg n)) (dg (n % 340282366920938463463374607431768211456)) := by
  unfold r1_Mod.f
  have e : (340282366920938463463374607431768211456 : Nat) = 4294967296 ^ 4 := by decide
  rw [e]
  by_cases h : ((dg n).length : Int) > 4
  · have v := val_take (ok_dg n) 4
    rw [val_dg] at v
    have t := trim_val ((dg n).take 4) ((ok_dg n).take 4) (by rw [List.length_take]; omega)
    rw [v] at t
    exact Ev.pos h t
  · have v := val_lt (ok_dg n)
    rw [val_dg] at v
    have h2 : 4294967296 ^ (dg n).length ≤ 4294967296 ^ 4 := Nat.pow_le_pow_right (by decide) (by omega)
    rw [Nat.mod_eq_of_lt (Nat.lt_of_lt_of_le v h2)]
    exact Ev.neg h (Ev.out rfl)
theorem high_dg (n : Nat) : r1_High.f (dg n) = some ((n / 18446744073709551616 % 18446744073709551616 : Nat) : Int) := by
  unfold r1_High.f
  have h3 := at_dg n 3
  have h2 := at_dg n 2
  rw [show ((3 : Nat) : Int) = 3 from rfl] at h3
  rw [show ((2 : Nat) : Int) = 2 from rfl] at h2
  rw [h3, h2, Option.bind_some, Option.bind_some, IntKind.wrap_u64, IntKind.wrap_u64]
  congr 1
  rw [show (4294967296 : Nat) ^ 3 = 79228162514264337593543950336 by decide, show (4294967296 : Nat) ^ 2 = 18446744073709551616 by decide, show (79228162514264337593543950336 : Nat) = 18446744073709551616 * 4294967296 by decide, ← Nat.div_div_eq_div_mul]
  omega
end Go.Proofs.Ytjjehbedpgdhgaa.Th
end
section
set_option linter.unusedVariables false
set_option linter.unusedSimpArgs false
namespace Go.Proofs.Ytjjehbedpgdhgaa.Th
open Go.RowKit Go.Proofs.YtjjehbedpgdhgaaW.PrintWords Go.Proofs.YtjjehbedpgdhgaaW.PrintLast Go.Proofs.YtjjehbedpgdhgaaW.PrintMore Go.Proofs.Ytjjehbedpgdhgaa.PA Bit Dig
theorem isW (V : Nat) (hV : V < 340282366920938463463374607431768211456) : Ev (fun k => L01_is.f k ((V / 18446744073709551616 : Nat) : Int) ((V % 18446744073709551616 : Nat) : Int) (dg V)) true := by
  unfold L01_is.f
  have hb := bl_128 hV
  have e : V / 18446744073709551616 % 18446744073709551616 = V / 18446744073709551616 := Nat.mod_eq_of_lt (by omega)
  have h := high_dg V
  rw [e] at h
  refine Ev.bs (uint_dg V) (Ev.pos rfl (Ev.bs h (Ev.pos rfl (Ev.bind (len_dg V (by omega)) (Ev.out ?_)))))
  exact decide_eq_true (by omega)
theorem addW (a b c d : Nat) (ha : a < 18446744073709551616) (hb : b < 18446744073709551616) (hc : c < 18446744073709551616) (hd : d < 18446744073709551616) :
    wide_Add.f a b c d = some ((((wn a b + wn c d) % 340282366920938463463374607431768211456 / 18446744073709551616 : Nat) : Int), (((wn a b + wn c d) % 340282366920938463463374607431768211456 % 18446744073709551616 : Nat) : Int)) := by
  unfold wide_Add.f wn
  rw [if_pos (by omega)]
  have e1 : ((a : Int) + (c : Int) + ((b : Int) + (d : Int)) / 18446744073709551616) % 18446744073709551616 = (((a * 18446744073709551616 + b + (c * 18446744073709551616 + d)) % 340282366920938463463374607431768211456 / 18446744073709551616 : Nat) : Int) := by omega
  have e2 : ((b : Int) + (d : Int)) % 18446744073709551616 = (((a * 18446744073709551616 + b + (c * 18446744073709551616 + d)) % 340282366920938463463374607431768211456 % 18446744073709551616 : Nat) : Int) := by omega
  rw [e1, e2]
theorem subW (a b c d : Nat) (ha : a < 18446744073709551616) (hb : b < 18446744073709551616) (hc : c < 18446744073709551616) (hd : d < 18446744073709551616) :
    wide_Sub.f a b c d = some ((((wn a b + (340282366920938463463374607431768211456 - wn c d)) % 340282366920938463463374607431768211456 / 18446744073709551616 : Nat) : Int), (((wn a b + (340282366920938463463374607431768211456 - wn c d)) % 340282366920938463463374607431768211456 % 18446744073709551616 : Nat) : Int)) := by
  unfold wide_Sub.f wn
  rw [if_pos (by omega)]
  have e1 : ((a : Int) - (c : Int) - (if (b : Int) < (d : Int) then 1 else 0)) % 18446744073709551616 = (((a * 18446744073709551616 + b + (340282366920938463463374607431768211456 - (c * 18446744073709551616 + d))) % 340282366920938463463374607431768211456 / 18446744073709551616 : Nat) : Int) := by split <;> omega
  have e2 : ((b : Int) - (d : Int)) % 18446744073709551616 = (((a * 18446744073709551616 + b + (340282366920938463463374607431768211456 - (c * 18446744073709551616 + d))) % 340282366920938463463374607431768211456 % 18446744073709551616 : Nat) : Int) := by omega
  rw [e1, e2]
theorem WideSumsP : L01_WideSums.Pure := by
  intro a b c d ha0 hb0 hc0 hd0
  obtain ⟨ha1, ha2⟩ := wf_u64 ha0
  obtain ⟨a, rfl⟩ := Int.eq_ofNat_of_zero_le ha1
  have ha : a < 18446744073709551616 := by omega
  obtain ⟨hb1, hb2⟩ := wf_u64 hb0
  obtain ⟨b, rfl⟩ := Int.eq_ofNat_of_zero_le hb1
  have hb : b < 18446744073709551616 := by omega
  obtain ⟨hc1, hc2⟩ := wf_u64 hc0
  obtain ⟨c, rfl⟩ := Int.eq_ofNat_of_zero_le hc1
  have hc : c < 18446744073709551616 := by omega
  obtain ⟨hd1, hd2⟩ := wf_u64 hd0
  obtain ⟨d, rfl⟩ := Int.eq_ofNat_of_zero_le hd1
  have hd : d < 18446744073709551616 := by omega
  refine Ev.rounds ?_
  unfold L01_WideSums.f
  have hX := wn_lt ha hb
  have hY := wn_lt hc hd
  have A := addW a b c d ha hb hc hd
  have S := subW a b c d ha hb hc hd
  have M := mulW b d hb hd
  have C := cmpW a b c d hb hd
  have nX := natW a b ha hb
  have nY := natW c d hc hd
  have hm : b * d < 340282366920938463463374607431768211456 := by
    have := Nat.mul_lt_mul'' hb hd
    omega
  generalize wn a b = X at *
  generalize wn c d = Y at *
  have bX := bl_128 hX
  have bY := bl_128 hY
  have bm := bl_128 hm
  have e128 : 1 * 2 ^ 128 = 340282366920938463463374607431768211456 := by decide
  have bs : bl (1 * 2 ^ 128) ≤ 1 + 128 := by have := bl_shl 1 128; rwa [bl_one] at this
  have b1 := bl_add X (1 * 2 ^ 128)
  have b2 := bl_add X Y
  have s1 := shl_bl 1 128 (by decide) (by decide)
  have a1 := add_bl X (1 * 2 ^ 128) (by omega) (by omega)
  have u1 := sub_bl (X + 1 * 2 ^ 128) Y (by rw [e128]; omega) (by omega)
  have hbs : bl (X + 1 * 2 ^ 128 - Y) ≤ bl (X + 1 * 2 ^ 128) := bl_mono (Nat.sub_le _ _)
  have m2 := mod_dg (X + 1 * 2 ^ 128 - Y) (by omega)
  have eS : (X + 1 * 2 ^ 128 - Y) % 340282366920938463463374607431768211456 = (X + (340282366920938463463374607431768211456 - Y)) % 340282366920938463463374607431768211456 := by
    rw [e128, show X + 340282366920938463463374607431768211456 - Y = X + (340282366920938463463374607431768211456 - Y) by omega]
  rw [eS] at m2
  have I1 := isW ((X + Y) % 340282366920938463463374607431768211456) (Nat.mod_lt _ (by decide))
  have I2 := isW ((X + (340282366920938463463374607431768211456 - Y)) % 340282366920938463463374607431768211456) (Nat.mod_lt _ (by decide))
  have I3 := isW (b * d) hm
  have I4 := isW a (by omega)
  rw [Nat.div_eq_of_lt ha, Nat.mod_eq_of_lt ha] at I4
  have bb := bl64 hb
  have bd := bl64 hd
  refine Ev.bind awake01 (Ev.pos rfl (Ev.bind nX (Ev.bind nY (Ev.bind (of_dg 1 (by decide)) (Ev.bind s1 (Ev.bind a1 (Ev.bind u1 (Ev.bs A (Ev.bind (add_bl X Y (by omega) (by omega)) (Ev.bind (mod_dg (X + Y) (by omega)) (Ev.bind I1 (Ev.pos rfl ?_))))))))))))
  refine Ev.bs S (Ev.bind m2 (Ev.bind I2 (Ev.pos rfl (Ev.bs M (Ev.bind (of_dg b hb) (Ev.bind (of_dg d hd) (Ev.bind (mul_bl b d (by omega) (by omega)) (Ev.bind I3 (Ev.pos rfl ?_)))))))))
  exact Ev.bs C (Ev.bind (cmp_bl X Y (by omega) (by omega)) (Ev.pos rfl (Ev.bs (ofW a) (Ev.bind (of_dg a ha) (Ev.bind I4 (Ev.out rfl))))))
end Go.Proofs.Ytjjehbedpgdhgaa.Th
end
namespace Go.Proofs.Ytjjehbedpgdhgaa.Pure
theorem WideSums : Go.Proofs.Ytjjehbedpgdhgaa.PA.L01_WideSums.Pure := Go.Proofs.Ytjjehbedpgdhgaa.Th.WideSumsP
end Go.Proofs.Ytjjehbedpgdhgaa.Pure
namespace Go.Proofs.Ytjjehbedpgdhgaa.Facts
abbrev ch (n : Nat) : Char := Char.ofNat n
theorem words_word (w : List Char) (r : List Char) (h : w.all (fun c => c != ch 32) = true) : wordsSigns (w ++ ch 32 :: r) = w :: wordsSigns r := by
  induction w with
  | nil => rfl
  | cons c w ih =>
    rw [List.all_cons, Bool.and_eq_true] at h
    have hc : c ≠ ch 32 := bne_iff_ne.1 h.1
    rw [List.cons_append]
    rw [wordsSigns.eq_3 c _ (fun e => hc e), ih h.2]
def w1 : List Char := [ch 104, ch 97, ch 114, ch 110, ch 101, ch 115, ch 115]
def w2 : List Char := [ch 51, ch 52, ch 101, ch 53, ch 102, ch 48, ch 55, ch 101, ch 100, ch 56, ch 100, ch 53, ch 49, ch 98, ch 54, ch 101, ch 48, ch 51, ch 57, ch 99, ch 100, ch 54, ch 51, ch 49, ch 100, ch 101, ch 55, ch 50, ch 100, ch 101, ch 48, ch 52, ch 53, ch 100, ch 99, ch 49, ch 49, ch 53, ch 100, ch 98, ch 56, ch 51, ch 51, ch 55, ch 52, ch 57, ch 98, ch 51, ch 101, ch 57, ch 50, ch 51, ch 54, ch 99, ch 56, ch 51, ch 100, ch 101, ch 54, ch 53, ch 57, ch 52, ch 101, ch 97]
def w3 : List Char := [ch 99, ch 117, ch 116]
set_option maxRecDepth 100000 in
def tailSigns : List Char := [ch 97, ch 116, ch 32, ch 116, ch 114, ch 117, ch 110, ch 110, ch 105, ch 111, ch 110, ch 47, ch 116, ch 114, ch 117, ch 110, ch 110, ch 105, ch 111, ch 110, ch 108, ch 97, ch 119, ch 48, ch 55, ch 46, ch 82, ch 97, ch 100, ch 105, ch 120, ch 82, ch 111, ch 111, ch 116, ch 115, ch 32, ch 116, ch 114, ch 117, ch 110, ch 110, ch 105, ch 111, ch 110, ch 47, ch 116, ch 114, ch 117, ch 110, ch 110, ch 105, ch 111, ch 110, ch 108, ch 97, ch 119, ch 48, ch 55, ch 46, ch 82, ch 97, ch 100, ch 105, ch 120, ch 75, ch 101, ch 101, ch 112, ch 115, ch 32, ch 116, ch 114, ch 117, ch 110, ch 110, ch 105, ch 111, ch 110, ch 47, ch 116, ch 114, ch 117, ch 110, ch 110, ch 105, ch 111, ch 110, ch 108, ch 97, ch 119, ch 48, ch 55, ch 46, ch 82, ch 97, ch 100, ch 105, ch 120, ch 83, ch 99, ch 97, ch 108, ch 101, ch 32, ch 116, ch 114, ch 117, ch 110, ch 110, ch 105, ch 111, ch 110, ch 47, ch 116, ch 114, ch 117, ch 110, ch 110, ch 105, ch 111, ch 110, ch 108, ch 97, ch 119, ch 49, ch 50, ch 46, ch 67, ch 104, ch 111, ch 112, ch 84, ch 114, ch 97, ch 112, ch 115, ch 32, ch 116, ch 114, ch 117, ch 110, ch 110, ch 105, ch 111, ch 110, ch 47, ch 116, ch 114, ch 117, ch 110, ch 110, ch 105, ch 111, ch 110, ch 108, ch 97, ch 119, ch 48, ch 49, ch 46, ch 87, ch 105, ch 100, ch 101, ch 83, ch 117, ch 109, ch 115]
set_option maxRecDepth 100000 in
theorem head_list : Try.prog.initOrder.toList = w1 ++ ch 32 :: (w2 ++ ch 32 :: (w3 ++ ch 32 :: tailSigns)) :=
  (congrArg String.toList (show Try.prog.initOrder = String.ofList (w1 ++ ch 32 :: (w2 ++ ch 32 :: (w3 ++ ch 32 :: tailSigns))) from rfl)).trans String.toList_ofList
theorem words : ∃ rest, behindMainWord (wordsSigns Try.prog.initOrder.toList) = w3 :: rest := by
  refine ⟨wordsSigns tailSigns, ?_⟩
  rw [head_list, words_word w1 _ (by kernel_rfl), words_word w2 _ (by kernel_rfl), words_word w3 _ (by kernel_rfl)]
  generalize wordsSigns tailSigns = rest
  have e : ((w1 == "harness".toList || w1 == "ownmain".toList) && isSumSigns w2) = true := by kernel_rfl
  show (if ((w1 == "harness".toList || w1 == "ownmain".toList) && isSumSigns w2) = true then w3 :: rest else w1 :: w2 :: w3 :: rest) = w3 :: rest
  rw [if_pos e]
theorem c3 : (w3 == "gc".toList) = false ∧ (w3 == "spec".toList) = false ∧ (w3 == "cut".toList) = true ∧ (w3 == "carried".toList) = false ∧ (w3 == "finals".toList) = false := ⟨by kernel_rfl, by kernel_rfl, by kernel_rfl, by kernel_rfl, by kernel_rfl⟩
theorem strip (rest : List (List Char)) : stripLifts liftWords (w3 :: rest) = ([], w3 :: rest) := by
  have key : ∀ l : List String, l.all (fun o => !(w3 == o.toList)) = true → stripLifts l (w3 :: rest) = ([], w3 :: rest) := by
    intro l
    induction l with
    | nil => intro _; rfl
    | cons o l ih =>
      intro h
      rw [List.all_cons, Bool.and_eq_true] at h
      unfold stripLifts
      rw [if_neg (fun e => by have h1 := h.1; rw [e] at h1; cases h1)]
      exact ih h.2
  exact key liftWords (by kernel_rfl)
theorem make_of (P : Program) (h : ∃ rest, behindMainWord (wordsSigns P.initOrder.toList) = w3 :: rest) : P.make = some .cut := by
  obtain ⟨rest, h⟩ := h
  unfold Program.make
  rw [h]
  show (if (w3 == "gc".toList || w3 == "spec".toList) = true then some Make.whole else if (w3 == "cut".toList || (w3 == "finals".toList && rest.head? == some "cut".toList)) = true then some Make.cut else _) = some Make.cut
  rw [if_neg (by rw [c3.1, c3.2.1]; decide), if_pos (by rw [c3.2.2.1, Bool.true_or])]
set_option maxRecDepth 100000 in
theorem liftsFact : Try.prog.liftsFinal = false := by
  unfold Program.liftsFinal Program.headLifts
  rw [head_list]
  kernel_rfl
theorem doorFact : (!Try.prog.laysLater && !Try.prog.bearsReflect && Try.prog.doorFits []) = true := by kernel_rfl
theorem makeFact : Try.prog.make = some .cut := make_of _ words
theorem enter_of (P : Program) (h : ∃ rest, behindMainWord (wordsSigns P.initOrder.toList) = w3 :: rest) (d : (!P.laysLater && !P.bearsReflect && P.doorFits []) = true) : P.mayEnter = true := by
  obtain ⟨rest, h⟩ := h
  rw [Bool.and_eq_true, Bool.and_eq_true] at d
  have e : ((some w3 == some "cut".toList) : Bool) = true := by kernel_rfl
  unfold Program.mayEnter
  rw [h]
  show ((_ || _) || ((stripLifts liftWords (w3 :: rest)).2.head? == some "cut".toList && ((stripLifts liftWords (w3 :: rest)).1.contains "finals" || !P.laysLater) && ((stripLifts liftWords (w3 :: rest)).1.contains "reflectrows" || !P.bearsReflect) &&
      ((stripLifts liftWords (w3 :: rest)).1.contains "reflectrows" || !(stripLifts liftWords (w3 :: rest)).1.contains "leanrows") && P.doorFits (stripLifts liftWords (w3 :: rest)).1)) = true
  rw [strip, Bool.or_eq_true]
  refine .inr ?_
  rw [Bool.and_eq_true, Bool.and_eq_true, Bool.and_eq_true, Bool.and_eq_true, Bool.or_eq_true, Bool.or_eq_true]
  exact ⟨⟨⟨⟨e, .inr d.1.1⟩, .inr d.1.2⟩, rfl⟩, d.2⟩
theorem enterFact : Try.prog.mayEnter = true := enter_of _ words doorFact
end Go.Proofs.Ytjjehbedpgdhgaa.Facts
