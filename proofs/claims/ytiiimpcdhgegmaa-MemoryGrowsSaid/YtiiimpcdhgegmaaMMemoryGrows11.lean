/- What the Go functions that the statement MemoryGrows reaches compute, and the mathematics on it, in the order in which one leans on the other; for every input. -/
import Derived.Test.YtiiimpcdhgegmaaVMemoryGrows0
import Derived.Test.YtiiimpcdhgegmaaMMemoryGrows0
import Derived.Test.YtiiimpcdhgegmaaMMemoryGrows4
import Derived.Test.YtiiimpcdhgegmaaMMemoryGrows5
import Derived.Test.YtiiimpcdhgegmaaMMemoryGrows6
import Derived.Test.YtiiimpcdhgegmaaMMemoryGrows7
import Derived.Test.YtiiimpcdhgegmaaMMemoryGrows8
import Derived.Test.YtiiimpcdhgegmaaMMemoryGrows9
import Derived.Test.YtiiimpcdhgegmaaMMemoryGrows10
import Derived.Test.YtiiimpcdhgegmaaMMemoryGrows3
import Derived.JoinedOf
import Derived.WalkKit
import Derived.ProofKit
import Derived.OpenShut
import Derived.ShutString
import Derived.ChangeOld
import Derived.Below
import Derived.SizedLaws
/- memory: MemoryGrows' walk, for every input. -/
namespace Go.Proofs.Ytiiimpcdhgegmaa.PA
open Go.RowKit Go.Proofs.YtiiimpcdhgegmaaW.PrintWords Go.Proofs.YtiiimpcdhgegmaaW.PrintLast Go.Proofs.YtiiimpcdhgegmaaW.PrintMore
attribute [local go_sem] max2_int min2_int max_two min_two max_three min_three max_four min_four   -- for this text's walks alone
set_option linter.unusedVariables false
set_option linter.unusedSimpArgs false
set_option maxHeartbeats 16000000 in
set_option maxRecDepth 100000 in
theorem memGBad (mn mx : Int) (hs : Bool) (kd n bs of ty nb : Int) (sg st : Bool) (x : Int) (may : Bool) (a : Option Addr) (len cap : Nat) (l : List Int) (by' : Int) (w : World)
    (p0 : 0 ≤ mn) (p1 : mn < 4294967296) (q0 : 0 ≤ mx) (q1 : mx < 4294967296) (a0 : 0 ≤ bs) (a1 : bs < 4294967296) (y0 : 0 ≤ by') (y1 : by' < 4294967296) (hl : l.length = len) (hS : Sl w a l) (hlen : len < 9223372036854775808)
    (hE : newE mn mx hs ≠ 0) :
    Calls Try.prog 4 #[.agg #[.int .u32 mn, .int .u32 mx, .bool hs], .agg #[.int .i64 kd, .int .i64 n, .int .u32 bs, .int .u32 of, .int .u8 ty, .int .i64 nb, .bool sg, .bool st, .int .u64 x, .bool may, .slice a len cap], .int .u32 by'] w fun e w' => e = .returned (.bool true) ∧ Below w.heap.size w w' := by
  have hu2 := Try.underlying28
  have hu3 := Try.underlying24
  have hu4 := Try.underlying35
  have HS := Aside0.mk hS
  have HL := Aside0.mk hl
  have HE := Aside0.mk hE
  have hEb : (newE mn mx hs != 0) = true := bne_iff_ne.mpr hE
  clear hS hl hE
  go_enter Try.func4, Try.ntmps4
  go_wp2_with (first | (go_at_call 6; with_reducible refine (memAwake _).mono ?_; rintro e w1 ⟨rfl, hb⟩; have l0 : w1.cell? ⟨w.heap.size, 0, none⟩ = some (.int .u32 mn) := ((Nr.bcell hb).1 w.heap.size 0 (by simp; omega)).trans (by simp [go_sem]); have l1 : w1.cell? ⟨w.heap.size, 1, none⟩ = some (.int .u32 mx) := ((Nr.bcell hb).1 w.heap.size 1 (by simp; omega)).trans (by simp [go_sem]); have l2 : w1.cell? ⟨w.heap.size, 2, none⟩ = some (.bool hs) := ((Nr.bcell hb).1 w.heap.size 2 (by simp; omega)).trans (by simp [go_sem]); have c0 : w1.cell? ⟨w.heap.size + 1, 0, none⟩ = some (.int .i64 kd) := ((Nr.bcell hb).1 (w.heap.size + 1) 0 (by simp)).trans (by simp [go_sem]); have c1 : w1.cell? ⟨w.heap.size + 1, 1, none⟩ = some (.int .i64 n) := ((Nr.bcell hb).1 (w.heap.size + 1) 1 (by simp)).trans (by simp [go_sem]); have c2 : w1.cell? ⟨w.heap.size + 1, 2, none⟩ = some (.int .u32 bs) := ((Nr.bcell hb).1 (w.heap.size + 1) 2 (by simp)).trans (by simp [go_sem]); have c3 : w1.cell? ⟨w.heap.size + 1, 3, none⟩ = some (.int .u32 of) := ((Nr.bcell hb).1 (w.heap.size + 1) 3 (by simp)).trans (by simp [go_sem]); have c4 : w1.cell? ⟨w.heap.size + 1, 4, none⟩ = some (.int .u8 ty) := ((Nr.bcell hb).1 (w.heap.size + 1) 4 (by simp)).trans (by simp [go_sem]); have c5 : w1.cell? ⟨w.heap.size + 1, 5, none⟩ = some (.int .i64 nb) := ((Nr.bcell hb).1 (w.heap.size + 1) 5 (by simp)).trans (by simp [go_sem]); have c6 : w1.cell? ⟨w.heap.size + 1, 6, none⟩ = some (.bool sg) := ((Nr.bcell hb).1 (w.heap.size + 1) 6 (by simp)).trans (by simp [go_sem]); have c7 : w1.cell? ⟨w.heap.size + 1, 7, none⟩ = some (.bool st) := ((Nr.bcell hb).1 (w.heap.size + 1) 7 (by simp)).trans (by simp [go_sem]); have c8 : w1.cell? ⟨w.heap.size + 1, 8, none⟩ = some (.int .u64 x) := ((Nr.bcell hb).1 (w.heap.size + 1) 8 (by simp)).trans (by simp [go_sem]); have c9 : w1.cell? ⟨w.heap.size + 1, 9, none⟩ = some (.bool may) := ((Nr.bcell hb).1 (w.heap.size + 1) 9 (by simp)).trans (by simp [go_sem]); have c10 : w1.cell? ⟨w.heap.size + 1, 10, none⟩ = some (.slice a len cap) := ((Nr.bcell hb).1 (w.heap.size + 1) 10 (by simp)).trans (by simp [go_sem]); have Z := Aside0.mk (show w.heap.size + 1 < w1.heap.size from Nat.lt_of_lt_of_le (by simp) hb.size); have HB := Aside0.mk (show Below w.heap.size w w1 from below_step (below_alloc (below_alloc (Below.refl _ _) _) _) hb); clear hb) | (go_at_call 7; with_reducible refine (memNewBad mn mx hs _ p0 p1 q0 q1 HE.out).mono ?_; rintro e w2 ⟨rfl, hb⟩; replace HB := Aside0.mk (below_step HB.out hb); clear hb))
  all_goals (go_ret; exact ⟨rfl, HB.out⟩)
theorem memGrows (mn mx : Int) (hs : Bool) (kd n bs of ty nb : Int) (sg st : Bool) (x : Int) (may : Bool) (a : Option Addr) (len cap : Nat) (l : List Int) (by' : Int) (w : World)
    (p0 : 0 ≤ mn) (p1 : mn < 4294967296) (q0 : 0 ≤ mx) (q1 : mx < 4294967296) (a0 : 0 ≤ bs) (a1 : bs < 4294967296) (y0 : 0 ≤ by') (y1 : by' < 4294967296) (hl : l.length = len) (hS : Sl w a l) (hlen : len < 9223372036854775808) :
    Calls Try.prog 4 #[.agg #[.int .u32 mn, .int .u32 mx, .bool hs], .agg #[.int .i64 kd, .int .i64 n, .int .u32 bs, .int .u32 of, .int .u8 ty, .int .i64 nb, .bool sg, .bool st, .int .u64 x, .bool may, .slice a len cap], .int .u32 by'] w fun e w' => e = .returned (.bool true) ∧ Below w.heap.size w w' := by
  by_cases hE : newE mn mx hs = 0
  rotate_left
  · exact memGBad mn mx hs kd n bs of ty nb sg st x may a len cap l by' w p0 p1 q0 q1 a0 a1 y0 y1 hl hS hlen hE
  · have e16 : mn ≤ 16 := by
      have h := hE
      unfold newE at h; split at h <;> first | omega | (split at h <;> omega)
    have hmx : hs = true → mn ≤ mx := by
      intro h
      have hE' := hE
      unfold newE at hE'
      split at hE'
      · omega
      · rename_i q; by_cases r : mx < mn
        · exact absurd (.inr ⟨h, .inr r⟩) q
        · omega
    by_cases hb0 : by' = 0
    · subst hb0
      cases hR : rfs mn mx 0 hs may with
      | true =>
        obtain rfl : may = false := rfs0 mn mx hs may q0 e16 hmx hR
        cases hW : hld true mn bs len with
        | true => exact memG1t mn mx hs kd n bs of ty nb sg st x a len cap l w p0 p1 q0 q1 a0 a1 hl hS hlen hE e16 hmx hR hW
        | false => exact memG1f mn mx hs kd n bs of ty nb sg st x a len cap l w p0 p1 q0 q1 a0 a1 hl hS hlen hE e16 hmx hR hW
      | false =>
        obtain ⟨rfl, _, _⟩ := rfsF mn mx 0 hs may hR
        cases hs with
        | true =>
          cases hW : hld true mn bs len with
          | true => exact memG2tt mn mx kd n bs of ty nb sg st x a len cap l w p0 p1 q0 q1 a0 a1 hl hS hlen hE e16 hmx hR hW
          | false => exact memG2tf mn mx kd n bs of ty nb sg st x a len cap l w p0 p1 q0 q1 a0 a1 hl hS hlen hE e16 hmx hR hW
        | false =>
          cases hW : hld true mn bs len with
          | true => exact memG2ft mn mx kd n bs of ty nb sg st x a len cap l w p0 p1 q0 q1 a0 a1 hl hS hlen hE e16 hmx hR hW
          | false => exact memG2ff mn mx kd n bs of ty nb sg st x a len cap l w p0 p1 q0 q1 a0 a1 hl hS hlen hE e16 hmx hR hW
    · cases hR : rfs mn mx by' hs may with
      | true =>
        cases hW : hld true mn bs len with
        | true => exact memG3t mn mx hs kd n bs of ty nb sg st x may a len cap l by' w p0 p1 q0 q1 a0 a1 y0 y1 hl hS hlen hE e16 hmx hb0 hR hW
        | false => exact memG3f mn mx hs kd n bs of ty nb sg st x may a len cap l by' w p0 p1 q0 q1 a0 a1 y0 y1 hl hS hlen hE e16 hmx hb0 hR hW
      | false =>
        obtain ⟨rfl, _, _⟩ := rfsF mn mx by' hs may hR
        cases hs with
        | true =>
          cases hW : hld true mn bs len with
          | true => exact memG4ttt mn mx kd n bs of ty nb sg st x a len cap l by' w p0 p1 q0 q1 a0 a1 y0 y1 hl hS hlen hE e16 hmx hb0 hR hW (hldMono mn by' bs len y0 hW)
          | false =>
            cases hD : hld true (mn + by') bs len with
            | true => exact memG4tft mn mx kd n bs of ty nb sg st x a len cap l by' w p0 p1 q0 q1 a0 a1 y0 y1 hl hS hlen hE e16 hmx hb0 hR hW hD
            | false => exact memG4tff mn mx kd n bs of ty nb sg st x a len cap l by' w p0 p1 q0 q1 a0 a1 y0 y1 hl hS hlen hE e16 hmx hb0 hR hW hD
        | false =>
          cases hW : hld true mn bs len with
          | true => exact memG4ftt mn mx kd n bs of ty nb sg st x a len cap l by' w p0 p1 q0 q1 a0 a1 y0 y1 hl hS hlen hE e16 hmx hb0 hR hW (hldMono mn by' bs len y0 hW)
          | false =>
            cases hD : hld true (mn + by') bs len with
            | true => exact memG4fft mn mx kd n bs of ty nb sg st x a len cap l by' w p0 p1 q0 q1 a0 a1 y0 y1 hl hS hlen hE e16 hmx hb0 hR hW hD
            | false => exact memG4fff mn mx kd n bs of ty nb sg st x a len cap l by' w p0 p1 q0 q1 a0 a1 y0 y1 hl hS hlen hE e16 hmx hb0 hR hW hD
end Go.Proofs.Ytiiimpcdhgegmaa.PA
/- memory: the rows' own words: a struct that comes in. -/
namespace Go.Proofs.Ytiiimpcdhgegmaa.PA
open Go.RowKit Go.Proofs.YtiiimpcdhgegmaaW.PrintWords Go.Proofs.YtiiimpcdhgegmaaW.PrintLast Go.Proofs.YtiiimpcdhgegmaaW.PrintMore
attribute [local go_sem] max2_int min2_int max_two min_two max_three min_three max_four min_four   -- for this text's walks alone
set_option linter.unusedVariables false
set_option linter.unusedSimpArgs false
open Go.ChangeShapes Go.WideShapes Go.ChangeAt
section
variable {H : Type} {enc : TypeId × Value → H} {w : World} {base : Nat} {held : Bool}
theorem openLim {r : Reach} {b0 : Nat} {v : Value} {d : DataW H} {p : List MemPlace} (hv : Value.okWide Try.prog w r b0 35 v) (h : DataW.Trod enc Try.prog w base (fun _ => true) held 35 v d p) :
    ∃ (mn mx : Int) (hs : Bool), v = .agg #[.int .u32 mn, .int .u32 mx, .bool hs] ∧ (Lit.int .u32 mn).wf = true ∧ (Lit.int .u32 mx).wf = true := by
  obtain ⟨cs, rfl, hsz⟩ := okWide_struct Try.underlying35 hv
  have hC : Try.prog.cellsOf 35 = 3 := by kernel_rfl
  have k22 : Try.prog.cellsOf 22 = 1 := by kernel_rfl
  have k4 : Try.prog.cellsOf 4 = 1 := by kernel_rfl
  obtain ⟨l⟩ := cs
  match l, hsz.trans hC with
  | [c0, c1, c2], _ =>
    obtain ⟨fuel, hf⟩ := h
    obtain ⟨xs, n, _, hx, _, hlen, hg⟩ := DataW.trod_struct Try.underlying35 hf
    match xs, hlen with
    | [y0, y1, y2], _ =>
      have g0 := hg 0 _ rfl
      have g1 := hg 1 _ rfl
      have g2 := hg 2 _ rfl
      simp [Value.cells, k22, k4] at g0 g1 g2
      obtain ⟨a0, e0, _, w0⟩ := DataW.trod_int Try.underlying22 g0
      obtain ⟨a1, e1, _, w1⟩ := DataW.trod_int Try.underlying22 g1
      obtain ⟨a2, e2, _⟩ := DataW.trod_bool Try.underlying4 g2
      simp at e0 e1 e2
      subst e0 e1 e2
      exact ⟨a0, a1, a2, rfl, w0, w1⟩
theorem openOp {r : Reach} {b0 : Nat} {v : Value} {d : DataW H} {p : List MemPlace} (hv : Value.okWide Try.prog w r b0 28 v) (h : DataW.Trod enc Try.prog w base (fun _ => true) held 28 v d p) :
    ∃ (kd n bs of ty nb : Int) (sg st : Bool) (x : Int) (may : Bool) (a : Option Addr) (len cap : Nat) (zs : List Int),
      v = .agg #[.int .i64 kd, .int .i64 n, .int .u32 bs, .int .u32 of, .int .u8 ty, .int .i64 nb, .bool sg, .bool st, .int .u64 x, .bool may, .slice a len cap] ∧
      (Lit.int .i64 n).wf = true ∧ (Lit.int .u32 bs).wf = true ∧ (Lit.int .u32 of).wf = true ∧ (Lit.int .u8 ty).wf = true ∧ (Lit.int .i64 nb).wf = true ∧ (Lit.int .u64 x).wf = true ∧
      len ≤ cap ∧ cap ≤ maxLen ∧ zs.length = cap ∧ (∀ z ∈ zs, (Lit.int .u8 z).wf = true) ∧ ∀ i, i < zs.length → ∃ y, a = some y ∧ w.cell? (y.add i) = some (.int .u8 (zs.getD i 0)) := by
  obtain ⟨cs, rfl, hsz⟩ := okWide_struct Try.underlying28 hv
  have hC : Try.prog.cellsOf 28 = 11 := by kernel_rfl
  have k3 : Try.prog.cellsOf 3 = 1 := by kernel_rfl
  have k22 : Try.prog.cellsOf 22 = 1 := by kernel_rfl
  have k25 : Try.prog.cellsOf 25 = 1 := by kernel_rfl
  have k4 : Try.prog.cellsOf 4 = 1 := by kernel_rfl
  have k5 : Try.prog.cellsOf 5 = 1 := by kernel_rfl
  have k24 : Try.prog.cellsOf 24 = 4 := by kernel_rfl
  have k26 : Try.prog.cellsOf 26 = 1 := by kernel_rfl
  obtain ⟨l⟩ := cs
  match l, hsz.trans hC with
  | [c0, c1, c2, c3, c4, c5, c6, c7, c8, c9, c10], _ =>
    obtain ⟨fuel, hf⟩ := h
    obtain ⟨xs, n, _, hx, _, hlen, hg⟩ := DataW.trod_struct Try.underlying28 hf
    match xs, hlen with
    | [y0, y1, y2, y3, y4, y5, y6, y7], _ =>
      have g0 := hg 0 _ rfl
      have g1 := hg 1 _ rfl
      have g2 := hg 2 _ rfl
      have g3 := hg 3 _ rfl
      have g4 := hg 4 _ rfl
      have g5 := hg 5 _ rfl
      have g6 := hg 6 _ rfl
      have g7 := hg 7 _ rfl
      simp [Value.cells, k3, k22, k25, k4, k24, k26] at g0 g1 g2 g3 g4 g5 g6 g7
      obtain ⟨zs, m, _, _, _, hlen2, hg2⟩ := DataW.trod_struct Try.underlying24 g4
      match zs, hlen2 with
      | [z0, z1, z2, z3], _ =>
        have q0 := hg2 0 _ rfl
        have q1 := hg2 1 _ rfl
        have q2 := hg2 2 _ rfl
        have q3 := hg2 3 _ rfl
        simp [k3, k4, k5] at q0 q1 q2 q3
        obtain ⟨a0, e0, _, w0⟩ := DataW.trod_int Try.underlying3 g0
        obtain ⟨a1, e1, _, w1⟩ := DataW.trod_int Try.underlying3 g1
        obtain ⟨a2, e2, _, w2⟩ := DataW.trod_int Try.underlying22 g2
        obtain ⟨a3, e3, _, w3⟩ := DataW.trod_int Try.underlying22 g3
        obtain ⟨a4, e4, _, w4⟩ := DataW.trod_int Try.underlying5 q0
        obtain ⟨a5, e5, _, w5⟩ := DataW.trod_int Try.underlying3 q1
        obtain ⟨a6, e6, _⟩ := DataW.trod_bool Try.underlying4 q2
        obtain ⟨a7, e7, _⟩ := DataW.trod_bool Try.underlying4 q3
        obtain ⟨a8, e8, _, w8⟩ := DataW.trod_int Try.underlying25 g5
        obtain ⟨a9, e9, _⟩ := DataW.trod_bool Try.underlying4 g6
        simp at e0 e1 e2 e3 e4 e5 e6 e7 e8 e9
        subst e0 e1 e2 e3 e4 e5 e6 e7 e8 e9
        rcases open_ints Try.underlying26 Try.underlying5 k5 g7 with ⟨hcs, _⟩ | ⟨y, len, cap, ws, hcs, _, hl, hm, hz, _, hcell, hwz⟩
        · simp at hcs
          subst hcs
          exact ⟨a0, a1, a2, a3, a4, a5, a6, a7, a8, a9, none, 0, 0, [], rfl, w1, w2, w3, w4, w5, w8, Nat.le_refl _, Nat.zero_le _, rfl, (fun _ h => absurd h (by simp)), (fun i hi => absurd hi (by simp))⟩
        · simp at hcs
          subst hcs
          exact ⟨a0, a1, a2, a3, a4, a5, a6, a7, a8, a9, some y, len, cap, ws, rfl, w1, w2, w3, w4, w5, w8, hl, hm, by simpa using hz, hwz, fun i hi => ⟨y, rfl, hcell i hi⟩⟩
end
theorem slTake {w : World} {a : Option Addr} {zs : List Int} {len : Nat} (h : ∀ i, i < zs.length → ∃ y, a = some y ∧ w.cell? (y.add i) = some (.int .u8 (zs.getD i 0))) (hl : len ≤ zs.length) : Sl w a (zs.take len) := fun i hi => by
  rw [List.length_take] at hi
  obtain ⟨y, e, hc⟩ := h i (by omega)
  refine ⟨y, e, hc.trans ?_⟩
  rw [List.getD_eq_getElem?_getD, List.getD_eq_getElem?_getD, List.getElem?_take_of_lt (by omega)]
end Go.Proofs.Ytiiimpcdhgegmaa.PA
