/- What the Go functions that the statement MemoryGrows reaches compute, and the mathematics on it, in the order in which one leans on the other; for every input. -/
import Derived.Test.YtiiimpcdhgegmaaVMemoryGrows0
import Derived.Test.YtiiimpcdhgegmaaMMemoryGrows0
import Derived.Test.YtiiimpcdhgegmaaMMemoryGrows2
import Derived.Laws.OwnMore
import Derived.Laws.BytesArg
/- memory: Write. -/
namespace Go.Proofs.Ytiiimpcdhgegmaa.PA
open Go.RowKit Go.Proofs.YtiiimpcdhgegmaaW.PrintWords Go.Proofs.YtiiimpcdhgegmaaW.PrintLast Go.Proofs.YtiiimpcdhgegmaaW.PrintMore
attribute [local go_sem] max2_int min2_int max_two min_two max_three min_three max_four min_four   -- for this text's walks alone
set_option linter.unusedVariables false
set_option linter.unusedSimpArgs false
theorem add_block' (x : Addr) (i : Nat) : (x.add i).block = x.block := by
  unfold Addr.add
  split <;> rfl
def Sl (w : World) (a : Option Addr) (l : List Int) : Prop := ∀ i, i < l.length → ∃ x, a = some x ∧ w.cell? (x.add i) = some (.int .u8 (l.getD i 0))
theorem Sl.kept {w w' : World} {a : Option Addr} {l : List Int} (h : Sl w a l) (hk : ∀ x, a = some x → w'.heap[x.block]? = w.heap[x.block]?) : Sl w' a l := fun i hi => by
  obtain ⟨x, e, hc⟩ := h i hi
  exact ⟨x, e, (World.cell?_of_block (w := w) (a := x.add i) (by rw [add_block']; exact hk x e)).trans hc⟩
theorem Sl.lt {w : World} {x : Addr} {l : List Int} (h : Sl w (some x) l) (hl : 0 < l.length) : x.block < w.heap.size := by
  obtain ⟨y, e, hc⟩ := h 0 hl
  obtain rfl := Option.some.inj e
  have := World.block_lt_of_cell? w (x.add 0) hc
  rw [add_block'] at this
  exact this
theorem Sl.off {w w' : World} {M : Nat → Prop} {a : Option Addr} {l : List Int} (h : Sl w a l) (ho : Off M w w') (hM : ∀ x, a = some x → ¬ M x.block) : Sl w' a l := fun i hi => by
  obtain ⟨x, e, hc⟩ := h i hi
  exact ⟨x, e, (World.cell?_of_block (w := w) (a := x.add i) (ho.block _ (World.block_lt_of_cell? w (x.add i) hc) (by rw [add_block']; exact hM x e))).trans hc⟩
theorem Sl.below {w w' : World} {a : Option Addr} {l : List Int} (h : Sl w a l) (hb : Below w.heap.size w w') : Sl w' a l := fun i hi => by
  obtain ⟨x, e, hc⟩ := h i hi
  exact ⟨x, e, (hb.cell (p := x.add i) (World.block_lt_of_cell? w (x.add i) hc)).trans hc⟩
set_option maxHeartbeats 8000000 in
theorem memWriteNo (v : Value) (b : Bool) (pg at' : Int) (a : Option Addr) (n cap : Nat) (w : World) (h : IsM w v b pg) (p0 : 0 ≤ pg) (p1 : pg < 4294967296) (a0 : 0 ≤ at') (a1 : at' < 4294967296) (n1 : n < 9223372036854775808)
    (hn : hld b pg at' n = false) :
    Calls Try.prog 8 #[v, .int .u32 at', .slice a n cap] w fun e w' => e = .returned (.bool false) ∧ w' = w := by
  have H := Aside0.mk h
  clear h
  go_enter Try.func8, Try.ntmps8
  go_wp2_with (first | (go_at_call 11; with_reducible refine (memHolds v b pg at' (n : Int) _ H.out p0 p1 a0 (by omega) (by omega) (by omega)).mono ?_; rintro e w1 ⟨rfl, rfl⟩; rw [hn]))
  all_goals go_ret
  all_goals exact ⟨rfl, rfl⟩
set_option maxHeartbeats 8000000 in
set_option maxRecDepth 100000 in
theorem memWrite (at' : Int) (a : Option Addr) (l : List Int) (n cap : Nat) (w : World) {M : Nat → Prop} {G B m : Nat} {pg mx : Int} {hs : Bool} {f : Nat → Int} (h : Mem w M G B m pg mx hs f) (hM : ∀ k, w.heap.size ≤ k → M k) (hl : l.length = n) (hm : m + n < 4294967296)
    (hS : Sl w a l) (hO : ∀ x, a = some x → 0 < n → ¬ M x.block) (p0 : 0 ≤ pg) (p1 : pg < 4294967296) (a0 : 0 ≤ at') (a1 : at' < 4294967296) (hn : hld true pg at' n = true) :
    Calls Try.prog 8 #[.pointer (some ⟨G, 0, none⟩), .int .u32 at', .slice a n cap] w fun e w' => e = .returned (.bool true) ∧ Off M w w' ∧ Mem w' M G B (m + n) pg mx hs (wrt (fun i => l.getD i 0) at'.toNat n f) := by
  have H := Aside0.mk h.is
  have HH := Aside0.mk (show Off M w w ∧ Mem w M G B (m + 0) pg mx hs (wrt (fun i => l.getD i 0) at'.toNat 0 f) from ⟨Off.refl _ _, h.congr (fun j => (wrt_zero _ _ _ j).symm)⟩)
  have HS := Aside0.mk hS
  have HO := Aside0.mk hO
  have HL := Aside0.mk hl
  clear h hS hO hl
  go_enter Try.func8, Try.ntmps8
  go_wp2_with (first | (go_at_call 11; with_reducible refine (memHolds (.pointer (some ⟨G, 0, none⟩)) true pg at' (n : Int) _ H.out p0 p1 a0 (by omega) (by omega) (by omega)).mono ?_; rintro e w1 ⟨rfl, rfl⟩; rw [hn]))
  clear H hn
  go_loopg [18] n (fun k v18 w' => ∃ i : Nat, v18 = .int .i64 (i : Int) ∧ Aside0 (k + i = n) ∧ Aside0 (Off M w1 w' ∧ Mem w' M G B (m + i) pg mx hs (wrt (fun i => l.getD i 0) at'.toNat i f)))
  case atStart => exact ⟨0, rfl, ⟨rfl⟩, HH⟩
  case round =>
    clear HH
    obtain ⟨i, rfl, hk, HH⟩ := hrel
    have hk' := hk.out
    obtain _ | kr := gk
    · have e : i = n := by omega
      subst e
      go_wp2
      go_ret
      exact ⟨rfl, HH.out⟩
    · have c : (i : Int) < (n : Int) := by omega
      have ci : i < n := by omega
      have i0 : 0 ≤ (i : Int) := by omega
      obtain ⟨x, rfl, hc⟩ := (HS.out.off HH.out.1 (fun x e => HO.out x e (by omega))) i (by have := HL.out; omega)
      go_wp2_with (first | (go_at_call 17; with_reducible refine (memPut' (at' + i) _ _ HH.out.2 (fun k hk => hM k (Nat.le_trans HH.out.1.size hk)) (by omega) (by omega) (by omega)).mono ?_; rintro e w2 ⟨rfl, ho, hm2⟩))
      go_roundg kr
      case measure => omega
      case rel =>
        have et : (at' + (i : Int)).toNat = at'.toNat + i := by omega
        rw [et] at hm2
        exact ⟨i + 1, rfl, ⟨by omega⟩, ⟨HH.out.1.trans ho, hm2.congr (fun j => wrt_succ (fun i => l.getD i 0) _ i f j)⟩⟩
end Go.Proofs.Ytiiimpcdhgegmaa.PA
/- memory: Read. -/
namespace Go.Proofs.Ytiiimpcdhgegmaa.PA
open Go.RowKit Go.Proofs.YtiiimpcdhgegmaaW.PrintWords Go.Proofs.YtiiimpcdhgegmaaW.PrintLast Go.Proofs.YtiiimpcdhgegmaaW.PrintMore
attribute [local go_sem] max2_int min2_int max_two min_two max_three min_three max_four min_four   -- for this text's walks alone
set_option linter.unusedVariables false
set_option linter.unusedSimpArgs false
set_option maxHeartbeats 8000000 in
theorem memReadNo (v : Value) (b : Bool) (pg at' n : Int) (w : World) (h : IsM w v b pg) (p0 : 0 ≤ pg) (p1 : pg < 4294967296) (a0 : 0 ≤ at') (a1 : at' < 4294967296) (n0 : -9223372036854775808 ≤ n) (n1 : n < 9223372036854775808)
    (hn : hld b pg at' n = false) :
    Calls Try.prog 9 #[v, .int .u32 at', .int .i64 n] w fun e w' => e = .returned (.tuple #[.slice none 0 0, .bool false]) ∧ w' = w := by
  have H := Aside0.mk h
  clear h
  go_enter Try.func9, Try.ntmps9
  go_wp2_with (first | (go_at_call 11; with_reducible refine (memHolds v b pg at' n _ H.out p0 p1 a0 (by omega) (by omega) (by omega)).mono ?_; rintro e w1 ⟨rfl, rfl⟩; rw [hn]))
  all_goals go_ret2
  all_goals exact ⟨rfl, rfl⟩
theorem infoB : (Try.prog.info? 5).map (fun i => (i.zero, i.size, i.bytes)) = some (some (.int .u8 0), 1, 1) := by kernel_rfl
theorem memMake (N : Nat) (w : World) (hN : N < 1099511627776) : ∃ w', (Instr.makeSlice 26 (.int .i64 (N : Int)) (.int .i64 (N : Int))).run Try.prog w = .ok (.slice (some ⟨w.heap.size, 0, none⟩) N N) w' ∧ Below w.heap.size w w' ∧ w.heap.size < w'.heap.size ∧
    ∀ i, i < N → w'.cell? ⟨w.heap.size, i, none⟩ = some (.int .u8 0) ∧ w'.frozen? ⟨w.heap.size, i, none⟩ = false := by
  have e := infoB
  cases hi : Try.prog.info? 5 with
  | none => rw [hi] at e; cases e
  | some i =>
    rw [hi] at e
    simp at e
    obtain ⟨e1, e2, e3⟩ := e
    obtain ⟨w', hr, hown, hg⟩ := run_make_full (P := Try.prog) (w := w) w.heap.size 26 5 i (.int .u8 0) 1 Try.underlying26 hi e1 e2 .i64 .i64 N (by rw [e3]; omega) (by unfold maxLen; omega) (Nat.le_refl _)
    refine ⟨w', hr, ⟨hg.os, hg.tape, hg.output, hg.size, fun k hk => hg.block k hk (by simp)⟩, ?_⟩
    obtain ⟨_, hv | ⟨g, cap, cur, hv, hb, hh, q1, q2, q3, q4⟩⟩ := hown
    · obtain ⟨hv, _⟩ := hv; cases hv
    · injection hv with hv _ hc
      obtain rfl := hc
      injection hv with hv
      injection hv with hv
      obtain rfl := hv
      refine ⟨?_, fun j hj => ?_⟩
      · by_cases q : w.heap.size < w'.heap.size
        · exact q
        · rw [Array.getElem?_eq_none (by omega)] at hh; cases hh
      · have hcur : cur[j]? = some (.int .u8 0) := by
          have : cur.toList.take (N * 1) = cur.toList := List.take_of_length_le (by simp [q3])
          rw [this] at q4
          have e5 : cur.toList = List.replicate N (.int .u8 0) := by
            rw [q4, Nat.mul_one]
            exact toList_madeCells_one _ _
          rw [← Array.getElem?_toList, e5, List.getElem?_replicate, if_pos hj]
        constructor
        · unfold World.cell?
          rw [hh]
          exact hcur
        · unfold World.frozen?
          rw [hh]
          simp
set_option maxHeartbeats 8000000 in
set_option maxRecDepth 100000 in
theorem memRead (at' : Int) (N : Nat) (w : World) {M : Nat → Prop} {G B m : Nat} {pg mx : Int} {hs : Bool} {f : Nat → Int} (h : Mem w M G B m pg mx hs f) (hN : N < 1099511627776)
    (p0 : 0 ≤ pg) (p1 : pg < 4294967296) (a0 : 0 ≤ at') (a1 : at' < 4294967296) (hn : hld true pg at' N = true) :
    Calls Try.prog 9 #[.pointer (some ⟨G, 0, none⟩), .int .u32 at', .int .i64 (N : Int)] w fun e w' => e = .returned (.tuple #[.slice (some ⟨w.heap.size, 0, none⟩) N N, .bool true]) ∧ Below w.heap.size w w' ∧ w.heap.size < w'.heap.size ∧
      ∀ i, i < N → w'.cell? ⟨w.heap.size, i, none⟩ = some (.int .u8 (f (at'.toNat + i))) := by
  have H := Aside0.mk h.is
  have HM := Aside0.mk h
  obtain ⟨wm, hmk, hb, hz, hcs⟩ := memMake N w hN
  have HB := Aside0.mk hb
  have HZ := Aside0.mk hz
  have HC := Aside0.mk hcs
  clear h hb hz hcs
  go_enter Try.func9, Try.ntmps9
  go_wp2_with (first | (go_at_call 11; with_reducible refine (memHolds (.pointer (some ⟨G, 0, none⟩)) true pg at' (N : Int) _ H.out p0 p1 a0 (by omega) (by omega) (by omega)).mono ?_; rintro e w1 ⟨rfl, rfl⟩; rw [hn]))
  clear H hn hmk
  have HH := Aside0.mk (show Below w1.heap.size w1 wm ∧ w1.heap.size < wm.heap.size ∧ ∀ j, j < N → wm.cell? ⟨w1.heap.size, j, none⟩ = some (.int .u8 (if j < 0 then f (at'.toNat + j) else 0)) ∧ wm.frozen? ⟨w1.heap.size, j, none⟩ = false from ⟨HB.out, HZ.out, fun j hj => HC.out j hj⟩)
  clear HB HZ HC
  go_loopg [20] N (fun k v20 w' => ∃ i : Nat, v20 = .int .i64 (i : Int) ∧ Aside0 (k + i = N) ∧ Aside0 (Below w1.heap.size w1 w' ∧ w1.heap.size < w'.heap.size ∧ ∀ j, j < N → w'.cell? ⟨w1.heap.size, j, none⟩ = some (.int .u8 (if j < i then f (at'.toNat + j) else 0)) ∧ w'.frozen? ⟨w1.heap.size, j, none⟩ = false))
  case atStart => exact ⟨0, rfl, ⟨rfl⟩, HH⟩
  case round =>
    clear HH
    obtain ⟨i, rfl, hk, HH⟩ := hrel
    have hk' := hk.out
    obtain _ | kr := gk
    · have e : i = N := by omega
      subst e
      go_wp2
      go_ret2
      exact ⟨rfl, HH.out.1, HH.out.2.1, fun j hj => by have := (HH.out.2.2 j hj).1; rw [if_pos hj] at this; exact this⟩
    · have c : (i : Int) < (N : Int) := by omega
      have ci : i < N := by omega
      have i0 : 0 ≤ (i : Int) := by omega
      obtain ⟨hc, hf⟩ := HH.out.2.2 i ci
      rw [if_neg (Nat.lt_irrefl i)] at hc
      go_wp2_with (first | (go_at_call 18; with_reducible refine (memGet' (at' + i) _ (HM.out.below HH.out.1) (by omega) (by omega)).mono ?_; rintro e w2 ⟨rfl, rfl⟩))
      go_roundg kr
      case measure => omega
      case rel =>
        have et : (at' + (i : Int)).toNat = at'.toNat + i := by omega
        rw [et]
        refine ⟨i + 1, rfl, ⟨by omega⟩, ⟨HH.out.1.setCell (Nat.le_refl _) _, by simpa [World.setCell] using HH.out.2.1, fun j hj => ⟨?_, (World.frozen?_setCell _ _ _ _).trans (HH.out.2.2 j hj).2⟩⟩⟩
        by_cases q : j = i
        · subst q
          rw [if_pos (Nat.lt_succ_self j)]
          exact World.cell?_setCell_same _ _ _ hc
        · rw [World.cell?_setCell_other _ _ _ _ (by intro e; injection e with _ e _; exact q e.symm), (HH.out.2.2 j hj).1]
          by_cases q2 : j < i
          · rw [if_pos q2, if_pos (by omega)]
          · rw [if_neg q2, if_neg (by omega)]
theorem memRead100 (at' : Int) (w : World) {M : Nat → Prop} {G B m : Nat} {pg mx : Int} {hs : Bool} {f : Nat → Int} (h : Mem w M G B m pg mx hs f)
    (p0 : 0 ≤ pg) (p1 : pg < 4294967296) (a0 : 0 ≤ at') (a1 : at' < 4294967296) (hn : hld true pg at' 100 = true) :
    Calls Try.prog 9 #[.pointer (some ⟨G, 0, none⟩), .int .u32 at', .int .i64 100] w fun e w' => e = .returned (.tuple #[.slice (some ⟨w.heap.size, 0, none⟩) 100 100, .bool true]) ∧ Below w.heap.size w w' ∧ w.heap.size < w'.heap.size ∧
      ∀ i, i < 100 → w'.cell? ⟨w.heap.size, i, none⟩ = some (.int .u8 (f (at'.toNat + i))) := memRead at' 100 w h (by decide) p0 p1 a0 a1 hn
end Go.Proofs.Ytiiimpcdhgegmaa.PA
/- memory: the chapter's example. -/
namespace Go.Proofs.Ytiiimpcdhgegmaa.PA
open Go.RowKit Go.Proofs.YtiiimpcdhgegmaaW.PrintWords Go.Proofs.YtiiimpcdhgegmaaW.PrintLast Go.Proofs.YtiiimpcdhgegmaaW.PrintMore
attribute [local go_sem] max2_int min2_int max_two min_two max_three min_three max_four min_four   -- for this text's walks alone
set_option linter.unusedVariables false
set_option linter.unusedSimpArgs false
theorem memNewOk (mn mx : Int) (hs : Bool) (w : World) (a0 : 0 ≤ mn) (a1 : mn < 4294967296) (b0 : 0 ≤ mx) (b1 : mx < 4294967296) (hE : newE mn mx hs = 0) :
    Calls Try.prog 7 #[.agg #[.int .u32 mn, .int .u32 mx, .bool hs]] w fun e w' => Below w.heap.size w w' ∧ ∃ G B, e = .returned (.tuple #[.pointer (some ⟨G, 0, none⟩), .int .i64 0]) ∧ Mem w' (fun k => w.heap.size ≤ k) G B 0 mn mx hs (fun _ => 0) := by
  refine (memNew mn mx hs w a0 a1 b0 b1).mono ?_
  rintro e w' ⟨hb, ⟨h, _⟩ | ⟨_, G, B, he, hm⟩⟩
  · exact absurd hE h
  · exact ⟨hb, G, B, he, hm⟩
theorem memNewBad (mn mx : Int) (hs : Bool) (w : World) (a0 : 0 ≤ mn) (a1 : mn < 4294967296) (b0 : 0 ≤ mx) (b1 : mx < 4294967296) (hE : newE mn mx hs ≠ 0) :
    Calls Try.prog 7 #[.agg #[.int .u32 mn, .int .u32 mx, .bool hs]] w fun e w' => e = .returned (.tuple #[.pointer none, .int .i64 (newE mn mx hs)]) ∧ Below w.heap.size w w' := by
  refine (memNew mn mx hs w a0 a1 b0 b1).mono ?_
  rintro e w' ⟨hb, ⟨_, h⟩ | ⟨h, _⟩⟩
  · exact ⟨h, hb⟩
  · exact absurd h hE
theorem byt_ok (v : Int) (i : Nat) : 0 ≤ byt v i ∧ byt v i < 256 := ⟨Int.emod_nonneg _ (by decide), Int.emod_lt_of_pos _ (by decide)⟩
theorem wrt_ok {g f : Nat → Int} (hg : ∀ i, 0 ≤ g i ∧ g i < 256) (hf : ∀ i, 0 ≤ f i ∧ f i < 256) (a n : Nat) (j : Nat) : 0 ≤ wrt g a n f j ∧ wrt g a n f j < 256 := by
  unfold wrt
  split
  · exact hg _
  · exact hf _
theorem awake7 : hv (wrt (byt 7) ((65000 : Int) + 532).toNat 4 (fun _ => 0)) ((65532 : Int) + 0).toNat 4 4 = 7 := by decide +kernel
theorem storeA (w : World) {M : Nat → Prop} {G B m : Nat} (h : Mem w M G B m 1 0 false (fun _ => 0)) (hM : ∀ k, w.heap.size ≤ k → M k) (hm : m + 8 < 4294967296) :
    Calls Try.prog 10 #[.pointer (some ⟨G, 0, none⟩), .int .u32 65000, .int .u32 532, .agg #[.int .u8 127, .int .i64 4, .bool false, .bool true], .int .u64 7] w fun e w' => e = .returned (.int .i64 0) ∧ Off M w w' ∧ Mem w' M G B (m + 4) 1 0 false (wrt (byt 7) ((65000 : Int) + 532).toNat 4 (fun _ => 0)) :=
  memStore 65000 532 4 127 false true 7 w h hM hm (by decide) (by decide) (by decide) (by decide) (by decide) (by decide) (by decide) (by decide) (by decide) (by decide)
theorem loadA (w : World) {M : Nat → Prop} {G B m : Nat} (h : Mem w M G B m 1 0 false (wrt (byt 7) ((65000 : Int) + 532).toNat 4 (fun _ => 0))) :
    Calls Try.prog 12 #[.pointer (some ⟨G, 0, none⟩), .int .u32 65532, .int .u32 0, .agg #[.int .u8 127, .int .i64 4, .bool false, .bool true]] w fun e w' => e = .returned (.tuple #[.int .u64 7, .int .i64 0]) ∧ Below w.heap.size w w' := by
  have := memLoad 65532 0 4 127 true w h (wrt_ok (byt_ok 7) (fun _ => ⟨by decide, by decide⟩) _ 4) (by decide) (by decide) (by decide) (by decide) (by decide) (by decide) (by decide) (by decide)
  rw [awake7] at this
  exact this
set_option maxHeartbeats 8000000 in
set_option maxRecDepth 100000 in
theorem memAwake (w : World) : Calls Try.prog 6 #[] w fun e w' => e = .returned (.bool true) ∧ Below w.heap.size w w' := by
  have hu2 := Try.underlying24
  have hu3 := Try.underlying35
  go_enter Try.func6, Try.ntmps6
  go_wp2_with (first | (go_at_call 7; with_reducible refine (memNewOk 1 0 false _ (by decide) (by decide) (by decide) (by decide) (by decide)).mono ?_; rintro e w1 ⟨hb1, G, B, rfl, hm⟩; have HB := Aside0.mk hb1; have HM := Aside0.mk hm; clear hb1 hm) | (go_at_call 10; with_reducible refine (memStoreNo (.pointer (some ⟨G, 0, none⟩)) true 1 65533 0 4 127 false true 7 _ (HM.out.is.below (below_alloc (Below.refl _ _) _)) (by decide) (by decide) (by decide) (by decide) (by decide) (by decide) (by decide) (by decide) (by decide)).mono ?_; rintro e w2 ⟨rfl, hb⟩; have z : w1.heap.size < w2.heap.size := Nat.lt_of_lt_of_le (by simp) hb.size; have c0 : w2.cell? ⟨w1.heap.size, 0, none⟩ = some (.int .u8 127) := ((Nr.bcell hb).1 w1.heap.size 0 (by simp)).trans (by simp [go_sem]); have c1 : w2.cell? ⟨w1.heap.size, 1, none⟩ = some (.int .i64 4) := ((Nr.bcell hb).1 w1.heap.size 1 (by simp)).trans (by simp [go_sem]); have c2 : w2.cell? ⟨w1.heap.size, 2, none⟩ = some (.bool false) := ((Nr.bcell hb).1 w1.heap.size 2 (by simp)).trans (by simp [go_sem]); have c3 : w2.cell? ⟨w1.heap.size, 3, none⟩ = some (.bool true) := ((Nr.bcell hb).1 w1.heap.size 3 (by simp)).trans (by simp [go_sem]); have hbb : Below w1.heap.size w1 w2 := below_step (below_alloc (Below.refl _ _) _) hb; replace HM := Aside0.mk ((HM.out.wider (M' := fun k => w.heap.size ≤ k ∧ k ≠ w1.heap.size) (fun k hk h => ⟨h, Nat.ne_of_lt hk⟩)).below hbb); replace HB := Aside0.mk (below_step HB.out hbb); have Z := Aside0.mk z; clear hb hbb z) | (go_at_call 10; with_reducible refine (storeA _ HM.out (fun k hk => ⟨Nat.le_trans HB.out.size hk, Nat.ne_of_gt (Nat.lt_of_lt_of_le Z.out hk)⟩) (by decide)).mono ?_; rintro e w3 ⟨rfl, ho, hm⟩; have hk : w3.heap[w1.heap.size]? = w2.heap[w1.heap.size]? := ho.block w1.heap.size Z.out (fun h => absurd rfl (And.right h)); replace c0 := (World.cell?_of_block (w := w2) (a := ⟨w1.heap.size, 0, none⟩) hk).trans c0; replace c1 := (World.cell?_of_block (w := w2) (a := ⟨w1.heap.size, 1, none⟩) hk).trans c1; replace c2 := (World.cell?_of_block (w := w2) (a := ⟨w1.heap.size, 2, none⟩) hk).trans c2; replace c3 := (World.cell?_of_block (w := w2) (a := ⟨w1.heap.size, 3, none⟩) hk).trans c3; replace HB := Aside0.mk (HB.out.trans (ho.below w.heap.size HB.out.size (fun k h => h.1))); replace HM := Aside0.mk hm; clear ho hm hk) | (go_at_call 12; with_reducible refine (loadA _ HM.out).mono ?_; rintro e w4 ⟨rfl, hb⟩; replace HB := Aside0.mk (below_step HB.out hb); clear hb))
  all_goals go_ret
  all_goals exact ⟨rfl, HB.out⟩
end Go.Proofs.Ytiiimpcdhgegmaa.PA
/- memory: Limits of a memory that is none; few, for one step. -/
namespace Go.Proofs.Ytiiimpcdhgegmaa.PA
open Go.RowKit Go.Proofs.YtiiimpcdhgegmaaW.PrintWords Go.Proofs.YtiiimpcdhgegmaaW.PrintLast Go.Proofs.YtiiimpcdhgegmaaW.PrintMore
attribute [local go_sem] max2_int min2_int max_two min_two max_three min_three max_four min_four   -- for this text's walks alone
set_option linter.unusedVariables false
set_option linter.unusedSimpArgs false
set_option maxHeartbeats 8000000 in
theorem memLimitsNo (v : Value) (pg : Int) (w : World) (h : IsM w v false pg) :
    Calls Try.prog 16 #[v] w fun e w' => e = .returned (.agg #[.int .u32 0, .int .u32 0, .bool false]) ∧ Below w.heap.size w w' := by
  have hu2 := Try.underlying35
  have H := Aside0.mk h
  clear h
  go_enter Try.func16, Try.ntmps16
  go_wp2_with (first | (go_at_call 20; with_reducible refine (memIs v false pg _ (H.out.below (below_alloc (Below.refl _ _) _))).mono ?_; rintro e w1 ⟨rfl, rfl⟩))
  exact bodyPost_ret (v := .agg #[.int .u32 0, .int .u32 0, .bool false]) (by simp [results, Try.results16, go_sem]) rfl ⟨rfl, by repeat (first | exact Below.refl _ _ | apply below_alloc | (refine below_set ?_ (by simp)))⟩
set_option maxHeartbeats 8000000 in
theorem memFew (A : Nat) (kd n bs of ty nb : Int) (sg st : Bool) (x : Int) (may : Bool) (a : Option Addr) (len cap : Nat) (w : World)
    (c0 : w.cell? ⟨A, 0, none⟩ = some (.int .i64 kd)) (c1 : w.cell? ⟨A, 1, none⟩ = some (.int .i64 n)) (c2 : w.cell? ⟨A, 2, none⟩ = some (.int .u32 bs)) (c3 : w.cell? ⟨A, 3, none⟩ = some (.int .u32 of)) (c4 : w.cell? ⟨A, 4, none⟩ = some (.int .u8 ty))
    (c5 : w.cell? ⟨A, 5, none⟩ = some (.int .i64 nb)) (c6 : w.cell? ⟨A, 6, none⟩ = some (.bool sg)) (c7 : w.cell? ⟨A, 7, none⟩ = some (.bool st)) (c8 : w.cell? ⟨A, 8, none⟩ = some (.int .u64 x)) (c9 : w.cell? ⟨A, 9, none⟩ = some (.bool may)) (c10 : w.cell? ⟨A, 10, none⟩ = some (.slice a len cap)) :
    Calls Try.prog 15 #[.slice (some ⟨A, 0, none⟩) 1 1, .int .i64 1] w fun e w' => (∃ b, e = .returned (.bool b)) ∧ Below w.heap.size w w' := by
  have hu2 := Try.underlying28
  have hu3 := Try.underlying24
  go_enter Try.func15, Try.ntmps15
  go_wp2
  go_loopg [9] 1 (fun k v9 w' => Aside0 (Below w.heap.size w w') ∧ ((k = 1 ∧ v9 = .int .i64 0 ∧ w' = w) ∨ (k = 0 ∧ v9 = .int .i64 1)))
  case atStart => exact ⟨⟨Below.refl _ _⟩, .inl ⟨rfl, rfl, rfl⟩⟩
  case round =>
    obtain ⟨HB, ⟨rfl, rfl, rfl⟩ | ⟨rfl, rfl⟩⟩ := hrel
    · go_wp2
      all_goals first
        | (go_ret; exact ⟨⟨_, rfl⟩, below_alloc (Below.refl _ _) _⟩)
        | (go_ret; exact ⟨.inl rfl, below_alloc (Below.refl _ _) _⟩)
        | (go_roundg 0; (case measure => omega); (case rel => exact ⟨⟨below_alloc (Below.refl _ _) _⟩, .inr ⟨rfl, rfl⟩⟩))
    · clear c0 c1 c2 c3 c4 c5 c6 c7 c8 c9 c10
      go_wp2
      go_ret
      exact ⟨⟨_, rfl⟩, HB.out⟩
end Go.Proofs.Ytiiimpcdhgegmaa.PA
/- memory: what MemoryGrows and MemoryKeeps lean on. -/
namespace Go.Proofs.Ytiiimpcdhgegmaa.PA
open Go.RowKit Go.Proofs.YtiiimpcdhgegmaaW.PrintWords Go.Proofs.YtiiimpcdhgegmaaW.PrintLast Go.Proofs.YtiiimpcdhgegmaaW.PrintMore
attribute [local go_sem] max2_int min2_int max_two min_two max_three min_three max_four min_four   -- for this text's walks alone
set_option linter.unusedVariables false
set_option linter.unusedSimpArgs false
theorem convA (w : World) (a : Option Addr) (l : List Int) (n cap : Nat) (hn : l.length = n) (h : Sl w a l) : (Go.convert 26 9 (.slice a n cap)).run Try.prog w = .ok (.string (strOfNums l)) w := by
  subst hn
  cases a with
  | none =>
    have hl : l = [] := by
      cases l with
      | nil => rfl
      | cons y r => obtain ⟨x, e, _⟩ := h 0 (by simp); cases e
    subst hl
    exact run_convert_bytes_nil w 26 5 Try.underlying26 Try.underlying5 0 cap 9 Try.underlying9
  | some x =>
    have hl : (loadCells x l.length).run Try.prog w = .ok (l.map (Value.int .u8)).toArray w := by
      have := run_loadCells_list (P := Try.prog) w x (l.map (Value.int .u8)) (fun j v hj => by
        have hjl : j < l.length := by
          rcases Nat.lt_or_ge j l.length with h | h
          · exact h
          · simp [List.getElem?_eq_none (show (l.map (Value.int .u8)).length ≤ j by simpa using h)] at hj
        obtain ⟨y, e, hc⟩ := h j hjl
        obtain rfl := Option.some.inj e
        rw [hc]
        simp [List.getElem?_eq_getElem hjl] at hj
        subst hj
        simp [List.getD, List.getElem?_eq_getElem hjl])
      simpa using this
    rw [run_convert_bytes_string w 26 9 5 _ l.length cap Try.underlying26 Try.underlying5 Try.underlying9, run_bytesToString w _ l.length cap l hl, foldl_push_bytes]
    simp [strOfNums, ByteArray.empty, ByteArray.emptyWithCapacity]
    rfl
theorem memWriteAny (at' : Int) (a : Option Addr) (l : List Int) (n cap : Nat) (w : World) {M : Nat → Prop} {G B m : Nat} {pg mx : Int} {hs : Bool} {f : Nat → Int} (h : Mem w M G B m pg mx hs f) (hM : ∀ k, w.heap.size ≤ k → M k) (hl : l.length = n) (hm : m + n < 4294967296)
    (hS : Sl w a l) (hO : ∀ x, a = some x → 0 < n → ¬ M x.block) (p0 : 0 ≤ pg) (p1 : pg < 4294967296) (a0 : 0 ≤ at') (a1 : at' < 4294967296) :
    Calls Try.prog 8 #[.pointer (some ⟨G, 0, none⟩), .int .u32 at', .slice a n cap] w fun e w' => e = .returned (.bool (hld true pg at' n)) ∧ Off M w w' ∧
      ∃ m', m' ≤ m + n ∧ Mem w' M G B m' pg mx hs (if hld true pg at' n = true then wrt (fun i => l.getD i 0) at'.toNat n f else f) := by
  by_cases hq : hld true pg at' n = true
  · rw [if_pos hq, hq]
    refine (memWrite at' a l n cap w h hM hl hm hS hO p0 p1 a0 a1 hq).mono ?_
    rintro e w' ⟨h1, h2, h3⟩
    exact ⟨h1, h2, _, Nat.le_refl _, h3⟩
  · have hq' : hld true pg at' n = false := by simpa using hq
    rw [if_neg hq, hq']
    refine (memWriteNo _ true pg at' a n cap w h.is p0 p1 a0 a1 (by omega) hq').mono ?_
    rintro e w' ⟨h1, rfl⟩
    exact ⟨h1, Off.refl _ _, m, by omega, h⟩
def rfs (pg mx by' : Int) (hs may : Bool) : Bool := !may || decide (mostP mx hs < by' ∨ mostP mx hs - by' < pg)
theorem memGrowAny (by' : Int) (may : Bool) (w : World) {M : Nat → Prop} {G B n : Nat} {pg mx : Int} {hs : Bool} {f : Nat → Int} (h : Mem w M G B n pg mx hs f) (p0 : 0 ≤ pg) (p1 : pg ≤ 16) (m0 : 0 ≤ mx) (m1 : mx < 4294967296) (y0 : 0 ≤ by') (y1 : by' < 4294967296) :
    Calls Try.prog 14 #[.pointer (some ⟨G, 0, none⟩), .int .u32 by', .bool may] w fun e w' =>
      e = .returned (.int .u32 (if rfs pg mx by' hs may = true then 4294967295 else pg)) ∧ Off M w w' ∧ Mem w' M G B n (if rfs pg mx by' hs may = true then pg else pg + by') mx hs f := by
  cases may with
  | false =>
    have e : rfs pg mx by' hs false = true := rfl
    rw [if_pos e, if_pos e]
    refine (memGrowNo _ pg by' false true w h.is rfl).mono ?_
    rintro e w' ⟨h1, rfl⟩
    exact ⟨h1, Off.refl _ _, h⟩
  | true =>
    refine (memGrow by' w h p0 p1 m0 m1 y0 y1).mono ?_
    rintro e w' (⟨q, h1, rfl⟩ | ⟨q, h1, h2, h3⟩)
    · have e : rfs pg mx by' hs true = true := by simpa [rfs] using q
      rw [if_pos e, if_pos e]
      exact ⟨h1, Off.refl _ _, h⟩
    · have e : ¬ rfs pg mx by' hs true = true := by simpa [rfs] using q
      rw [if_neg e, if_neg e]
      exact ⟨h1, h2, h3⟩
end Go.Proofs.Ytiiimpcdhgegmaa.PA
