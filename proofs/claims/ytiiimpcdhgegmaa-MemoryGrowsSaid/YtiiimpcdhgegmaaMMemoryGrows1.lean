/- What the Go functions that the statement MemoryGrows reaches compute, and the mathematics on it, in the order in which one leans on the other; for every input. -/
import Derived.Test.YtiiimpcdhgegmaaVMemoryGrows0
import Derived.Test.YtiiimpcdhgegmaaMMemoryGrows0
import Derived.Maps.OwnOps
/- memory: a byte written. -/
namespace Go.Proofs.Ytiiimpcdhgegmaa.PA
open Go.RowKit Go.Proofs.YtiiimpcdhgegmaaW.PrintWords Go.Proofs.YtiiimpcdhgegmaaW.PrintLast Go.Proofs.YtiiimpcdhgegmaaW.PrintMore
attribute [local go_sem] max2_int min2_int max_two min_two max_three min_three max_four min_four   -- for this text's walks alone
set_option linter.unusedVariables false
set_option linter.unusedSimpArgs false
open Go.Maps (Keyed)
structure Off (M : Nat → Prop) (w w' : World) : Prop where
  os : w'.os = w.os
  tape : w'.tape = w.tape
  output : w'.output = w.output
  size : w.heap.size ≤ w'.heap.size
  block : ∀ k, k < w.heap.size → ¬ M k → w'.heap[k]? = w.heap[k]?
theorem Off.refl (M : Nat → Prop) (w : World) : Off M w w := ⟨rfl, rfl, rfl, Nat.le_refl _, fun _ _ _ => rfl⟩
theorem Off.trans {M : Nat → Prop} {a b c : World} (h : Off M a b) (k : Off M b c) : Off M a c :=
  ⟨k.os.trans h.os, k.tape.trans h.tape, k.output.trans h.output, Nat.le_trans h.size k.size, fun i hi hm => (k.block i (Nat.lt_of_lt_of_le hi h.size) hm).trans (h.block i hi hm)⟩
theorem Off.mono {M M' : Nat → Prop} {a b : World} (h : Off M a b) (hm : ∀ k, M k → M' k) : Off M' a b :=
  ⟨h.os, h.tape, h.output, h.size, fun i hi q => h.block i hi (fun r => q (hm _ r))⟩
theorem Off.grown {M : Nat → Prop} {a b : World} {k : Nat} (h : a.grownBy b (some k)) (hk : M k) : Off M a b :=
  ⟨h.os, h.tape, h.output, h.size, fun i hi q => h.block i hi (fun e => q (by injection e with e; exact e ▸ hk))⟩
theorem Off.alloc {M : Nat → Prop} (w : World) (o : Obj) : Off M w (w.alloc o) := ⟨rfl, rfl, rfl, by simp, fun i hi _ => Below.heap_alloc _ _ _ hi⟩
theorem Off.setCell {M : Nat → Prop} (w : World) {p : Addr} (hp : M p.block) (u : Value) : Off M w (w.setCell p u) :=
  ⟨rfl, rfl, rfl, by simp [World.setCell], fun k _ q => Below.heap_setCell _ _ _ _ (fun e => q (e ▸ hp))⟩
theorem Off.below {M : Nat → Prop} {w w' : World} (h : Off M w w') (B : Nat) (hB : B ≤ w.heap.size) (hM : ∀ k, M k → B ≤ k) : Below B w w' :=
  ⟨h.os, h.tape, h.output, h.size, fun k hk => h.block k (by omega) (fun q => by have := hM _ q; omega)⟩
def upd (f : Nat → Int) (a : Nat) (x : Int) (j : Nat) : Int := if j = a then x else f j
theorem Mem.wider {w : World} {M M' : Nat → Prop} {G B n : Nat} {pg mx : Int} {hs : Bool} {f : Nat → Int} (h : Mem w M G B n pg mx hs f) (hm : ∀ k, k < w.heap.size → M k → M' k) : Mem w M' G B n pg mx hs f := by
  obtain ⟨D, c, P⟩ := h.pgs
  refine ⟨hm _ h.lt h.b1, hm _ P.own.lt h.b2, h.ne, h.lt, h.c0, h.c1, h.c2, h.c3, h.fz, D, c, P.own, P.at_, P.zero, ?_, P.inj⟩
  intro p b hc
  obtain ⟨g1, g2, g3, g4, g5⟩ := P.blk p b hc
  exact ⟨hm _ g4 g1, g2, g3, g4, g5⟩
theorem Mem.congr {w : World} {M : Nat → Prop} {G B n : Nat} {pg mx : Int} {hs : Bool} {f f' : Nat → Int} (h : Mem w M G B n pg mx hs f) (e : ∀ j, f j = f' j) : Mem w M G B n pg mx hs f' := by
  have : f = f' := funext e
  exact this ▸ h
theorem Mem.off {w w' : World} {M : Nat → Prop} {G B n : Nat} {pg mx : Int} {hs : Bool} {f : Nat → Int} (h : Mem w M G B n pg mx hs f) (hs' : w.heap.size ≤ w'.heap.size) (hb : ∀ k, k < w.heap.size → M k → w'.heap[k]? = w.heap[k]?) : Mem w' M G B n pg mx hs f := by
  obtain ⟨D, c, P⟩ := h.pgs
  have kc : ∀ b o, b < w.heap.size → M b → w'.cell? ⟨b, o, none⟩ = w.cell? ⟨b, o, none⟩ := fun b o hl hm => World.cell?_of_block (w := w) (hb b hl hm)
  have kf : ∀ b o, b < w.heap.size → M b → w'.frozen? ⟨b, o, none⟩ = w.frozen? ⟨b, o, none⟩ := fun b o hl hm => World.frozen?_of_block (w := w) (hb b hl hm)
  refine ⟨h.b1, h.b2, h.ne, Nat.lt_of_lt_of_le h.lt hs', (kc _ _ h.lt h.b1).trans h.c0, (kc _ _ h.lt h.b1).trans h.c1, (kc _ _ h.lt h.b1).trans h.c2, (kc _ _ h.lt h.b1).trans h.c3, (kf _ _ h.lt h.b1).trans h.fz, D, c, ?_⟩
  refine ⟨?_, P.at_, P.zero, ?_, P.inj⟩
  · obtain ⟨es, clock, e1, e2, e3, e4⟩ := P.own
    exact ⟨es, clock, (hb _ P.own.lt h.b2).trans e1, e2, e3, e4⟩
  · intro p b hc
    obtain ⟨g1, g2, g3, g4, g5⟩ := P.blk p b hc
    exact ⟨g1, g2, g3, Nat.lt_of_lt_of_le g4 hs', fun i hi => ⟨(kc _ _ g4 g1).trans (g5 i hi).1, (kf _ _ g4 g1).trans (g5 i hi).2⟩⟩
theorem Mem.set {w : World} {M : Nat → Prop} {G B n : Nat} {pg mx : Int} {hs : Bool} {f : Nat → Int} (h : Mem w M G B n pg mx hs f) {D : DataW Unit} {c : Nat → Nat} (P : Pgs w M G B n f D c) {p b i : Nat} (hc : c p = b + 1) (hi : i < 64) (x : Int) :
    Mem (w.setCell ⟨b, i, none⟩ (.int .u8 x)) M G B n pg mx hs (upd f (64 * p + i) x) := by
  obtain ⟨g1, g2, g3, g4, g5⟩ := P.blk p b hc
  have hg : w.grownBy (w.setCell ⟨b, i, none⟩ (.int .u8 x)) (some b) := ⟨rfl, rfl, rfl, by simp [World.setCell], fun k hk q => Below.heap_setCell _ _ _ _ (fun e => q (by rw [e]))⟩
  have kc : ∀ b' o, b' < w.heap.size → b' ≠ b → (w.setCell ⟨b, i, none⟩ (.int .u8 x)).cell? ⟨b', o, none⟩ = w.cell? ⟨b', o, none⟩ := fun b' o hl hm => World.cell?_of_block (w := w) (hg.block b' hl (fun e => hm (by injection e)))
  have kf : ∀ b' o, b' < w.heap.size → b' ≠ b → (w.setCell ⟨b, i, none⟩ (.int .u8 x)).frozen? ⟨b', o, none⟩ = w.frozen? ⟨b', o, none⟩ := fun b' o hl hm => World.frozen?_of_block (w := w) (hg.block b' hl (fun e => hm (by injection e)))
  refine ⟨h.b1, h.b2, h.ne, Nat.lt_of_lt_of_le h.lt hg.size, (kc _ _ h.lt (Ne.symm g2)).trans h.c0, (kc _ _ h.lt (Ne.symm g2)).trans h.c1, (kc _ _ h.lt (Ne.symm g2)).trans h.c2, (kc _ _ h.lt (Ne.symm g2)).trans h.c3, (kf _ _ h.lt (Ne.symm g2)).trans h.fz, D, c, ?_⟩
  refine ⟨P.own.kept hg (by simpa using Ne.symm g3), P.at_, ?_, ?_, P.inj⟩
  · intro p' h0 j hj
    have : 64 * p' + j ≠ 64 * p + i := by
      intro e
      have : p' = p := by omega
      subst this; omega
    unfold upd
    rw [if_neg this]
    exact P.zero p' h0 j hj
  · intro p' b' hc'
    obtain ⟨q1, q2, q3, q4, q5⟩ := P.blk p' b' hc'
    refine ⟨q1, q2, q3, Nat.lt_of_lt_of_le q4 hg.size, fun j hj => ?_⟩
    by_cases hp : p' = p
    · subst hp
      have hbb : b' = b := by omega
      subst hbb
      by_cases hj2 : j = i
      · subst hj2
        refine ⟨?_, (World.frozen?_setCell _ _ _ _).trans (q5 j hj).2⟩
        rw [World.cell?_setCell_same _ _ _ (q5 j hj).1]
        simp [upd]
      · refine ⟨?_, (World.frozen?_setCell _ _ _ _).trans (q5 j hj).2⟩
        rw [World.cell?_setCell_other _ _ _ _ (fun e => hj2 (by injection e with _ e _; exact e.symm)), (q5 j hj).1]
        simp only [upd]
        rw [if_neg (by omega)]
    · have hb2 : b' ≠ b := by
        intro e
        subst e
        exact hp (P.inj _ _ (hc'.trans hc.symm) (by omega))
      refine ⟨?_, (kf _ _ q4 hb2).trans (q5 j hj).2⟩
      rw [kc _ _ q4 hb2, (q5 j hj).1]
      simp only [upd]
      rw [if_neg]
      intro e
      exact hp (by omega)
theorem Mem.new {w w2 : World} {M : Nat → Prop} {G B n : Nat} {pg mx : Int} {hs : Bool} {f : Nat → Int} (h : Mem w M G B n pg mx hs f) (hM : ∀ k, w.heap.size ≤ k → M k) {D : DataW Unit} {c : Nat → Nat} (P : Pgs w M G B n f D c) {p : Nat} (hc : c p = 0) (o : Obj)
    (ho : ∀ i, i < 64 → (w.alloc o).cell? ⟨w.heap.size, i, none⟩ = some (.int .u8 0) ∧ (w.alloc o).frozen? ⟨w.heap.size, i, none⟩ = false)
    (h1 : w2.ownsMap Try.prog 25 pR B (n + 1) (D.put (.int .u64 (p : Int)) (.lit (.int .i64 ((w.heap.size + 1 : Nat) : Int))))) (h2 : (w.alloc o).grownBy w2 (some B)) :
    ∃ D' c', Pgs w2 M G B (n + 1) f D' c' ∧ c' p = w.heap.size + 1 ∧ Mem w2 M G B (n + 1) pg mx hs f := by
  have hz : (w.alloc o).heap.size = w.heap.size + 1 := by simp
  have kc : ∀ b' o', b' < w.heap.size → b' ≠ B → w2.cell? ⟨b', o', none⟩ = w.cell? ⟨b', o', none⟩ := fun b' o' hl hm =>
    (World.cell?_of_block (w := w.alloc o) (h2.block b' (by omega) (fun e => hm (by injection e)))).trans (World.cell?_of_block (w := w) (Below.heap_alloc _ _ _ hl))
  have kf : ∀ b' o', b' < w.heap.size → b' ≠ B → w2.frozen? ⟨b', o', none⟩ = w.frozen? ⟨b', o', none⟩ := fun b' o' hl hm =>
    (World.frozen?_of_block (w := w.alloc o) (h2.block b' (by omega) (fun e => hm (by injection e)))).trans (World.frozen?_of_block (w := w) (Below.heap_alloc _ _ _ hl))
  have hsz : w.heap.size + 1 ≤ w2.heap.size := hz ▸ h2.size
  have hBl := P.own.lt
  have P2 : Pgs w2 M G B (n + 1) f (D.put (.int .u64 (p : Int)) (.lit (.int .i64 ((w.heap.size + 1 : Nat) : Int)))) (fun q => if q = p then w.heap.size + 1 else c q) := by
    refine ⟨h1, ?_, ?_, ?_, ?_⟩
    · intro q hq
      by_cases e : q = p
      · subst e
        rw [if_pos rfl]
        refine Go.Maps.atKey_put_same ?_ ?_ _ _
        · obtain ⟨es, _, _, _, _, rfl⟩ := P.own
          exact ⟨_, rfl⟩
        · exact kMem.key (keyMem hq)
      · rw [if_neg e, Go.Maps.atKey_put_other (by simp; omega), P.at_ q hq]
    · intro q hq
      by_cases e : q = p
      · simp [e] at hq
      · simp only [e, if_false] at hq
        exact P.zero q hq
    · intro q b' hq
      by_cases e : q = p
      · subst e
        simp only [if_true] at hq
        have : b' = w.heap.size := by omega
        subst this
        refine ⟨hM _ (Nat.le_refl _), by have := h.lt; omega, by omega, by omega, fun i hi => ?_⟩
        have hb' : w2.heap[w.heap.size]? = (w.alloc o).heap[w.heap.size]? := h2.block _ (by omega) (fun e => by injection e with e; omega)
        have fz := P.zero q hc i hi
        rw [fz]
        exact ⟨(World.cell?_of_block (w := w.alloc o) hb').trans (ho i hi).1, (World.frozen?_of_block (w := w.alloc o) hb').trans (ho i hi).2⟩
      · simp only [e, if_false] at hq
        obtain ⟨g1, g2, g3, g4, g5⟩ := P.blk q b' hq
        exact ⟨g1, g2, g3, by omega, fun i hi => ⟨(kc _ _ g4 g3).trans (g5 i hi).1, (kf _ _ g4 g3).trans (g5 i hi).2⟩⟩
    · intro q q' e1 e2
      by_cases a1 : q = p
      · by_cases a2 : q' = p
        · omega
        · simp only [a1, a2, if_true, if_false] at e1
          have := (P.blk q' w.heap.size (by omega)).2.2.2.1
          omega
      · by_cases a2 : q' = p
        · simp only [a1, a2, if_true, if_false] at e1
          have := (P.blk q w.heap.size (by omega)).2.2.2.1
          omega
        · simp only [a1, a2, if_false] at e1 e2
          exact P.inj _ _ e1 e2
  refine ⟨_, _, P2, if_pos rfl, ?_⟩
  refine ⟨h.b1, h.b2, h.ne, by have := h.lt; omega, (kc _ _ h.lt (Ne.symm h.ne)).trans h.c0, (kc _ _ h.lt (Ne.symm h.ne)).trans h.c1, (kc _ _ h.lt (Ne.symm h.ne)).trans h.c2, (kc _ _ h.lt (Ne.symm h.ne)).trans h.c3, (kf _ _ h.lt (Ne.symm h.ne)).trans h.fz, _, _, P2⟩
end Go.Proofs.Ytiiimpcdhgegmaa.PA
/- memory: (*Memory).put. -/
namespace Go.Proofs.Ytiiimpcdhgegmaa.PA
open Go.RowKit Go.Proofs.YtiiimpcdhgegmaaW.PrintWords Go.Proofs.YtiiimpcdhgegmaaW.PrintLast Go.Proofs.YtiiimpcdhgegmaaW.PrintMore
attribute [local go_sem] max2_int min2_int max_two min_two max_three min_three max_four min_four   -- for this text's walks alone
set_option linter.unusedVariables false
set_option linter.unusedSimpArgs false
open Go.Maps (Keyed)
theorem zero64 (w : World) (i : Nat) (hi : i < 64) : (w.alloc (.cells #[.int .u8 0, .int .u8 0, .int .u8 0, .int .u8 0, .int .u8 0, .int .u8 0, .int .u8 0, .int .u8 0, .int .u8 0, .int .u8 0, .int .u8 0, .int .u8 0, .int .u8 0, .int .u8 0, .int .u8 0, .int .u8 0, .int .u8 0, .int .u8 0, .int .u8 0, .int .u8 0, .int .u8 0, .int .u8 0, .int .u8 0, .int .u8 0, .int .u8 0, .int .u8 0, .int .u8 0, .int .u8 0, .int .u8 0, .int .u8 0, .int .u8 0, .int .u8 0, .int .u8 0, .int .u8 0, .int .u8 0, .int .u8 0, .int .u8 0, .int .u8 0, .int .u8 0, .int .u8 0, .int .u8 0, .int .u8 0, .int .u8 0, .int .u8 0, .int .u8 0, .int .u8 0, .int .u8 0, .int .u8 0, .int .u8 0, .int .u8 0, .int .u8 0, .int .u8 0, .int .u8 0, .int .u8 0, .int .u8 0, .int .u8 0, .int .u8 0, .int .u8 0, .int .u8 0, .int .u8 0, .int .u8 0, .int .u8 0, .int .u8 0, .int .u8 0] 65)).cell? ⟨w.heap.size, i, none⟩ = some (.int .u8 0) ∧ (w.alloc (.cells #[.int .u8 0, .int .u8 0, .int .u8 0, .int .u8 0, .int .u8 0, .int .u8 0, .int .u8 0, .int .u8 0, .int .u8 0, .int .u8 0, .int .u8 0, .int .u8 0, .int .u8 0, .int .u8 0, .int .u8 0, .int .u8 0, .int .u8 0, .int .u8 0, .int .u8 0, .int .u8 0, .int .u8 0, .int .u8 0, .int .u8 0, .int .u8 0, .int .u8 0, .int .u8 0, .int .u8 0, .int .u8 0, .int .u8 0, .int .u8 0, .int .u8 0, .int .u8 0, .int .u8 0, .int .u8 0, .int .u8 0, .int .u8 0, .int .u8 0, .int .u8 0, .int .u8 0, .int .u8 0, .int .u8 0, .int .u8 0, .int .u8 0, .int .u8 0, .int .u8 0, .int .u8 0, .int .u8 0, .int .u8 0, .int .u8 0, .int .u8 0, .int .u8 0, .int .u8 0, .int .u8 0, .int .u8 0, .int .u8 0, .int .u8 0, .int .u8 0, .int .u8 0, .int .u8 0, .int .u8 0, .int .u8 0, .int .u8 0, .int .u8 0, .int .u8 0] 65)).frozen? ⟨w.heap.size, i, none⟩ = false := by
  show (w.alloc (.cells (Array.replicate 64 (.int .u8 0)) 65)).cell? ⟨w.heap.size, i, none⟩ = some (.int .u8 0) ∧ (w.alloc (.cells (Array.replicate 64 (.int .u8 0)) 65)).frozen? ⟨w.heap.size, i, none⟩ = false
  have e : ∀ o : Obj, (w.alloc o).heap[w.heap.size]? = some o := fun o => by show (w.heap.push o)[w.heap.size]? = _; simp
  constructor
  · unfold World.cell?
    rw [e]
    simp [Array.getElem?_replicate, hi]
  · unfold World.frozen?
    rw [e]
    simp
set_option maxHeartbeats 8000000 in
set_option maxRecDepth 100000 in
theorem memPut (at' : Nat) (x : Int) (w : World) {M : Nat → Prop} {G B n : Nat} {pg mx : Int} {hs : Bool} {f : Nat → Int} (h : Mem w M G B n pg mx hs f) (hM : ∀ k, w.heap.size ≤ k → M k) (ha : at' < 18446744073709551616) (hn : n < 4294967296) :
    Calls Try.prog 17 #[.pointer (some ⟨G, 0, none⟩), .int .u64 (at' : Int), .int .u8 x] w fun e w' => e = .returned (.tuple #[]) ∧ Off M w w' ∧ Mem w' M G B (n + 1) pg mx hs (upd f at' x) := by
  have hu1 := Try.underlying52
  have hu2 := Try.underlying65
  have c3 := h.c3
  have hGl := h.lt
  have hGB := h.ne
  obtain ⟨D, c, P, hl⟩ := h.look (at' / 64) (by omega)
  have e64 : 64 * (at' / 64) + at' % 64 = at' := Nat.div_add_mod at' 64
  have hmod : at' % 64 < 64 := Nat.mod_lt _ (by decide)
  rcases hl with ⟨hc, hrun⟩ | ⟨b, hc, hrun⟩
  · have hkey : keyOf Try.prog 25 (.int .u64 ((at' : Int) / 64)) = some (.int .u64 ((at' / 64 : Nat) : Int)) := keyMem (p := at' / 64) (by omega)
    have hown := P.own
    have hn' : n < maxLen := by unfold maxLen; omega
    go_enter Try.func17, Try.ntmps17
    go_wp2_with (first | (at_lookup; refine wpList_look _ rfl _ _ 50 rfl B _ _ rfl rfl hrun ?_) | (at_mapUpdate; refine wpList_mapUpdate_own _ rfl _ _ _ 50 rfl 25 63 kMem Try.underlying50 pR B n D rfl (hown.alloc _) hn' _ _ _ rfl rfl hkey (.lit (.int .i64 ((w.heap.size + 1 : Nat) : Int))) [] rfl ?_; intro w2 hown2 hgrow2; obtain ⟨D2, c2, P2, hc2, M2⟩ := h.new hM P hc _ (zero64 w) hown2 hgrow2; have o2 : Off M w w2 := (Off.alloc w _).trans (Off.grown hgrow2 h.b2); obtain ⟨g1, g2, g3, g4, g5⟩ := P2.blk _ _ hc2; obtain ⟨q1, q2⟩ := g5 (at' % 64) hmod; clear hown2 hgrow2))
    refine bodyPost_end (results_none rfl _ _ _) rfl ?_
    have := M2.set P2 hc2 hmod x
    rw [e64] at this
    exact ⟨rfl, o2.trans (Off.setCell _ g1 _), this⟩
  · obtain ⟨g1, g2, g3, g4, g5⟩ := P.blk _ b hc
    have q := g5 (at' % 64) hmod
    obtain ⟨q1, q2⟩ := q
    go_enter Try.func17, Try.ntmps17
    go_wp2_with (first | (at_lookup; refine wpList_look _ rfl _ _ 50 rfl B _ _ rfl rfl hrun ?_))
    refine bodyPost_end (results_none rfl _ _ _) rfl ?_
    have := h.set P hc hmod x
    rw [e64] at this
    obtain ⟨D', c', P'⟩ := this.pgs
    refine ⟨rfl, Off.setCell _ g1 _, this.b1, this.b2, this.ne, this.lt, this.c0, this.c1, this.c2, this.c3, this.fz, D', c', P'.own.mono (Nat.le_succ _), P'.at_, P'.zero, P'.blk, P'.inj⟩
end Go.Proofs.Ytiiimpcdhgegmaa.PA
/- memory: what it answers of itself. -/
namespace Go.Proofs.Ytiiimpcdhgegmaa.PA
open Go.RowKit Go.Proofs.YtiiimpcdhgegmaaW.PrintWords Go.Proofs.YtiiimpcdhgegmaaW.PrintLast Go.Proofs.YtiiimpcdhgegmaaW.PrintMore
attribute [local go_sem] max2_int min2_int max_two min_two max_three min_three max_four min_four   -- for this text's walks alone
set_option linter.unusedVariables false
set_option linter.unusedSimpArgs false
def IsM (w : World) (v : Value) (b : Bool) (pg : Int) : Prop :=
  (b = false ∧ pg = 0 ∧ v = .pointer none) ∨ (b = false ∧ pg = 0 ∧ ∃ G, v = .pointer (some ⟨G, 0, none⟩) ∧ w.cell? ⟨G, 3, none⟩ = some (.map none)) ∨
    (b = true ∧ ∃ G B, v = .pointer (some ⟨G, 0, none⟩) ∧ w.cell? ⟨G, 3, none⟩ = some (.map (some B)) ∧ w.cell? ⟨G, 0, none⟩ = some (.int .u32 pg))
theorem Mem.is {w : World} {M : Nat → Prop} {G B n : Nat} {pg mx : Int} {hs : Bool} {f : Nat → Int} (h : Mem w M G B n pg mx hs f) : IsM w (.pointer (some ⟨G, 0, none⟩)) true pg := .inr (.inr ⟨rfl, G, B, rfl, h.c3, h.c0⟩)
theorem IsM.below {w w' : World} {v : Value} {b : Bool} {pg : Int} (h : IsM w v b pg) (hb : Below w.heap.size w w') : IsM w' v b pg := by
  have k := Nr.bcell hb
  rcases h with h | ⟨h1, h2, G, h3, h4⟩ | ⟨h1, G, B, h2, h3, h4⟩
  · exact .inl h
  · exact .inr (.inl ⟨h1, h2, G, h3, (k.1 _ _ (World.block_lt_of_cell? w _ h4)).trans h4⟩)
  · exact .inr (.inr ⟨h1, G, B, h2, (k.1 _ _ (World.block_lt_of_cell? w _ h3)).trans h3, (k.1 _ _ (World.block_lt_of_cell? w _ h3)).trans h4⟩)
theorem IsM.f {w : World} {v : Value} {pg : Int} (h : IsM w v false pg) : pg = 0 := by
  rcases h with ⟨_, h, _⟩ | ⟨_, h, _⟩ | ⟨h, _⟩
  · exact h
  · exact h
  · cases h
theorem IsM.t {w : World} {v : Value} {pg : Int} (h : IsM w v true pg) : ∃ G B, v = .pointer (some ⟨G, 0, none⟩) ∧ w.cell? ⟨G, 3, none⟩ = some (.map (some B)) ∧ w.cell? ⟨G, 0, none⟩ = some (.int .u32 pg) := by
  rcases h with ⟨h, _⟩ | ⟨h, _⟩ | ⟨_, h⟩
  · cases h
  · cases h
  · exact h
set_option maxHeartbeats 4000000 in
theorem memIs (v : Value) (b : Bool) (pg : Int) (w : World) (h : IsM w v b pg) : Calls Try.prog 20 #[v] w fun e w' => e = .returned (.bool b) ∧ w' = w := by
  have hu1 := Try.underlying52
  have hu2 := Try.underlying50
  rcases h with ⟨rfl, rfl, rfl⟩ | ⟨rfl, rfl, G, rfl, h4⟩ | ⟨rfl, G, B, rfl, h3, h4⟩
  · go_enter Try.func20, Try.ntmps20
    go_wp2
    go_ret
    exact ⟨rfl, rfl⟩
  · go_enter Try.func20, Try.ntmps20
    have e : (Go.binOp BinOp.neq 50 (.map none) (.map none)).run Try.prog w = .ok (.bool false) w := by kernel_rfl
    go_wp2
    go_ret
    exact ⟨rfl, rfl⟩
  · go_enter Try.func20, Try.ntmps20
    have e : (Go.binOp BinOp.neq 50 (.map (some B)) (.map none)).run Try.prog w = .ok (.bool true) w := by kernel_rfl
    go_wp2
    go_ret
    exact ⟨rfl, rfl⟩
set_option maxHeartbeats 4000000 in
theorem memPages (v : Value) (b : Bool) (pg : Int) (w : World) (h : IsM w v b pg) : Calls Try.prog 13 #[v] w fun e w' => e = .returned (.int .u32 pg) ∧ w' = w := by
  have hu1 := Try.underlying52
  have hu2 := Try.underlying35
  have H := Aside0.mk h
  cases b with
  | false =>
    obtain rfl := h.f
    clear h
    go_enter Try.func13, Try.ntmps13
    go_wp2_with (first | (go_at_call 20; with_reducible refine (memIs v false 0 _ H.out).mono ?_; rintro e w1 ⟨rfl, rfl⟩))
    go_ret
    exact ⟨rfl, rfl⟩
  | true =>
    obtain ⟨G, B, rfl, h3, h4⟩ := h.t
    clear h
    go_enter Try.func13, Try.ntmps13
    go_wp2_with (first | (go_at_call 20; with_reducible refine (memIs (.pointer (some ⟨G, 0, none⟩)) true pg _ H.out).mono ?_; rintro e w1 ⟨rfl, rfl⟩))
    go_ret
    exact ⟨rfl, rfl⟩
def hld (b : Bool) (pg at' n : Int) : Bool := b && (decide (0 ≤ n) && (decide (n ≤ pg * 65536) && decide (at' ≤ pg * 65536 - n)))
set_option maxHeartbeats 4000000 in
theorem memHolds (v : Value) (b : Bool) (pg at' n : Int) (w : World) (h : IsM w v b pg) (p0 : 0 ≤ pg) (p1 : pg < 4294967296) (a0 : 0 ≤ at') (a1 : at' < 18446744073709551616) (n0 : -9223372036854775808 ≤ n) (n1 : n < 9223372036854775808) :
    Calls Try.prog 11 #[v, .int .u64 at', .int .i64 n] w fun e w' => e = .returned (.bool (hld b pg at' n)) ∧ w' = w := by
  have H := Aside0.mk h
  clear h
  have e1 : IntKind.u64.wrap (pg * 65536) = pg * 65536 := by simp [IntKind.wrap, IntKind.signed, IntKind.bits]; omega
  go_enter Try.func11, Try.ntmps11
  go_wp2_with (first | (go_at_call 13; with_reducible refine (memPages v b pg _ H.out).mono ?_; rintro e w1 ⟨rfl, rfl⟩) | (go_at_call 20; with_reducible refine (memIs v b pg _ H.out).mono ?_; rintro e w1 ⟨rfl, rfl⟩))
  all_goals go_ret
  all_goals (refine ⟨?_, rfl⟩; simp_all [hld]; try omega)
def acB (n : Int) : Bool := n == 1 || n == 2 || n == 4 || n == 8
def plc (bs of n : Int) : Int := if acB n = true then bs + of else 0
set_option maxHeartbeats 8000000 in
theorem memPlace (v : Value) (b : Bool) (pg bs of n : Int) (ty : Int) (sg st : Bool) (w : World) (h : IsM w v b pg) (p0 : 0 ≤ pg) (p1 : pg < 4294967296) (a0 : 0 ≤ bs) (a1 : bs < 4294967296) (b0 : 0 ≤ of) (b1 : of < 4294967296) (n0 : -9223372036854775808 ≤ n) (n1 : n < 9223372036854775808) :
    Calls Try.prog 19 #[v, .int .u32 bs, .int .u32 of, .agg #[.int .u8 ty, .int .i64 n, .bool sg, .bool st]] w fun e w' => e = .returned (.tuple #[.int .u64 (plc bs of n), .bool (acB n && hld b pg (bs + of) n)]) ∧ Below w.heap.size w w' := by
  have hu2 := Try.underlying24
  have H := Aside0.mk h
  clear h
  by_cases c1 : n = 1
  · subst c1
    go_enter Try.func19, Try.ntmps19
    go_wp2_with (first | (go_at_call 11; with_reducible refine (memHolds v b pg (bs + of) 1 _ (H.out.below (below_alloc (Below.refl _ _) _)) p0 p1 (by omega) (by omega) (by decide) (by decide)).mono ?_; rintro e w1 ⟨rfl, rfl⟩))
    go_ret2
    exact ⟨rfl, below_alloc (Below.refl _ _) _⟩
  by_cases c2 : n = 2
  · subst c2
    clear c1
    go_enter Try.func19, Try.ntmps19
    go_wp2_with (first | (go_at_call 11; with_reducible refine (memHolds v b pg (bs + of) 2 _ (H.out.below (below_alloc (Below.refl _ _) _)) p0 p1 (by omega) (by omega) (by decide) (by decide)).mono ?_; rintro e w1 ⟨rfl, rfl⟩))
    go_ret2
    exact ⟨rfl, below_alloc (Below.refl _ _) _⟩
  by_cases c4 : n = 4
  · subst c4
    clear c1 c2
    go_enter Try.func19, Try.ntmps19
    go_wp2_with (first | (go_at_call 11; with_reducible refine (memHolds v b pg (bs + of) 4 _ (H.out.below (below_alloc (Below.refl _ _) _)) p0 p1 (by omega) (by omega) (by decide) (by decide)).mono ?_; rintro e w1 ⟨rfl, rfl⟩))
    go_ret2
    exact ⟨rfl, below_alloc (Below.refl _ _) _⟩
  by_cases c8 : n = 8
  · subst c8
    clear c1 c2 c4
    go_enter Try.func19, Try.ntmps19
    go_wp2_with (first | (go_at_call 11; with_reducible refine (memHolds v b pg (bs + of) 8 _ (H.out.below (below_alloc (Below.refl _ _) _)) p0 p1 (by omega) (by omega) (by decide) (by decide)).mono ?_; rintro e w1 ⟨rfl, rfl⟩))
    go_ret2
    exact ⟨rfl, below_alloc (Below.refl _ _) _⟩
  have d1 : (n == 1) = false := beq_eq_false_iff_ne.mpr c1
  have d2 : (n == 2) = false := beq_eq_false_iff_ne.mpr c2
  have d4 : (n == 4) = false := beq_eq_false_iff_ne.mpr c4
  have d8 : (n == 8) = false := beq_eq_false_iff_ne.mpr c8
  have hac : acB n = false := by simp [acB, c1, c2, c4, c8]
  have hpl : plc bs of n = 0 := by simp [plc, hac]
  rw [hac, hpl, Bool.false_and]
  clear hac hpl
  go_enter Try.func19, Try.ntmps19
  go_wp2
  go_ret2
  exact ⟨rfl, below_alloc (Below.refl _ _) _⟩
end Go.Proofs.Ytiiimpcdhgegmaa.PA
