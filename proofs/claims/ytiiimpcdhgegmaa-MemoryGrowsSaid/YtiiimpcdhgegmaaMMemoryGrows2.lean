/- What the Go functions that the statement MemoryGrows reaches compute, and the mathematics on it, in the order in which one leans on the other; for every input. -/
import Derived.Test.YtiiimpcdhgegmaaVMemoryGrows0
import Derived.Test.YtiiimpcdhgegmaaMMemoryGrows0
import Derived.Test.YtiiimpcdhgegmaaMMemoryGrows1
import Derived.Laws.BitsAllLaws
/- memory: New, Grow. -/
namespace Go.Proofs.Ytiiimpcdhgegmaa.PA
open Go.RowKit Go.Proofs.YtiiimpcdhgegmaaW.PrintWords Go.Proofs.YtiiimpcdhgegmaaW.PrintLast Go.Proofs.YtiiimpcdhgegmaaW.PrintMore
attribute [local go_sem] max2_int min2_int max_two min_two max_three min_three max_four min_four   -- for this text's walks alone
set_option linter.unusedVariables false
set_option linter.unusedSimpArgs false
theorem Mem.made (W : World) (M : Nat → Prop) (hM : ∀ k, W.heap.size ≤ k → M k) (mn mx : Int) (hs : Bool) :
    Mem ((W.alloc (.map #[] 0)).alloc (.cells #[.int .u32 mn, .int .u32 mx, .bool hs, .map (some W.heap.size)] 52)) M (W.heap.size + 1) W.heap.size 0 mn mx hs (fun _ => 0) := by
  have hz : (W.alloc (.map #[] 0)).heap.size = W.heap.size + 1 := by simp
  have e : ∀ (V : World) (o : Obj), (V.alloc o).heap[V.heap.size]? = some o := fun V o => by show (V.heap.push o)[V.heap.size]? = _; simp
  have e2 := fun o : Obj => e (W.alloc (.map #[] 0)) o
  simp only [hz] at e2
  have own := (World.ownsMap_made W Try.prog 25 pR).alloc (.cells #[.int .u32 mn, .int .u32 mx, .bool hs, .map (some W.heap.size)] 52)
  refine ⟨hM _ (by omega), hM _ (by omega), by omega, by simp, ?_, ?_, ?_, ?_, ?_, .map [], fun _ => 0, own, fun p hp => rfl, fun _ _ _ _ => rfl, fun p b h => by omega, fun p p' _ h => absurd rfl h⟩
  · unfold World.cell?; rw [e2]; rfl
  · unfold World.cell?; rw [e2]; rfl
  · unfold World.cell?; rw [e2]; rfl
  · unfold World.cell?; rw [e2]; rfl
  · unfold World.frozen?; rw [e2]; rfl
theorem memMade (w : World) (o : Obj) (mn mx : Int) (hs : Bool) :
    Mem (((w.alloc o).alloc (.map #[] 0)).alloc (.cells #[.int .u32 mn, .int .u32 mx, .bool hs, .map (some (w.heap.size + 1))] 52)) (fun k => w.heap.size ≤ k) (w.heap.size + 1 + 1) (w.heap.size + 1) 0 mn mx hs (fun _ => 0) := by
  have hz : (w.alloc o).heap.size = w.heap.size + 1 := by simp
  have := Mem.made (w.alloc o) (fun k => w.heap.size ≤ k) (fun k h => by omega) mn mx hs
  rw [hz] at this
  exact this
def newE (mn mx : Int) (hs : Bool) : Int := if 65536 < mn ∨ (hs = true ∧ (65536 < mx ∨ mx < mn)) then 212 else if 16 < mn then 3 else 0
set_option maxHeartbeats 8000000 in
theorem memNew (mn mx : Int) (hs : Bool) (w : World) (a0 : 0 ≤ mn) (a1 : mn < 4294967296) (b0 : 0 ≤ mx) (b1 : mx < 4294967296) :
    Calls Try.prog 7 #[.agg #[.int .u32 mn, .int .u32 mx, .bool hs]] w fun e w' => Below w.heap.size w w' ∧
      ((newE mn mx hs ≠ 0 ∧ e = .returned (.tuple #[.pointer none, .int .i64 (newE mn mx hs)])) ∨ (newE mn mx hs = 0 ∧ ∃ G B, e = .returned (.tuple #[.pointer (some ⟨G, 0, none⟩), .int .i64 0]) ∧ Mem w' (fun k => w.heap.size ≤ k) G B 0 mn mx hs (fun _ => 0))) := by
  have hu2 := Try.underlying35
  have hu3 := Try.underlying52
  have hu4 := Try.underlying50
  have emk : ∀ v : World, (Instr.makeMap 50 none).run Try.prog v = .ok (.map (some v.heap.size)) (v.alloc (.map #[] 0)) := fun v => by kernel_rfl
  by_cases q1 : 65536 < mn ∨ (hs = true ∧ (65536 < mx ∨ mx < mn))
  · have en : newE mn mx hs = 212 := if_pos q1
    rw [en]
    have Q := Aside0.mk q1
    clear en q1
    cases hs
    all_goals go_enter Try.func7, Try.ntmps7
    all_goals go_wp2
    all_goals first
      | (go_ret2; exact ⟨below_alloc (Below.refl _ _) _, rfl⟩) | (go_ret2; exact ⟨below_alloc (Below.refl _ _) _, .inl ⟨by decide, rfl⟩⟩)
      | (exfalso; have q := Q.out; simp_all; done)
      | (exfalso; have q := Q.out; simp_all; omega)
  · by_cases q2 : 16 < mn
    · have en : newE mn mx hs = 3 := (if_neg q1).trans (if_pos q2)
      rw [en]
      have Q := Aside0.mk q1
      clear en q1
      cases hs
      all_goals go_enter Try.func7, Try.ntmps7
      all_goals go_wp2
      all_goals first
        | (go_ret2; exact ⟨below_alloc (Below.refl _ _) _, rfl⟩) | (go_ret2; exact ⟨below_alloc (Below.refl _ _) _, .inl ⟨by decide, rfl⟩⟩)
        | (exfalso; have q := Q.out; simp_all; done)
        | (exfalso; have q := Q.out; simp_all; omega)
    · have en : newE mn mx hs = 0 := (if_neg q1).trans (if_neg q2)
      rw [en]
      have Q := Aside0.mk q1
      clear en q1
      cases hs
      all_goals go_enter Try.func7, Try.ntmps7
      all_goals go_wp2
      all_goals first
        | (go_ret2; exact ⟨below_alloc (below_alloc (below_alloc (Below.refl _ _) _) _) _, _, rfl, _, memMade w _ mn mx _⟩)
        | (exfalso; have q := Q.out; simp_all; done)
        | (exfalso; have q := Q.out; simp_all; omega)
set_option maxHeartbeats 8000000 in
theorem memGrowNo (v : Value) (pg : Int) (by' : Int) (may : Bool) (b : Bool) (w : World) (h : IsM w v b pg) (hb : (b && may) = false) :
    Calls Try.prog 14 #[v, .int .u32 by', .bool may] w fun e w' => e = .returned (.int .u32 4294967295) ∧ w' = w := by
  have hu2 := Try.underlying35
  have hu3 := Try.underlying52
  have H := Aside0.mk h
  clear h
  cases b with
  | false =>
    go_enter Try.func14, Try.ntmps14
    go_wp2_with (first | (go_at_call 20; with_reducible refine (memIs v false pg _ H.out).mono ?_; rintro e w1 ⟨rfl, rfl⟩))
    all_goals go_ret
    all_goals exact ⟨rfl, rfl⟩
  | true =>
    cases may with
    | true => cases hb
    | false =>
      go_enter Try.func14, Try.ntmps14
      go_wp2_with (first | (go_at_call 20; with_reducible refine (memIs v true pg _ H.out).mono ?_; rintro e w1 ⟨rfl, rfl⟩))
      all_goals go_ret
      all_goals exact ⟨rfl, rfl⟩
end Go.Proofs.Ytiiimpcdhgegmaa.PA
/- memory: Grow. -/
namespace Go.Proofs.Ytiiimpcdhgegmaa.PA
open Go.RowKit Go.Proofs.YtiiimpcdhgegmaaW.PrintWords Go.Proofs.YtiiimpcdhgegmaaW.PrintLast Go.Proofs.YtiiimpcdhgegmaaW.PrintMore
attribute [local go_sem] max2_int min2_int max_two min_two max_three min_three max_four min_four   -- for this text's walks alone
set_option linter.unusedVariables false
set_option linter.unusedSimpArgs false
theorem Mem.grow {w : World} {M : Nat → Prop} {G B n : Nat} {pg mx : Int} {hs : Bool} {f : Nat → Int} (h : Mem w M G B n pg mx hs f) (pg' : Int) : Mem (w.setCell ⟨G, 0, none⟩ (.int .u32 pg')) M G B n pg' mx hs f := by
  obtain ⟨D, c, P⟩ := h.pgs
  have hg : w.grownBy (w.setCell ⟨G, 0, none⟩ (.int .u32 pg')) (some G) := ⟨rfl, rfl, rfl, by simp [World.setCell], fun k hk q => Below.heap_setCell _ _ _ _ (fun e => q (by rw [e]))⟩
  have kc : ∀ b' o, b' < w.heap.size → b' ≠ G → (w.setCell ⟨G, 0, none⟩ (.int .u32 pg')).cell? ⟨b', o, none⟩ = w.cell? ⟨b', o, none⟩ := fun b' o hl hm => World.cell?_of_block (w := w) (hg.block b' hl (fun e => hm (by injection e)))
  have kf : ∀ b' o, b' < w.heap.size → b' ≠ G → (w.setCell ⟨G, 0, none⟩ (.int .u32 pg')).frozen? ⟨b', o, none⟩ = w.frozen? ⟨b', o, none⟩ := fun b' o hl hm => World.frozen?_of_block (w := w) (hg.block b' hl (fun e => hm (by injection e)))
  refine ⟨h.b1, h.b2, h.ne, Nat.lt_of_lt_of_le h.lt hg.size, World.cell?_setCell_same _ _ _ h.c0, ?_, ?_, ?_, (World.frozen?_setCell _ _ _ _).trans h.fz, D, c, P.own.kept hg (by simpa using h.ne), P.at_, P.zero, ?_, P.inj⟩
  · exact (World.cell?_setCell_other _ _ _ _ (by intro e; cases e)).trans h.c1
  · exact (World.cell?_setCell_other _ _ _ _ (by intro e; cases e)).trans h.c2
  · exact (World.cell?_setCell_other _ _ _ _ (by intro e; cases e)).trans h.c3
  · intro p b hc
    obtain ⟨g1, g2, g3, g4, g5⟩ := P.blk p b hc
    exact ⟨g1, g2, g3, Nat.lt_of_lt_of_le g4 hg.size, fun i hi => ⟨(kc _ _ g4 g2).trans (g5 i hi).1, (kf _ _ g4 g2).trans (g5 i hi).2⟩⟩
def mostP (mx : Int) (hs : Bool) : Int := if hs = true then (if mx < 16 then mx else 16) else 16
set_option maxHeartbeats 8000000 in
theorem memGrow (by' : Int) (w : World) {M : Nat → Prop} {G B n : Nat} {pg mx : Int} {hs : Bool} {f : Nat → Int} (h : Mem w M G B n pg mx hs f) (p0 : 0 ≤ pg) (p1 : pg ≤ 16) (m0 : 0 ≤ mx) (m1 : mx < 4294967296) (y0 : 0 ≤ by') (y1 : by' < 4294967296) :
    Calls Try.prog 14 #[.pointer (some ⟨G, 0, none⟩), .int .u32 by', .bool true] w fun e w' =>
      ((mostP mx hs < by' ∨ mostP mx hs - by' < pg) ∧ e = .returned (.int .u32 4294967295) ∧ w' = w) ∨
      (¬ (mostP mx hs < by' ∨ mostP mx hs - by' < pg) ∧ e = .returned (.int .u32 pg) ∧ Off M w w' ∧ Mem w' M G B n (pg + by') mx hs f) := by
  have hu2 := Try.underlying35
  have hu3 := Try.underlying52
  have H := Aside0.mk h.is
  have HM := Aside0.mk h
  have c0 := h.c0
  have c1 := h.c1
  have c2 := h.c2
  have fz := h.fz
  clear h
  have hG : Off M w (w.setCell ⟨G, 0, none⟩ (.int .u32 (pg + by'))) := Off.setCell w HM.out.b1 _
  have HG := Aside0.mk hG
  clear hG
  cases hs with
  | false =>
    have em : mostP mx false = 16 := rfl
    rw [em]
    clear em
    go_enter Try.func14, Try.ntmps14
    go_wp2_with (first | (go_at_call 20; with_reducible refine (memIs (.pointer (some ⟨G, 0, none⟩)) true pg _ H.out).mono ?_; rintro e w1 ⟨rfl, rfl⟩))
    all_goals first
      | (go_ret; exact ⟨rfl, rfl⟩) | (go_ret; exact .inl ⟨by omega, rfl, rfl⟩)
      | (go_ret; exact .inr ⟨by omega, rfl, HG.out, HM.out.grow _⟩)
  | true =>
    by_cases q : mx < 16
    · have em : mostP mx true = mx := if_pos q
      rw [em]
      clear em
      have eq : min (16 : Int) mx = mx := by omega
      go_enter Try.func14, Try.ntmps14
      go_wp2_with (first | (go_at_call 20; with_reducible refine (memIs (.pointer (some ⟨G, 0, none⟩)) true pg _ H.out).mono ?_; rintro e w1 ⟨rfl, rfl⟩))
      all_goals first
        | (go_ret; exact ⟨rfl, rfl⟩) | (go_ret; exact .inl ⟨by omega, rfl, rfl⟩)
        | (go_ret; exact .inr ⟨by omega, rfl, HG.out, HM.out.grow _⟩)
    · have em : mostP mx true = 16 := if_neg q
      rw [em]
      clear em
      have eq : min (16 : Int) mx = 16 := by omega
      go_enter Try.func14, Try.ntmps14
      go_wp2_with (first | (go_at_call 20; with_reducible refine (memIs (.pointer (some ⟨G, 0, none⟩)) true pg _ H.out).mono ?_; rintro e w1 ⟨rfl, rfl⟩))
      all_goals first
        | (go_ret; exact ⟨rfl, rfl⟩) | (go_ret; exact .inl ⟨by omega, rfl, rfl⟩)
        | (go_ret; exact .inr ⟨by omega, rfl, HG.out, HM.out.grow _⟩)
end Go.Proofs.Ytiiimpcdhgegmaa.PA
/- memory: Store. -/
namespace Go.Proofs.Ytiiimpcdhgegmaa.PA
open Go.RowKit Go.Proofs.YtiiimpcdhgegmaaW.PrintWords Go.Proofs.YtiiimpcdhgegmaaW.PrintLast Go.Proofs.YtiiimpcdhgegmaaW.PrintMore
attribute [local go_sem] max2_int min2_int max_two min_two max_three min_three max_four min_four   -- for this text's walks alone
set_option linter.unusedVariables false
set_option linter.unusedSimpArgs false
theorem Off.ofBelow {M : Nat → Prop} {w w' : World} (h : Below w.heap.size w w') : Off M w w' := ⟨h.os, h.tape, h.output, h.size, fun k hk _ => h.block k hk⟩
def wrt (g : Nat → Int) (a i : Nat) (f : Nat → Int) (j : Nat) : Int := if a ≤ j ∧ j < a + i then g (j - a) else f j
theorem wrt_zero (g : Nat → Int) (a : Nat) (f : Nat → Int) (j : Nat) : wrt g a 0 f j = f j := if_neg (by omega)
theorem wrt_succ (g : Nat → Int) (a i : Nat) (f : Nat → Int) (j : Nat) : upd (wrt g a i f) (a + i) (g i) j = wrt g a (i + 1) f j := by
  unfold upd wrt
  by_cases e : j = a + i
  · subst e
    rw [if_pos rfl, if_pos (by omega)]
    congr 1; omega
  · rw [if_neg e]
    by_cases q : a ≤ j ∧ j < a + i
    · rw [if_pos q, if_pos (by omega)]
    · rw [if_neg q, if_neg (by omega)]
def byt (v : Int) (i : Nat) : Int := v / 2 ^ (8 * i) % 256
theorem memPut' (a x : Int) (w : World) {M : Nat → Prop} {G B n : Nat} {pg mx : Int} {hs : Bool} {f : Nat → Int} (h : Mem w M G B n pg mx hs f) (hM : ∀ k, w.heap.size ≤ k → M k) (a0 : 0 ≤ a) (ha : a < 18446744073709551616) (hn : n < 4294967296) :
    Calls Try.prog 17 #[.pointer (some ⟨G, 0, none⟩), .int .u64 a, .int .u8 x] w fun e w' => e = .returned (.tuple #[]) ∧ Off M w w' ∧ Mem w' M G B (n + 1) pg mx hs (upd f a.toNat x) := by
  obtain ⟨k, rfl⟩ := Int.eq_ofNat_of_zero_le a0
  exact memPut k x w h hM (by omega) hn
theorem memGet' (a : Int) (w : World) {M : Nat → Prop} {G B n : Nat} {pg mx : Int} {hs : Bool} {f : Nat → Int} (h : Mem w M G B n pg mx hs f) (a0 : 0 ≤ a) (ha : a < 18446744073709551616) :
    Calls Try.prog 18 #[.pointer (some ⟨G, 0, none⟩), .int .u64 a] w fun e w' => e = .returned (.int .u8 (f a.toNat)) ∧ w' = w := by
  obtain ⟨k, rfl⟩ := Int.eq_ofNat_of_zero_le a0
  exact memGet k w h (by omega)
set_option maxHeartbeats 8000000 in
theorem memStoreNo (v : Value) (b : Bool) (pg bs of n : Int) (ty : Int) (sg st : Bool) (x : Int) (w : World) (h : IsM w v b pg) (p0 : 0 ≤ pg) (p1 : pg < 4294967296) (a0 : 0 ≤ bs) (a1 : bs < 4294967296) (b0 : 0 ≤ of) (b1 : of < 4294967296) (n0 : -9223372036854775808 ≤ n) (n1 : n < 9223372036854775808)
    (hn : (acB n && hld b pg (bs + of) n) = false) :
    Calls Try.prog 10 #[v, .int .u32 bs, .int .u32 of, .agg #[.int .u8 ty, .int .i64 n, .bool sg, .bool st], .int .u64 x] w fun e w' => e = .returned (.int .i64 5) ∧ Below w.heap.size w w' := by
  have hu2 := Try.underlying24
  have H := Aside0.mk h
  clear h
  have BL := Aside0.mk (Below.refl w.heap.size w)
  go_enter Try.func10, Try.ntmps10
  go_wp2_with (first | (go_at_call 19; with_reducible refine (memPlace v b pg bs of n ty sg st _ (H.out.below (below_alloc (Below.refl _ _) _)) p0 p1 a0 a1 b0 b1 n0 n1).mono ?_; rintro e w1 ⟨rfl, hb⟩; replace BL := Aside0.mk (below_step (below_alloc (Below.refl _ _) _ : Below w.heap.size w _) hb); clear hb; rw [hn]))
  all_goals go_ret
  all_goals exact ⟨rfl, BL.out⟩
set_option maxHeartbeats 8000000 in
set_option maxRecDepth 100000 in
theorem memStore (bs of : Int) (N : Nat) (ty : Int) (sg st : Bool) (x : Int) (w : World) {M : Nat → Prop} {G B m : Nat} {pg mx : Int} {hs : Bool} {f : Nat → Int} (h : Mem w M G B m pg mx hs f) (hM : ∀ k, w.heap.size ≤ k → M k) (hm : m + 8 < 4294967296)
    (p0 : 0 ≤ pg) (p1 : pg < 4294967296) (a0 : 0 ≤ bs) (a1 : bs < 4294967296) (b0 : 0 ≤ of) (b1 : of < 4294967296) (hN : N ≤ 8) (x0 : 0 ≤ x) (x1 : x < 18446744073709551616)
    (hn : (acB N && hld true pg (bs + of) N) = true) :
    Calls Try.prog 10 #[.pointer (some ⟨G, 0, none⟩), .int .u32 bs, .int .u32 of, .agg #[.int .u8 ty, .int .i64 (N : Int), .bool sg, .bool st], .int .u64 x] w fun e w' => e = .returned (.int .i64 0) ∧ Off M w w' ∧ Mem w' M G B (m + N) pg mx hs (wrt (byt x) (bs + of).toNat N f) := by
  have hu2 := Try.underlying24
  have H := Aside0.mk h.is
  have HM := Aside0.mk h
  have hpl : plc bs of (N : Int) = bs + of := by rw [Bool.and_eq_true] at hn; exact if_pos hn.1
  clear h
  go_enter Try.func10, Try.ntmps10
  go_wp2_with (first | (go_at_call 19; with_reducible refine (memPlace (.pointer (some ⟨G, 0, none⟩)) true pg bs of (N : Int) ty sg st _ (H.out.below (below_alloc (Below.refl _ _) _)) p0 p1 a0 a1 b0 b1 (by omega) (by omega)).mono ?_; rintro e w1 ⟨rfl, hb⟩; have cb : w1.cell? ⟨w.heap.size, 1, none⟩ = some (.int .i64 (N : Int)) := ((Nr.bcell hb).1 w.heap.size 1 (by simp)).trans (by simp [go_sem]); have BL := Aside0.mk (below_step (below_alloc (Below.refl _ _) _ : Below w.heap.size w _) hb); clear hb; rw [hn, hpl]))
  have HH := Aside0.mk (show Off M w w1 ∧ Mem w1 M G B (m + 0) pg mx hs (wrt (byt x) (bs + of).toNat 0 f) from ⟨Off.ofBelow BL.out, (HM.out.off BL.out.size (fun k hk _ => BL.out.block k hk)).congr (fun j => (wrt_zero _ _ _ j).symm)⟩)
  clear HM H BL cb hn hpl
  go_loopg [26] N (fun k v26 w' => ∃ i : Nat, v26 = .int .i64 (i : Int) ∧ Aside0 (k + i = N) ∧ Aside0 (Off M w w' ∧ Mem w' M G B (m + i) pg mx hs (wrt (byt x) (bs + of).toNat i f)))
  case atStart => exact ⟨0, rfl, ⟨rfl⟩, HH⟩
  case round =>
    clear HH
    obtain ⟨i, rfl, hk, HH⟩ := hrel
    have hk' := hk.out
    obtain _ | kr := gk
    · have e : i = N := by omega
      subst e
      go_wp2
      go_ret
      exact ⟨rfl, HH.out⟩
    · have c : (i : Int) < (N : Int) := by omega
      have c8 : (i : Int) < 8 := by omega
      have i0 : 0 ≤ (i : Int) := by omega
      go_wp2_with (first | (go_at_call 17; with_reducible refine (memPut' (bs + of + i) _ _ HH.out.2 (fun k hk => hM k (Nat.le_trans HH.out.1.size hk)) (by omega) (by omega) (by omega)).mono ?_; rintro e w2 ⟨rfl, ho, hm2⟩))
      go_roundg kr
      case measure => omega
      case rel =>
        have et : (bs + of + (i : Int)).toNat = (bs + of).toNat + i := by omega
        rw [et] at hm2
        exact ⟨i + 1, rfl, ⟨by omega⟩, ⟨HH.out.1.trans ho, hm2.congr (fun j => wrt_succ (byt x) _ i f j)⟩⟩
end Go.Proofs.Ytiiimpcdhgegmaa.PA
/- memory: Load. -/
namespace Go.Proofs.Ytiiimpcdhgegmaa.PA
open Go.RowKit Go.Proofs.YtiiimpcdhgegmaaW.PrintWords Go.Proofs.YtiiimpcdhgegmaaW.PrintLast Go.Proofs.YtiiimpcdhgegmaaW.PrintMore
attribute [local go_sem] max2_int min2_int max_two min_two max_three min_three max_four min_four   -- for this text's walks alone
set_option linter.unusedVariables false
set_option linter.unusedSimpArgs false
def hv (f : Nat → Int) (a N : Nat) : Nat → Int
  | 0 => 0
  | k + 1 => hv f a N k * 256 + f (a + (N - 1 - k))
theorem hv_lo (f : Nat → Int) (a N : Nat) (hf : ∀ j, 0 ≤ f j ∧ f j < 256) : ∀ k, 0 ≤ hv f a N k
  | 0 => Int.le_refl _
  | k + 1 => by have := hv_lo f a N hf k; have := hf (a + (N - 1 - k)); unfold hv; omega
theorem hv_hi (f : Nat → Int) (a N : Nat) (hf : ∀ j, 0 ≤ f j ∧ f j < 256) (k : Nat) (hk : k < 8) : hv f a N k < 72057594037927936 := by
  have g : ∀ k, hv f a N k < 256 ^ k := fun k => by
    induction k with
    | zero => show (0 : Int) < 1; decide
    | succ k ih => have := hf (a + (N - 1 - k)); unfold hv; rw [Int.pow_succ]; omega
  have := g k
  have : (256 : Int) ^ k ≤ 72057594037927936 := by
    rcases (by omega : k = 0 ∨ k = 1 ∨ k = 2 ∨ k = 3 ∨ k = 4 ∨ k = 5 ∨ k = 6 ∨ k = 7) with h | h | h | h | h | h | h | h <;> subst h <;> decide
  omega
theorem or_byte (x b : Int) (x0 : 0 ≤ x) (x1 : x < 72057594037927936) (b0 : 0 ≤ b) (b1 : b < 256) : bits BinOp.or IntKind.u64 (x * 256) b = x * 256 + b := by
  obtain ⟨x, rfl⟩ := Int.eq_ofNat_of_zero_le x0
  obtain ⟨b, rfl⟩ := Int.eq_ofNat_of_zero_le b0
  have e : (x * 256 ||| b : Nat) = x * 256 + b := by
    rw [show (256 : Nat) = 2 ^ 8 from rfl, ← Nat.shiftLeft_eq, Nat.shiftLeft_add_eq_or_of_lt (by omega)]
  have e1 : ((x : Int) * 256) = ((x * 256 : Nat) : Int) := by omega
  rw [e1, u64_or_nat (x * 256) b (by omega) (by omega), e]
  omega
set_option maxHeartbeats 8000000 in
theorem memLoadNo (v : Value) (b : Bool) (pg bs of n : Int) (ty : Int) (sg st : Bool) (w : World) (h : IsM w v b pg) (p0 : 0 ≤ pg) (p1 : pg < 4294967296) (a0 : 0 ≤ bs) (a1 : bs < 4294967296) (b0 : 0 ≤ of) (b1 : of < 4294967296) (n0 : -9223372036854775808 ≤ n) (n1 : n < 9223372036854775808)
    (hn : (acB n && hld b pg (bs + of) n) = false) :
    Calls Try.prog 12 #[v, .int .u32 bs, .int .u32 of, .agg #[.int .u8 ty, .int .i64 n, .bool sg, .bool st]] w fun e w' => e = .returned (.tuple #[.int .u64 0, .int .i64 5]) ∧ Below w.heap.size w w' := by
  have hu2 := Try.underlying24
  have H := Aside0.mk h
  clear h
  have BL := Aside0.mk (Below.refl w.heap.size w)
  go_enter Try.func12, Try.ntmps12
  go_wp2_with (first | (go_at_call 19; with_reducible refine (memPlace v b pg bs of n ty sg st _ (H.out.below (below_alloc (Below.refl _ _) _)) p0 p1 a0 a1 b0 b1 n0 n1).mono ?_; rintro e w1 ⟨rfl, hb⟩; replace BL := Aside0.mk (below_step (below_alloc (Below.refl _ _) _ : Below w.heap.size w _) hb); clear hb; rw [hn]))
  all_goals go_ret2
  all_goals exact ⟨rfl, BL.out⟩
set_option maxHeartbeats 8000000 in
set_option maxRecDepth 100000 in
theorem memLoad (bs of : Int) (N : Nat) (ty : Int) (st : Bool) (w : World) {M : Nat → Prop} {G B m : Nat} {pg mx : Int} {hs : Bool} {f : Nat → Int} (h : Mem w M G B m pg mx hs f) (hf : ∀ j, 0 ≤ f j ∧ f j < 256)
    (p0 : 0 ≤ pg) (p1 : pg < 4294967296) (a0 : 0 ≤ bs) (a1 : bs < 4294967296) (b0 : 0 ≤ of) (b1 : of < 4294967296) (hN : N ≤ 8) (hn : (acB N && hld true pg (bs + of) N) = true) :
    Calls Try.prog 12 #[.pointer (some ⟨G, 0, none⟩), .int .u32 bs, .int .u32 of, .agg #[.int .u8 ty, .int .i64 (N : Int), .bool false, .bool st]] w fun e w' => e = .returned (.tuple #[.int .u64 (hv f (bs + of).toNat N N), .int .i64 0]) ∧ Below w.heap.size w w' := by
  have hu2 := Try.underlying24
  have H := Aside0.mk h.is
  have HM := Aside0.mk h
  have hpl : plc bs of (N : Int) = bs + of := by rw [Bool.and_eq_true] at hn; exact if_pos hn.1
  have HF := Aside0.mk hf
  clear h hf
  go_enter Try.func12, Try.ntmps12
  go_wp2_with (first | (go_at_call 19; with_reducible refine (memPlace (.pointer (some ⟨G, 0, none⟩)) true pg bs of (N : Int) ty false st _ (H.out.below (below_alloc (Below.refl _ _) _)) p0 p1 a0 a1 b0 b1 (by omega) (by omega)).mono ?_; rintro e w1 ⟨rfl, hb⟩; have cb : w1.cell? ⟨w.heap.size, 1, none⟩ = some (.int .i64 (N : Int)) := ((Nr.bcell hb).1 w.heap.size 1 (by simp)).trans (by simp [go_sem]); have cb2 : w1.cell? ⟨w.heap.size, 2, none⟩ = some (.bool false) := ((Nr.bcell hb).1 w.heap.size 2 (by simp)).trans (by simp [go_sem]); have BL := Aside0.mk (below_step (below_alloc (Below.refl _ _) _ : Below w.heap.size w _) hb); clear hb; rw [hn, hpl]))
  have HH := Aside0.mk (HM.out.off BL.out.size (fun k hk _ => BL.out.block k hk))
  clear HM H hn hpl
  go_loopg [12, 13] N (fun k v12 v13 w' => ∃ i : Nat, v12 = .int .u64 (hv f (bs + of).toNat N i) ∧ v13 = .int .i64 ((N : Int) - 1 - (i : Int)) ∧ Aside0 (k + i = N) ∧ w' = w1)
  case atStart => exact ⟨0, rfl, by simp, ⟨rfl⟩, rfl⟩
  case round =>
    obtain ⟨i, rfl, rfl, hk, rfl⟩ := hrel
    have hk' := hk.out
    obtain _ | kr := gk
    · have e : i = N := by omega
      subst e
      have c : ¬ (0 : Int) ≤ (i : Int) - 1 - (i : Int) := by omega
      go_wp2
      go_ret2
      exact ⟨rfl, BL.out⟩
    · have c : (0 : Int) ≤ (N : Int) - 1 - (i : Int) := by omega
      have c8 : (i : Int) < 8 := by omega
      have i0 : 0 ≤ (i : Int) := by omega
      have l0 := hv_lo f (bs + of).toNat N HF.out i
      have l1 := hv_hi f (bs + of).toNat N HF.out i (by omega)
      obtain ⟨q0, q1⟩ := HF.out (bs + of + ((N : Int) - 1 - (i : Int))).toNat
      go_wp2_with (first | (go_at_call 18; with_reducible refine (memGet' (bs + of + ((N : Int) - 1 - (i : Int))) _ HH.out (by omega) (by omega)).mono ?_; rintro e w2 ⟨rfl, rfl⟩))
      rw [or_byte _ _ l0 l1 q0 q1]
      go_roundg kr
      case measure => omega
      case rel =>
        have et : (bs + of + ((N : Int) - 1 - (i : Int))).toNat = (bs + of).toNat + (N - 1 - i) := by omega
        rw [et]
        exact ⟨i + 1, rfl, by congr 1; omega, ⟨by omega⟩, rfl⟩
end Go.Proofs.Ytiiimpcdhgegmaa.PA
