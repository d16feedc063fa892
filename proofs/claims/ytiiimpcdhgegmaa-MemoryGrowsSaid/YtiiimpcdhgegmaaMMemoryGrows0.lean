/- What the Go functions that the statement MemoryGrows reaches compute, and the mathematics on it, in the order in which one leans on the other; for every input. -/
import Derived.Test.YtiiimpcdhgegmaaVMemoryGrows0
import Derived.Test.YtiiimpcdhgegmaaProg
import Derived.Below
import Derived.Deep.Draws
import Derived.Deep.AppendLies
import Derived.Maps.AppendAt
import Derived.OwnWalk
import Derived.Laws.BytesArg
import Derived.Laws.MakeOwn
import Derived.Laws.OwnMore
import Derived.Deep.OwnRows
import Derived.Tactics
import Derived.Lib.ConvBytes
import Derived.Laws.Slices
import Derived.WalkKit
import Derived.KernelRfl
import Derived.RowKit3
import Derived.Deep.LoopGhost
import Derived.Deep.QuietTactic
import Derived.BigQuiet
import Derived.WideLaws
import Derived.Deep.DeepCutAuto
import Derived.Deep.CutBlock
import Derived.Deep.RegionHeld3
import Derived.Laws.Rows
import Derived.Lib.AppendStr
import Derived.ArgAppend
import Derived.Laws.IdiomCopy
import Derived.OrdersHeld
import Derived.Laws.BitsLemmas
import Derived.RowKit
import Derived.Maps.OwnOps
import Derived.Maps.OwnSet
import Derived.Maps.Views
namespace Go.Proofs.Ytiiimpcdhgegmaa.PA
open Go.RowKit Go.Proofs.YtiiimpcdhgegmaaW.PrintWords Go.Proofs.YtiiimpcdhgegmaaW.PrintLast Go.Proofs.YtiiimpcdhgegmaaW.PrintMore
attribute [local go_sem] max2_int min2_int max_two min_two max_three min_three max_four min_four   -- for this text's walks alone
set_option linter.unusedVariables false
set_option linter.unusedSimpArgs false
set_option maxHeartbeats 8000000
set_option maxRecDepth 100000



def errW : Option Int → Value
  | none => .nilIface
  | some c => .iface 0 (.int .i64 c)
theorem errW_none : errW none = .nilIface := rfl
theorem errW_some (c : Int) : errW (some c) = .iface 0 (.int .i64 c) := rfl

-- the values' own types
structure S24 where
  f0 : Int
  f1 : Int
  f2 : Bool
  f3 : Bool
def z24 : S24 := ⟨(0 : Int), (0 : Int), false, false⟩
def k24 : Kd S24 := Kd.iso (Kd.pair (Kd.int .u8) (Kd.pair (Kd.int .i64) (Kd.pair Kd.bool Kd.bool))) (fun x : S24 => (x.f0, x.f1, x.f2, x.f3))
theorem k24_open {w : World} {x : S24} {cs : List Value} (h : k24.K w x cs) : cs = [.int .u8 x.f0, .int .i64 x.f1, .bool x.f2, .bool x.f3] := by
  obtain ⟨_, _, rfl, rfl, ⟨_, _, rfl, rfl, ⟨_, _, rfl, rfl, rfl⟩⟩⟩ := h
  exact rfl
theorem k24_openM {w : World} {base : Nat} {ok : Nat → Prop} {x : S24} {cs : List Value} (h : k24.M w base ok x cs) : cs = [.int .u8 x.f0, .int .i64 x.f1, .bool x.f2, .bool x.f3] := by
  obtain ⟨_, _, rfl, rfl, ⟨_, _, rfl, rfl, ⟨_, _, rfl, rfl, rfl⟩⟩⟩ := h
  exact rfl
theorem k24_mk (w : World) (x : S24)  : k24.K w x [.int .u8 x.f0, .int .i64 x.f1, .bool x.f2, .bool x.f3] := ⟨[.int .u8 x.f0], [.int .i64 x.f1, .bool x.f2, .bool x.f3], rfl, rfl, ⟨[.int .i64 x.f1], [.bool x.f2, .bool x.f3], rfl, rfl, ⟨[.bool x.f2], [.bool x.f3], rfl, rfl, rfl⟩⟩⟩
theorem k24_mkM (w : World) (base : Nat) (ok : Nat → Prop) (x : S24)  : k24.M w base ok x [.int .u8 x.f0, .int .i64 x.f1, .bool x.f2, .bool x.f3] := ⟨[.int .u8 x.f0], [.int .i64 x.f1, .bool x.f2, .bool x.f3], rfl, rfl, ⟨[.int .i64 x.f1], [.bool x.f2, .bool x.f3], rfl, rfl, ⟨[.bool x.f2], [.bool x.f3], rfl, rfl, rfl⟩⟩⟩
def rd_T24 (xs : List S24) (i : Int) : S24 := xs.getD i.toNat z24
theorem at_T24 {w : World} {A : Option Addr} {n : Nat} {xs : List S24} (h : Kd.C k24 w A n xs) (i : Int) (h0 : 0 ≤ i) (h1 : i < n) : ∃ ad , A = some ad ∧ w.cell? (ad.add (i.toNat * 4)) = some (.int .u8 (rd_T24 xs i).f0) ∧ w.cell? ⟨(ad.add (i.toNat * 4)).block, (ad.add (i.toNat * 4)).off + 1, none⟩ = some (.int .i64 (rd_T24 xs i).f1) ∧ w.cell? ⟨(ad.add (i.toNat * 4)).block, (ad.add (i.toNat * 4)).off + 2, none⟩ = some (.bool (rd_T24 xs i).f2) ∧ w.cell? ⟨(ad.add (i.toNat * 4)).block, (ad.add (i.toNat * 4)).off + 3, none⟩ = some (.bool (rd_T24 xs i).f3) := by
  obtain ⟨ad, c, e, _, hK, hc0⟩ := Kd.C_get h z24 i h0 h1
  have hc : ∀ j u, c[j]? = some u → w.cell? (ad.add (i.toNat * 4 + j)) = some u := hc0
  obtain rfl := k24_open hK
  exact ⟨ad, e, hc 0 _ rfl, by rw [← add_field _ _ 1 (by omega)]; exact hc 1 _ rfl, by rw [← add_field _ _ 2 (by omega)]; exact hc 2 _ rfl, by rw [← add_field _ _ 3 (by omega)]; exact hc 3 _ rfl⟩

def rd_L6 (xs : List (List Int)) (i : Int) : (List Int) := xs.getD i.toNat ([] : List Int)
theorem at_L6 {w : World} {A : Option Addr} {n : Nat} {xs : List (List Int)} (h : Kd.C (Kd.slice 5 (Kd.int .u8)) w A n xs) (i : Int) (h0 : 0 ≤ i) (h1 : i < n) : ∃ ad A0 c0, A = some ad ∧ w.cell? (ad.add i.toNat) = some (.slice A0 (rd_L6 xs i).length c0) ∧ (rd_L6 xs i).length ≤ c0 ∧ (Kd.int .u8).C w A0 (rd_L6 xs i).length (rd_L6 xs i) := by
  obtain ⟨ad, c, e, _, hK, hc0⟩ := Kd.C_get h ([] : List Int) i h0 h1
  have hc : ∀ j u, c[j]? = some u → w.cell? (ad.add (i.toNat * 1 + j)) = some u := hc0
  obtain ⟨A0, c0, rfl, l0, g0⟩ := hK
  exact ⟨ad, A0, c0, e, by have hq := hc 0 _ rfl; rwa [Nat.mul_one, Nat.add_zero] at hq, l0, g0⟩

structure S28 where
  f0 : Int
  f1 : Int
  f2 : Int
  f3 : Int
  f4 : S24
  f5 : Int
  f6 : Bool
  f7 : (List Int)
def z28 : S28 := ⟨(0 : Int), (0 : Int), (0 : Int), (0 : Int), z24, (0 : Int), false, ([] : List Int)⟩
def k28 : Kd S28 := Kd.iso (Kd.pair (Kd.int .i64) (Kd.pair (Kd.int .i64) (Kd.pair (Kd.int .u32) (Kd.pair (Kd.int .u32) (Kd.pair k24 (Kd.pair (Kd.int .u64) (Kd.pair Kd.bool (Kd.slice 5 (Kd.int .u8))))))))) (fun x : S28 => (x.f0, x.f1, x.f2, x.f3, x.f4, x.f5, x.f6, x.f7))
theorem k28_open {w : World} {x : S28} {cs : List Value} (h : k28.K w x cs) : ∃ A10 c10, cs = [.int .i64 x.f0, .int .i64 x.f1, .int .u32 x.f2, .int .u32 x.f3, .int .u8 x.f4.f0, .int .i64 x.f4.f1, .bool x.f4.f2, .bool x.f4.f3, .int .u64 x.f5, .bool x.f6, .slice A10 x.f7.length c10] ∧ x.f7.length ≤ c10 ∧ (Kd.int .u8).C w A10 x.f7.length x.f7 := by
  obtain ⟨_, _, rfl, rfl, ⟨_, _, rfl, rfl, ⟨_, _, rfl, rfl, ⟨_, _, rfl, rfl, ⟨_, _, rfl, s4, ⟨_, _, rfl, rfl, ⟨_, _, rfl, rfl, ⟨A10, c10, rfl, l10, g10⟩⟩⟩⟩⟩⟩⟩⟩ := h
  obtain rfl := k24_open s4
  exact ⟨A10, c10, rfl, l10, g10⟩
theorem k28_openM {w : World} {base : Nat} {ok : Nat → Prop} {x : S28} {cs : List Value} (h : k28.M w base ok x cs) : ∃ v10, cs = [.int .i64 x.f0, .int .i64 x.f1, .int .u32 x.f2, .int .u32 x.f3, .int .u8 x.f4.f0, .int .i64 x.f4.f1, .bool x.f4.f2, .bool x.f4.f3, .int .u64 x.f5, .bool x.f6, v10] ∧ (Kd.int .u8).R 5 w base ok v10 x.f7 := by
  obtain ⟨_, _, rfl, rfl, ⟨_, _, rfl, rfl, ⟨_, _, rfl, rfl, ⟨_, _, rfl, rfl, ⟨_, _, rfl, s4, ⟨_, _, rfl, rfl, ⟨_, _, rfl, rfl, ⟨v10, rfl, g10⟩⟩⟩⟩⟩⟩⟩⟩ := h
  obtain rfl := k24_openM s4
  exact ⟨v10, rfl, g10⟩
theorem k28_mk (w : World) (x : S28) {A10 : Option Addr} {c10 : Nat} (l10 : x.f7.length ≤ c10) (g10 : (Kd.int .u8).C w A10 x.f7.length x.f7) : k28.K w x [.int .i64 x.f0, .int .i64 x.f1, .int .u32 x.f2, .int .u32 x.f3, .int .u8 x.f4.f0, .int .i64 x.f4.f1, .bool x.f4.f2, .bool x.f4.f3, .int .u64 x.f5, .bool x.f6, .slice A10 x.f7.length c10] := ⟨[.int .i64 x.f0], [.int .i64 x.f1, .int .u32 x.f2, .int .u32 x.f3, .int .u8 x.f4.f0, .int .i64 x.f4.f1, .bool x.f4.f2, .bool x.f4.f3, .int .u64 x.f5, .bool x.f6, .slice A10 x.f7.length c10], rfl, rfl, ⟨[.int .i64 x.f1], [.int .u32 x.f2, .int .u32 x.f3, .int .u8 x.f4.f0, .int .i64 x.f4.f1, .bool x.f4.f2, .bool x.f4.f3, .int .u64 x.f5, .bool x.f6, .slice A10 x.f7.length c10], rfl, rfl, ⟨[.int .u32 x.f2], [.int .u32 x.f3, .int .u8 x.f4.f0, .int .i64 x.f4.f1, .bool x.f4.f2, .bool x.f4.f3, .int .u64 x.f5, .bool x.f6, .slice A10 x.f7.length c10], rfl, rfl, ⟨[.int .u32 x.f3], [.int .u8 x.f4.f0, .int .i64 x.f4.f1, .bool x.f4.f2, .bool x.f4.f3, .int .u64 x.f5, .bool x.f6, .slice A10 x.f7.length c10], rfl, rfl, ⟨[.int .u8 x.f4.f0, .int .i64 x.f4.f1, .bool x.f4.f2, .bool x.f4.f3], [.int .u64 x.f5, .bool x.f6, .slice A10 x.f7.length c10], rfl, (k24_mk w x.f4 ), ⟨[.int .u64 x.f5], [.bool x.f6, .slice A10 x.f7.length c10], rfl, rfl, ⟨[.bool x.f6], [.slice A10 x.f7.length c10], rfl, rfl, ⟨A10, c10, rfl, l10, g10⟩⟩⟩⟩⟩⟩⟩⟩
theorem k28_mkM (w : World) (base : Nat) (ok : Nat → Prop) (x : S28) {v10 : Value} (g10 : (Kd.int .u8).R 5 w base ok v10 x.f7) : k28.M w base ok x [.int .i64 x.f0, .int .i64 x.f1, .int .u32 x.f2, .int .u32 x.f3, .int .u8 x.f4.f0, .int .i64 x.f4.f1, .bool x.f4.f2, .bool x.f4.f3, .int .u64 x.f5, .bool x.f6, v10] := ⟨[.int .i64 x.f0], [.int .i64 x.f1, .int .u32 x.f2, .int .u32 x.f3, .int .u8 x.f4.f0, .int .i64 x.f4.f1, .bool x.f4.f2, .bool x.f4.f3, .int .u64 x.f5, .bool x.f6, v10], rfl, rfl, ⟨[.int .i64 x.f1], [.int .u32 x.f2, .int .u32 x.f3, .int .u8 x.f4.f0, .int .i64 x.f4.f1, .bool x.f4.f2, .bool x.f4.f3, .int .u64 x.f5, .bool x.f6, v10], rfl, rfl, ⟨[.int .u32 x.f2], [.int .u32 x.f3, .int .u8 x.f4.f0, .int .i64 x.f4.f1, .bool x.f4.f2, .bool x.f4.f3, .int .u64 x.f5, .bool x.f6, v10], rfl, rfl, ⟨[.int .u32 x.f3], [.int .u8 x.f4.f0, .int .i64 x.f4.f1, .bool x.f4.f2, .bool x.f4.f3, .int .u64 x.f5, .bool x.f6, v10], rfl, rfl, ⟨[.int .u8 x.f4.f0, .int .i64 x.f4.f1, .bool x.f4.f2, .bool x.f4.f3], [.int .u64 x.f5, .bool x.f6, v10], rfl, (k24_mkM w base ok x.f4 ), ⟨[.int .u64 x.f5], [.bool x.f6, v10], rfl, rfl, ⟨[.bool x.f6], [v10], rfl, rfl, ⟨v10, rfl, g10⟩⟩⟩⟩⟩⟩⟩⟩
def rd_T28 (xs : List S28) (i : Int) : S28 := xs.getD i.toNat z28
theorem at_T28 {w : World} {A : Option Addr} {n : Nat} {xs : List S28} (h : Kd.C k28 w A n xs) (i : Int) (h0 : 0 ≤ i) (h1 : i < n) : ∃ ad A10 c10, A = some ad ∧ w.cell? (ad.add (i.toNat * 11)) = some (.int .i64 (rd_T28 xs i).f0) ∧ w.cell? ⟨(ad.add (i.toNat * 11)).block, (ad.add (i.toNat * 11)).off + 1, none⟩ = some (.int .i64 (rd_T28 xs i).f1) ∧ w.cell? ⟨(ad.add (i.toNat * 11)).block, (ad.add (i.toNat * 11)).off + 2, none⟩ = some (.int .u32 (rd_T28 xs i).f2) ∧ w.cell? ⟨(ad.add (i.toNat * 11)).block, (ad.add (i.toNat * 11)).off + 3, none⟩ = some (.int .u32 (rd_T28 xs i).f3) ∧ w.cell? ⟨(ad.add (i.toNat * 11)).block, (ad.add (i.toNat * 11)).off + 4, none⟩ = some (.int .u8 (rd_T28 xs i).f4.f0) ∧ w.cell? ⟨(ad.add (i.toNat * 11)).block, (ad.add (i.toNat * 11)).off + 5, none⟩ = some (.int .i64 (rd_T28 xs i).f4.f1) ∧ w.cell? ⟨(ad.add (i.toNat * 11)).block, (ad.add (i.toNat * 11)).off + 6, none⟩ = some (.bool (rd_T28 xs i).f4.f2) ∧ w.cell? ⟨(ad.add (i.toNat * 11)).block, (ad.add (i.toNat * 11)).off + 7, none⟩ = some (.bool (rd_T28 xs i).f4.f3) ∧ w.cell? ⟨(ad.add (i.toNat * 11)).block, (ad.add (i.toNat * 11)).off + 8, none⟩ = some (.int .u64 (rd_T28 xs i).f5) ∧ w.cell? ⟨(ad.add (i.toNat * 11)).block, (ad.add (i.toNat * 11)).off + 9, none⟩ = some (.bool (rd_T28 xs i).f6) ∧ w.cell? ⟨(ad.add (i.toNat * 11)).block, (ad.add (i.toNat * 11)).off + 10, none⟩ = some (.slice A10 (rd_T28 xs i).f7.length c10) ∧ (rd_T28 xs i).f7.length ≤ c10 ∧ (Kd.int .u8).C w A10 (rd_T28 xs i).f7.length (rd_T28 xs i).f7 := by
  obtain ⟨ad, c, e, _, hK, hc0⟩ := Kd.C_get h z28 i h0 h1
  have hc : ∀ j u, c[j]? = some u → w.cell? (ad.add (i.toNat * 11 + j)) = some u := hc0
  obtain ⟨A10, c10, rfl, l10, g10⟩ := k28_open hK
  exact ⟨ad, A10, c10, e, hc 0 _ rfl, by rw [← add_field _ _ 1 (by omega)]; exact hc 1 _ rfl, by rw [← add_field _ _ 2 (by omega)]; exact hc 2 _ rfl, by rw [← add_field _ _ 3 (by omega)]; exact hc 3 _ rfl, by rw [← add_field _ _ 4 (by omega)]; exact hc 4 _ rfl, by rw [← add_field _ _ 5 (by omega)]; exact hc 5 _ rfl, by rw [← add_field _ _ 6 (by omega)]; exact hc 6 _ rfl, by rw [← add_field _ _ 7 (by omega)]; exact hc 7 _ rfl, by rw [← add_field _ _ 8 (by omega)]; exact hc 8 _ rfl, by rw [← add_field _ _ 9 (by omega)]; exact hc 9 _ rfl, by rw [← add_field _ _ 10 (by omega)]; exact hc 10 _ rfl, l10, g10⟩

end Go.Proofs.Ytiiimpcdhgegmaa.PA
set_option linter.unusedVariables false
set_option linter.unusedSimpArgs false
namespace Go.Proofs.Ytiiimpcdhgegmaa.Nr
open Go.RowKit Go.Proofs.YtiiimpcdhgegmaaW.PrintWords Go.Proofs.YtiiimpcdhgegmaaW.PrintLast Go.Proofs.YtiiimpcdhgegmaaW.PrintMore
def Nr (w : World) (v : Value) (l : List Int) : Prop := ∃ A c, v = .slice A l.length c ∧ l.length ≤ c ∧ Kd.C (Kd.int .u64) w A l.length l
def IsRow (v : Option Value) : Prop := ∃ A n c, v = some (.slice A n c)
theorem Nr.below {w w1 : World} {v : Value} {l : List Int} (h : Nr w v l) (hb : Below w.heap.size w w1) : Nr w1 v l := by
  obtain ⟨A, c, e, hc, h⟩ := h
  exact ⟨A, c, e, hc, Kd.C_below h hb⟩
theorem Nr.alloc {w : World} {v : Value} {l : List Int} (h : Nr w v l) (o : Obj) : Nr (w.alloc o) v l := h.below (below_alloc (Below.refl _ _) o)
theorem Nr.drew {w : World} {v : Value} {l : List Int} (h : Nr w v l) : Nr w.drew v l := h.below (below_drew1 (Below.refl _ _))
theorem Nr.set {w : World} {v : Value} {l : List Int} (h : Nr w v l) {p : Addr} (x : Value) (hp : IsRow (w.cell? p)) : Nr (w.setCell p x) v l := by
  obtain ⟨A, c, e, hc, h1, h2, h3⟩ := h
  refine ⟨A, c, e, hc, h1, h2, fun hn => ?_⟩
  obtain ⟨ad, e1, h4⟩ := h3 hn
  refine ⟨ad, e1, fun j q hj => ?_⟩
  obtain ⟨cs, k1, k2, k3⟩ := h4 j q hj
  refine ⟨cs, k1, k2, fun i u hu => ?_⟩
  have k4 := k3 i u hu
  have k5 : u = .int .u64 q := by
    have k6 : cs = [Value.int .u64 q] := k2
    rw [k6] at hu
    rcases i with _ | i
    · simpa using hu.symm
    · simp at hu
  rw [World.cell?_setCell_other]
  · exact k4
  · intro e2
    obtain ⟨B, n, d, hp⟩ := hp
    rw [e2, k4, k5] at hp
    cases hp
theorem Nr.nil (w : World) : Nr w (.slice none 0 0) [] := ⟨none, 0, rfl, Nat.le_refl _, Kd.C_nil _ w⟩
theorem IsRow.slice (A : Option Addr) (n c : Nat) : IsRow (some (.slice A n c)) := ⟨A, n, c, rfl⟩
theorem bcell {W w1 : World} (hb : Below W.heap.size W w1) : (∀ b o, b < W.heap.size → w1.cell? ⟨b, o, none⟩ = W.cell? ⟨b, o, none⟩) ∧ (∀ b o, b < W.heap.size → w1.frozen? ⟨b, o, none⟩ = W.frozen? ⟨b, o, none⟩) :=
  ⟨fun b o h => hb.cell (p := ⟨b, o, none⟩) h, fun b o h => hb.frozen (p := ⟨b, o, none⟩) h⟩
def At (ok : Nat → Prop) (v : Value) : Prop := ∀ ad n c, v = .slice (some ad) n c → 0 < n → ok ad.block
theorem At.mono {ok ok' : Nat → Prop} {v : Value} (h : At ok v) (i : ∀ k, ok k → ok' k) : At ok' v := fun ad n c e hn => i _ (h ad n c e hn)
theorem Rs {w : World} {e base : Nat} {ok : Nat → Prop} {v : Value} {l : List Int} (h : Kd.R (Kd.int .u64) e w base ok v l) {p : Addr} (hne : v.ownBlock ≠ some p.block) (x : Value) : Kd.R (Kd.int .u64) e (w.setCell p x) base ok v l :=
  Kd.R_mono (Kd.R_far (Kd.R_far1 h rfl (g := p.block) (fun e => hne e.symm)) (fun _ hk => hk.2) x) (fun _ hk => hk.1)
structure Ow (e base : Nat) (w : World) (v : Value) (l : List Int) : Prop where
  out : Kd.R (Kd.int .u64) e w base (fun k => base ≤ k) v l
theorem Ow.nil (e base : Nat) (w : World) : Ow e base w (.slice none 0 0) [] := ⟨Kd.R_nil _ _ _ _ _⟩
theorem Ow.below {e base : Nat} {w w1 : World} {v : Value} {l : List Int} (h : Ow e base w v l) (hb : Below w.heap.size w w1) : Ow e base w1 v l := ⟨Kd.R_below h.out hb⟩
theorem Ow.alloc {e base : Nat} {w : World} {v : Value} {l : List Int} (h : Ow e base w v l) (o : Obj) : Ow e base (w.alloc o) v l := ⟨Kd.R_alloc h.out o⟩
theorem Ow.drew {e base : Nat} {w : World} {v : Value} {l : List Int} (h : Ow e base w v l) : Ow e base w.drew v l := ⟨Kd.R_drew h.out⟩
theorem Ow.set {e base : Nat} {w : World} {v : Value} {l : List Int} (h : Ow e base w v l) {p : Addr} (x : Value) (hne : v.ownBlock ≠ some p.block) : Ow e base (w.setCell p x) v l := ⟨Rs h.out hne x⟩
end Go.Proofs.Ytiiimpcdhgegmaa.Nr
/- memory: its bytes, by the map of its blocks. -/
namespace Go.Proofs.Ytiiimpcdhgegmaa.PA
open Go.RowKit Go.Proofs.YtiiimpcdhgegmaaW.PrintWords Go.Proofs.YtiiimpcdhgegmaaW.PrintLast Go.Proofs.YtiiimpcdhgegmaaW.PrintMore
attribute [local go_sem] max2_int min2_int max_two min_two max_three min_three max_four min_four   -- for this text's walks alone
set_option linter.unusedVariables false
set_option linter.unusedSimpArgs false
open Go.Maps (Keyed)
def pR : Value → Option (DataW Unit × List MemPlace)
  | .pointer none => some (.lit (.int .i64 0), [])
  | .pointer (some ⟨b, 0, none⟩) => some (.lit (.int .i64 ((b + 1 : Nat) : Int)), [])
  | _ => none
theorem pR_inv {v : Value} {c : Nat} {ps : List MemPlace} (h : pR v = some (.lit (.int .i64 (c : Int)), ps)) : (c = 0 ∧ v = .pointer none) ∨ ∃ b, c = b + 1 ∧ v = .pointer (some ⟨b, 0, none⟩) := by
  unfold pR at h
  split at h
  · simp at h
    exact .inl ⟨by omega, rfl⟩
  · rename_i b
    simp at h
    exact .inr ⟨b, by omega, rfl⟩
  · cases h
theorem kMem : Keyed Try.prog 25 := Go.Maps.int_keyed Try.underlying25
theorem zMem (w : World) : (zeroValue 63).run Try.prog w = .ok (.pointer none) w := by kernel_rfl
theorem keyMem {p : Nat} (h : p < 18446744073709551616) : keyOf Try.prog 25 (.int .u64 (p : Int)) = some (.int .u64 (p : Int)) :=
  Go.Maps.keyOf_int_mk Try.underlying25 (by simp [Lit.wf, IntKind.min, IntKind.max, IntKind.signed, IntKind.bits]; omega)
theorem wpList_look {P : Program} (w : World) {ops : Array Oper} {rest : List Oper} {o : Oper} {a : Act} {Q : Exit → Act → World → Prop}
    (hg : o.guard = none) (m x : Operand) (t : TypeId) (hop : o.op = Op.lookup t m x false) (B : Nat) (key v : Value) (hm : a.eval m = .map (some B)) (hx : a.eval x = key) (hrun : (Instr.lookup t (.map (some B)) key false).run P w = .ok v w)
    (hK : wpList P ops Q rest (a.put o.dst v) w) : wpList P ops Q (o :: rest) a w := by
  refine wpList_plain hg fun K' hK' => ?_
  unfold Oper.wp
  simp [execOp, hop, hm, hx, hrun, Result.andThen]
  exact hK' _ _ hK
structure Pgs (w : World) (M : Nat → Prop) (G B n : Nat) (f : Nat → Int) (D : DataW Unit) (c : Nat → Nat) : Prop where
  own : w.ownsMap Try.prog 25 pR B n D
  at_ : ∀ p : Nat, p < 18446744073709551616 → D.atKey (.int .u64 (p : Int)) (.lit (.int .i64 0)) = .lit (.int .i64 (c p : Int))
  zero : ∀ p, c p = 0 → ∀ i, i < 64 → f (64 * p + i) = 0
  blk : ∀ p b, c p = b + 1 → M b ∧ b ≠ G ∧ b ≠ B ∧ b < w.heap.size ∧ ∀ i, i < 64 → w.cell? ⟨b, i, none⟩ = some (.int .u8 (f (64 * p + i))) ∧ w.frozen? ⟨b, i, none⟩ = false
  inj : ∀ p p', c p = c p' → c p ≠ 0 → p = p'
structure Mem (w : World) (M : Nat → Prop) (G B n : Nat) (pg mx : Int) (hs : Bool) (f : Nat → Int) : Prop where
  b1 : M G
  b2 : M B
  ne : B ≠ G
  lt : G < w.heap.size
  c0 : w.cell? ⟨G, 0, none⟩ = some (.int .u32 pg)
  c1 : w.cell? ⟨G, 1, none⟩ = some (.int .u32 mx)
  c2 : w.cell? ⟨G, 2, none⟩ = some (.bool hs)
  c3 : w.cell? ⟨G, 3, none⟩ = some (.map (some B))
  fz : w.frozen? ⟨G, 0, none⟩ = false
  pgs : ∃ D c, Pgs w M G B n f D c
theorem Mem.below {w w' : World} {M : Nat → Prop} {G B n : Nat} {pg mx : Int} {hs : Bool} {f : Nat → Int} (h : Mem w M G B n pg mx hs f) (hb : Below w.heap.size w w') : Mem w' M G B n pg mx hs f := by
  obtain ⟨D, c, P⟩ := h.pgs
  have k := Nr.bcell hb
  refine ⟨h.b1, h.b2, h.ne, Nat.lt_of_lt_of_le h.lt hb.size, (k.1 _ _ h.lt).trans h.c0, (k.1 _ _ h.lt).trans h.c1, (k.1 _ _ h.lt).trans h.c2, (k.1 _ _ h.lt).trans h.c3, (k.2 _ _ h.lt).trans h.fz, D, c, ?_⟩
  refine ⟨?_, P.at_, P.zero, ?_, P.inj⟩
  · obtain ⟨es, clock, e1, e2, e3, e4⟩ := P.own
    exact ⟨es, clock, (hb.block _ P.own.lt).trans e1, e2, e3, e4⟩
  · intro p b hc
    obtain ⟨g1, g2, g3, g4, g5⟩ := P.blk p b hc
    exact ⟨g1, g2, g3, Nat.lt_of_lt_of_le g4 hb.size, fun i hi => ⟨(k.1 _ _ g4).trans (g5 i hi).1, (k.2 _ _ g4).trans (g5 i hi).2⟩⟩
theorem Mem.look {w : World} {M : Nat → Prop} {G B n : Nat} {pg mx : Int} {hs : Bool} {f : Nat → Int} (h : Mem w M G B n pg mx hs f) (p : Nat) (hp : p < 18446744073709551616) :
    ∃ D c, Pgs w M G B n f D c ∧ ((c p = 0 ∧ (Instr.lookup 50 (.map (some B)) (.int .u64 (p : Int)) false).run Try.prog w = .ok (.pointer none) w) ∨
      ∃ b, c p = b + 1 ∧ (Instr.lookup 50 (.map (some B)) (.int .u64 (p : Int)) false).run Try.prog w = .ok (.pointer (some ⟨b, 0, none⟩)) w) := by
  obtain ⟨D, c, P⟩ := h.pgs
  obtain ⟨v, ps, hrun, hv⟩ := P.own.lookup kMem Try.underlying50 (zMem w) (zd := .lit (.int .i64 0)) (zp := []) rfl (keyMem hp)
  rw [P.at_ p hp] at hv
  refine ⟨D, c, P, ?_⟩
  rcases pR_inv hv with ⟨h0, rfl⟩ | ⟨b, hb, rfl⟩
  · exact .inl ⟨h0, hrun⟩
  · exact .inr ⟨b, hb, hrun⟩
set_option maxHeartbeats 4000000 in
set_option maxRecDepth 100000 in
theorem memGet (at' : Nat) (w : World) {M : Nat → Prop} {G B n : Nat} {pg mx : Int} {hs : Bool} {f : Nat → Int} (h : Mem w M G B n pg mx hs f) (ha : at' < 18446744073709551616) :
    Calls Try.prog 18 #[.pointer (some ⟨G, 0, none⟩), .int .u64 (at' : Int)] w fun e w' => e = .returned (.int .u8 (f at')) ∧ w' = w := by
  have hu1 := Try.underlying52
  have hu2 := Try.underlying65
  have c3 := h.c3
  obtain ⟨D, c, P, hl⟩ := h.look (at' / 64) (by omega)
  have e64 : 64 * (at' / 64) + at' % 64 = at' := Nat.div_add_mod at' 64
  rcases hl with ⟨hc, hrun⟩ | ⟨b, hc, hrun⟩
  · have fz := P.zero _ hc (at' % 64) (Nat.mod_lt _ (by decide))
    rw [e64] at fz
    rw [fz]
    go_enter Try.func18, Try.ntmps18
    go_wp2_with (first | (at_lookup; refine wpList_look _ rfl _ _ 50 rfl B _ _ rfl rfl hrun ?_))
    go_ret
    exact ⟨rfl, rfl⟩
  · obtain ⟨g1, g2, g3, g4, g5⟩ := P.blk _ b hc
    have q := (g5 (at' % 64) (Nat.mod_lt _ (by decide))).1
    rw [e64] at q
    go_enter Try.func18, Try.ntmps18
    go_wp2_with (first | (at_lookup; refine wpList_look _ rfl _ _ 50 rfl B _ _ rfl rfl hrun ?_))
    go_ret
    exact ⟨rfl, rfl⟩
end Go.Proofs.Ytiiimpcdhgegmaa.PA
