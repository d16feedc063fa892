/- What the Go functions that the statement MemoryKeeps reaches compute, and the mathematics on it, in the order in which one leans on the other; for every input. -/
import Derived.Test.YtiiimpcdhgegmaaVMemoryKeeps0
import Derived.Test.YtiiimpcdhgegmaaProg
import Derived.Below
import Derived.Deep.Draws
import Derived.Deep.AppendLies
import Derived.Maps.AppendAt
import Derived.OwnWalk
import Derived.Laws.BytesArg
import Derived.Laws.MakeOwn
import Derived.Laws.OwnMore
import Derived.Deep.OwnRows
import Derived.Tactics
import Derived.Lib.ConvBytes
import Derived.Laws.Slices
import Derived.WalkKit
import Derived.KernelRfl
import Derived.RowKit3
import Derived.Deep.LoopGhost
import Derived.Deep.QuietTactic
import Derived.BigQuiet
import Derived.WideLaws
import Derived.Deep.DeepCutAuto
import Derived.Deep.CutBlock
import Derived.Deep.RegionHeld3
import Derived.Laws.Rows
import Derived.Lib.AppendStr
import Derived.ArgAppend
import Derived.Laws.IdiomCopy
import Derived.OrdersHeld
import Derived.Laws.BitsLemmas
import Derived.RowKit
import Derived.Maps.OwnOps
import Derived.Maps.OwnSet
import Derived.Maps.Views
import Derived.Laws.BitsAllLaws
namespace Go.Proofs.Ytiiimpcdhgegmaa.PA
open Go.RowKit Go.Proofs.YtiiimpcdhgegmaaW.PrintWords Go.Proofs.YtiiimpcdhgegmaaW.PrintLast Go.Proofs.YtiiimpcdhgegmaaW.PrintMore
attribute [local go_sem] max2_int min2_int max_two min_two max_three min_three max_four min_four   -- for this text's walks alone
set_option linter.unusedVariables false
set_option linter.unusedSimpArgs false
set_option maxHeartbeats 8000000
set_option maxRecDepth 100000



def errW : Option Int → Value
  | none => .nilIface
  | some c => .iface 0 (.int .i64 c)
theorem errW_none : errW none = .nilIface := rfl
theorem errW_some (c : Int) : errW (some c) = .iface 0 (.int .i64 c) := rfl

-- the values' own types
structure S24 where
  f0 : Int
  f1 : Int
  f2 : Bool
  f3 : Bool
def z24 : S24 := ⟨(0 : Int), (0 : Int), false, false⟩
def k24 : Kd S24 := Kd.iso (Kd.pair (Kd.int .u8) (Kd.pair (Kd.int .i64) (Kd.pair Kd.bool Kd.bool))) (fun x : S24 => (x.f0, x.f1, x.f2, x.f3))
theorem k24_open {w : World} {x : S24} {cs : List Value} (h : k24.K w x cs) : cs = [.int .u8 x.f0, .int .i64 x.f1, .bool x.f2, .bool x.f3] := by
  obtain ⟨_, _, rfl, rfl, ⟨_, _, rfl, rfl, ⟨_, _, rfl, rfl, rfl⟩⟩⟩ := h
  exact rfl
theorem k24_openM {w : World} {base : Nat} {ok : Nat → Prop} {x : S24} {cs : List Value} (h : k24.M w base ok x cs) : cs = [.int .u8 x.f0, .int .i64 x.f1, .bool x.f2, .bool x.f3] := by
  obtain ⟨_, _, rfl, rfl, ⟨_, _, rfl, rfl, ⟨_, _, rfl, rfl, rfl⟩⟩⟩ := h
  exact rfl
theorem k24_mk (w : World) (x : S24)  : k24.K w x [.int .u8 x.f0, .int .i64 x.f1, .bool x.f2, .bool x.f3] := ⟨[.int .u8 x.f0], [.int .i64 x.f1, .bool x.f2, .bool x.f3], rfl, rfl, ⟨[.int .i64 x.f1], [.bool x.f2, .bool x.f3], rfl, rfl, ⟨[.bool x.f2], [.bool x.f3], rfl, rfl, rfl⟩⟩⟩
theorem k24_mkM (w : World) (base : Nat) (ok : Nat → Prop) (x : S24)  : k24.M w base ok x [.int .u8 x.f0, .int .i64 x.f1, .bool x.f2, .bool x.f3] := ⟨[.int .u8 x.f0], [.int .i64 x.f1, .bool x.f2, .bool x.f3], rfl, rfl, ⟨[.int .i64 x.f1], [.bool x.f2, .bool x.f3], rfl, rfl, ⟨[.bool x.f2], [.bool x.f3], rfl, rfl, rfl⟩⟩⟩
def rd_T24 (xs : List S24) (i : Int) : S24 := xs.getD i.toNat z24
theorem at_T24 {w : World} {A : Option Addr} {n : Nat} {xs : List S24} (h : Kd.C k24 w A n xs) (i : Int) (h0 : 0 ≤ i) (h1 : i < n) : ∃ ad , A = some ad ∧ w.cell? (ad.add (i.toNat * 4)) = some (.int .u8 (rd_T24 xs i).f0) ∧ w.cell? ⟨(ad.add (i.toNat * 4)).block, (ad.add (i.toNat * 4)).off + 1, none⟩ = some (.int .i64 (rd_T24 xs i).f1) ∧ w.cell? ⟨(ad.add (i.toNat * 4)).block, (ad.add (i.toNat * 4)).off + 2, none⟩ = some (.bool (rd_T24 xs i).f2) ∧ w.cell? ⟨(ad.add (i.toNat * 4)).block, (ad.add (i.toNat * 4)).off + 3, none⟩ = some (.bool (rd_T24 xs i).f3) := by
  obtain ⟨ad, c, e, _, hK, hc0⟩ := Kd.C_get h z24 i h0 h1
  have hc : ∀ j u, c[j]? = some u → w.cell? (ad.add (i.toNat * 4 + j)) = some u := hc0
  obtain rfl := k24_open hK
  exact ⟨ad, e, hc 0 _ rfl, by rw [← add_field _ _ 1 (by omega)]; exact hc 1 _ rfl, by rw [← add_field _ _ 2 (by omega)]; exact hc 2 _ rfl, by rw [← add_field _ _ 3 (by omega)]; exact hc 3 _ rfl⟩

def rd_L6 (xs : List (List Int)) (i : Int) : (List Int) := xs.getD i.toNat ([] : List Int)
theorem at_L6 {w : World} {A : Option Addr} {n : Nat} {xs : List (List Int)} (h : Kd.C (Kd.slice 5 (Kd.int .u8)) w A n xs) (i : Int) (h0 : 0 ≤ i) (h1 : i < n) : ∃ ad A0 c0, A = some ad ∧ w.cell? (ad.add i.toNat) = some (.slice A0 (rd_L6 xs i).length c0) ∧ (rd_L6 xs i).length ≤ c0 ∧ (Kd.int .u8).C w A0 (rd_L6 xs i).length (rd_L6 xs i) := by
  obtain ⟨ad, c, e, _, hK, hc0⟩ := Kd.C_get h ([] : List Int) i h0 h1
  have hc : ∀ j u, c[j]? = some u → w.cell? (ad.add (i.toNat * 1 + j)) = some u := hc0
  obtain ⟨A0, c0, rfl, l0, g0⟩ := hK
  exact ⟨ad, A0, c0, e, by have hq := hc 0 _ rfl; rwa [Nat.mul_one, Nat.add_zero] at hq, l0, g0⟩

structure S28 where
  f0 : Int
  f1 : Int
  f2 : Int
  f3 : Int
  f4 : S24
  f5 : Int
  f6 : Bool
  f7 : (List Int)
def z28 : S28 := ⟨(0 : Int), (0 : Int), (0 : Int), (0 : Int), z24, (0 : Int), false, ([] : List Int)⟩
def k28 : Kd S28 := Kd.iso (Kd.pair (Kd.int .i64) (Kd.pair (Kd.int .i64) (Kd.pair (Kd.int .u32) (Kd.pair (Kd.int .u32) (Kd.pair k24 (Kd.pair (Kd.int .u64) (Kd.pair Kd.bool (Kd.slice 5 (Kd.int .u8))))))))) (fun x : S28 => (x.f0, x.f1, x.f2, x.f3, x.f4, x.f5, x.f6, x.f7))
theorem k28_open {w : World} {x : S28} {cs : List Value} (h : k28.K w x cs) : ∃ A10 c10, cs = [.int .i64 x.f0, .int .i64 x.f1, .int .u32 x.f2, .int .u32 x.f3, .int .u8 x.f4.f0, .int .i64 x.f4.f1, .bool x.f4.f2, .bool x.f4.f3, .int .u64 x.f5, .bool x.f6, .slice A10 x.f7.length c10] ∧ x.f7.length ≤ c10 ∧ (Kd.int .u8).C w A10 x.f7.length x.f7 := by
  obtain ⟨_, _, rfl, rfl, ⟨_, _, rfl, rfl, ⟨_, _, rfl, rfl, ⟨_, _, rfl, rfl, ⟨_, _, rfl, s4, ⟨_, _, rfl, rfl, ⟨_, _, rfl, rfl, ⟨A10, c10, rfl, l10, g10⟩⟩⟩⟩⟩⟩⟩⟩ := h
  obtain rfl := k24_open s4
  exact ⟨A10, c10, rfl, l10, g10⟩
theorem k28_openM {w : World} {base : Nat} {ok : Nat → Prop} {x : S28} {cs : List Value} (h : k28.M w base ok x cs) : ∃ v10, cs = [.int .i64 x.f0, .int .i64 x.f1, .int .u32 x.f2, .int .u32 x.f3, .int .u8 x.f4.f0, .int .i64 x.f4.f1, .bool x.f4.f2, .bool x.f4.f3, .int .u64 x.f5, .bool x.f6, v10] ∧ (Kd.int .u8).R 5 w base ok v10 x.f7 := by
  obtain ⟨_, _, rfl, rfl, ⟨_, _, rfl, rfl, ⟨_, _, rfl, rfl, ⟨_, _, rfl, rfl, ⟨_, _, rfl, s4, ⟨_, _, rfl, rfl, ⟨_, _, rfl, rfl, ⟨v10, rfl, g10⟩⟩⟩⟩⟩⟩⟩⟩ := h
  obtain rfl := k24_openM s4
  exact ⟨v10, rfl, g10⟩
theorem k28_mk (w : World) (x : S28) {A10 : Option Addr} {c10 : Nat} (l10 : x.f7.length ≤ c10) (g10 : (Kd.int .u8).C w A10 x.f7.length x.f7) : k28.K w x [.int .i64 x.f0, .int .i64 x.f1, .int .u32 x.f2, .int .u32 x.f3, .int .u8 x.f4.f0, .int .i64 x.f4.f1, .bool x.f4.f2, .bool x.f4.f3, .int .u64 x.f5, .bool x.f6, .slice A10 x.f7.length c10] := ⟨[.int .i64 x.f0], [.int .i64 x.f1, .int .u32 x.f2, .int .u32 x.f3, .int .u8 x.f4.f0, .int .i64 x.f4.f1, .bool x.f4.f2, .bool x.f4.f3, .int .u64 x.f5, .bool x.f6, .slice A10 x.f7.length c10], rfl, rfl, ⟨[.int .i64 x.f1], [.int .u32 x.f2, .int .u32 x.f3, .int .u8 x.f4.f0, .int .i64 x.f4.f1, .bool x.f4.f2, .bool x.f4.f3, .int .u64 x.f5, .bool x.f6, .slice A10 x.f7.length c10], rfl, rfl, ⟨[.int .u32 x.f2], [.int .u32 x.f3, .int .u8 x.f4.f0, .int .i64 x.f4.f1, .bool x.f4.f2, .bool x.f4.f3, .int .u64 x.f5, .bool x.f6, .slice A10 x.f7.length c10], rfl, rfl, ⟨[.int .u32 x.f3], [.int .u8 x.f4.f0, .int .i64 x.f4.f1, .bool x.f4.f2, .bool x.f4.f3, .int .u64 x.f5, .bool x.f6, .slice A10 x.f7.length c10], rfl, rfl, ⟨[.int .u8 x.f4.f0, .int .i64 x.f4.f1, .bool x.f4.f2, .bool x.f4.f3], [.int .u64 x.f5, .bool x.f6, .slice A10 x.f7.length c10], rfl, (k24_mk w x.f4 ), ⟨[.int .u64 x.f5], [.bool x.f6, .slice A10 x.f7.length c10], rfl, rfl, ⟨[.bool x.f6], [.slice A10 x.f7.length c10], rfl, rfl, ⟨A10, c10, rfl, l10, g10⟩⟩⟩⟩⟩⟩⟩⟩
theorem k28_mkM (w : World) (base : Nat) (ok : Nat → Prop) (x : S28) {v10 : Value} (g10 : (Kd.int .u8).R 5 w base ok v10 x.f7) : k28.M w base ok x [.int .i64 x.f0, .int .i64 x.f1, .int .u32 x.f2, .int .u32 x.f3, .int .u8 x.f4.f0, .int .i64 x.f4.f1, .bool x.f4.f2, .bool x.f4.f3, .int .u64 x.f5, .bool x.f6, v10] := ⟨[.int .i64 x.f0], [.int .i64 x.f1, .int .u32 x.f2, .int .u32 x.f3, .int .u8 x.f4.f0, .int .i64 x.f4.f1, .bool x.f4.f2, .bool x.f4.f3, .int .u64 x.f5, .bool x.f6, v10], rfl, rfl, ⟨[.int .i64 x.f1], [.int .u32 x.f2, .int .u32 x.f3, .int .u8 x.f4.f0, .int .i64 x.f4.f1, .bool x.f4.f2, .bool x.f4.f3, .int .u64 x.f5, .bool x.f6, v10], rfl, rfl, ⟨[.int .u32 x.f2], [.int .u32 x.f3, .int .u8 x.f4.f0, .int .i64 x.f4.f1, .bool x.f4.f2, .bool x.f4.f3, .int .u64 x.f5, .bool x.f6, v10], rfl, rfl, ⟨[.int .u32 x.f3], [.int .u8 x.f4.f0, .int .i64 x.f4.f1, .bool x.f4.f2, .bool x.f4.f3, .int .u64 x.f5, .bool x.f6, v10], rfl, rfl, ⟨[.int .u8 x.f4.f0, .int .i64 x.f4.f1, .bool x.f4.f2, .bool x.f4.f3], [.int .u64 x.f5, .bool x.f6, v10], rfl, (k24_mkM w base ok x.f4 ), ⟨[.int .u64 x.f5], [.bool x.f6, v10], rfl, rfl, ⟨[.bool x.f6], [v10], rfl, rfl, ⟨v10, rfl, g10⟩⟩⟩⟩⟩⟩⟩⟩
def rd_T28 (xs : List S28) (i : Int) : S28 := xs.getD i.toNat z28
theorem at_T28 {w : World} {A : Option Addr} {n : Nat} {xs : List S28} (h : Kd.C k28 w A n xs) (i : Int) (h0 : 0 ≤ i) (h1 : i < n) : ∃ ad A10 c10, A = some ad ∧ w.cell? (ad.add (i.toNat * 11)) = some (.int .i64 (rd_T28 xs i).f0) ∧ w.cell? ⟨(ad.add (i.toNat * 11)).block, (ad.add (i.toNat * 11)).off + 1, none⟩ = some (.int .i64 (rd_T28 xs i).f1) ∧ w.cell? ⟨(ad.add (i.toNat * 11)).block, (ad.add (i.toNat * 11)).off + 2, none⟩ = some (.int .u32 (rd_T28 xs i).f2) ∧ w.cell? ⟨(ad.add (i.toNat * 11)).block, (ad.add (i.toNat * 11)).off + 3, none⟩ = some (.int .u32 (rd_T28 xs i).f3) ∧ w.cell? ⟨(ad.add (i.toNat * 11)).block, (ad.add (i.toNat * 11)).off + 4, none⟩ = some (.int .u8 (rd_T28 xs i).f4.f0) ∧ w.cell? ⟨(ad.add (i.toNat * 11)).block, (ad.add (i.toNat * 11)).off + 5, none⟩ = some (.int .i64 (rd_T28 xs i).f4.f1) ∧ w.cell? ⟨(ad.add (i.toNat * 11)).block, (ad.add (i.toNat * 11)).off + 6, none⟩ = some (.bool (rd_T28 xs i).f4.f2) ∧ w.cell? ⟨(ad.add (i.toNat * 11)).block, (ad.add (i.toNat * 11)).off + 7, none⟩ = some (.bool (rd_T28 xs i).f4.f3) ∧ w.cell? ⟨(ad.add (i.toNat * 11)).block, (ad.add (i.toNat * 11)).off + 8, none⟩ = some (.int .u64 (rd_T28 xs i).f5) ∧ w.cell? ⟨(ad.add (i.toNat * 11)).block, (ad.add (i.toNat * 11)).off + 9, none⟩ = some (.bool (rd_T28 xs i).f6) ∧ w.cell? ⟨(ad.add (i.toNat * 11)).block, (ad.add (i.toNat * 11)).off + 10, none⟩ = some (.slice A10 (rd_T28 xs i).f7.length c10) ∧ (rd_T28 xs i).f7.length ≤ c10 ∧ (Kd.int .u8).C w A10 (rd_T28 xs i).f7.length (rd_T28 xs i).f7 := by
  obtain ⟨ad, c, e, _, hK, hc0⟩ := Kd.C_get h z28 i h0 h1
  have hc : ∀ j u, c[j]? = some u → w.cell? (ad.add (i.toNat * 11 + j)) = some u := hc0
  obtain ⟨A10, c10, rfl, l10, g10⟩ := k28_open hK
  exact ⟨ad, A10, c10, e, hc 0 _ rfl, by rw [← add_field _ _ 1 (by omega)]; exact hc 1 _ rfl, by rw [← add_field _ _ 2 (by omega)]; exact hc 2 _ rfl, by rw [← add_field _ _ 3 (by omega)]; exact hc 3 _ rfl, by rw [← add_field _ _ 4 (by omega)]; exact hc 4 _ rfl, by rw [← add_field _ _ 5 (by omega)]; exact hc 5 _ rfl, by rw [← add_field _ _ 6 (by omega)]; exact hc 6 _ rfl, by rw [← add_field _ _ 7 (by omega)]; exact hc 7 _ rfl, by rw [← add_field _ _ 8 (by omega)]; exact hc 8 _ rfl, by rw [← add_field _ _ 9 (by omega)]; exact hc 9 _ rfl, by rw [← add_field _ _ 10 (by omega)]; exact hc 10 _ rfl, l10, g10⟩

end Go.Proofs.Ytiiimpcdhgegmaa.PA
set_option linter.unusedVariables false
set_option linter.unusedSimpArgs false
namespace Go.Proofs.Ytiiimpcdhgegmaa.Nr
open Go.RowKit Go.Proofs.YtiiimpcdhgegmaaW.PrintWords Go.Proofs.YtiiimpcdhgegmaaW.PrintLast Go.Proofs.YtiiimpcdhgegmaaW.PrintMore
def Nr (w : World) (v : Value) (l : List Int) : Prop := ∃ A c, v = .slice A l.length c ∧ l.length ≤ c ∧ Kd.C (Kd.int .u64) w A l.length l
def IsRow (v : Option Value) : Prop := ∃ A n c, v = some (.slice A n c)
theorem Nr.below {w w1 : World} {v : Value} {l : List Int} (h : Nr w v l) (hb : Below w.heap.size w w1) : Nr w1 v l := by
  obtain ⟨A, c, e, hc, h⟩ := h
  exact ⟨A, c, e, hc, Kd.C_below h hb⟩
theorem Nr.alloc {w : World} {v : Value} {l : List Int} (h : Nr w v l) (o : Obj) : Nr (w.alloc o) v l := h.below (below_alloc (Below.refl _ _) o)
theorem Nr.drew {w : World} {v : Value} {l : List Int} (h : Nr w v l) : Nr w.drew v l := h.below (below_drew1 (Below.refl _ _))
theorem Nr.set {w : World} {v : Value} {l : List Int} (h : Nr w v l) {p : Addr} (x : Value) (hp : IsRow (w.cell? p)) : Nr (w.setCell p x) v l := by
  obtain ⟨A, c, e, hc, h1, h2, h3⟩ := h
  refine ⟨A, c, e, hc, h1, h2, fun hn => ?_⟩
  obtain ⟨ad, e1, h4⟩ := h3 hn
  refine ⟨ad, e1, fun j q hj => ?_⟩
  obtain ⟨cs, k1, k2, k3⟩ := h4 j q hj
  refine ⟨cs, k1, k2, fun i u hu => ?_⟩
  have k4 := k3 i u hu
  have k5 : u = .int .u64 q := by
    have k6 : cs = [Value.int .u64 q] := k2
    rw [k6] at hu
    rcases i with _ | i
    · simpa using hu.symm
    · simp at hu
  rw [World.cell?_setCell_other]
  · exact k4
  · intro e2
    obtain ⟨B, n, d, hp⟩ := hp
    rw [e2, k4, k5] at hp
    cases hp
theorem Nr.nil (w : World) : Nr w (.slice none 0 0) [] := ⟨none, 0, rfl, Nat.le_refl _, Kd.C_nil _ w⟩
theorem IsRow.slice (A : Option Addr) (n c : Nat) : IsRow (some (.slice A n c)) := ⟨A, n, c, rfl⟩
theorem bcell {W w1 : World} (hb : Below W.heap.size W w1) : (∀ b o, b < W.heap.size → w1.cell? ⟨b, o, none⟩ = W.cell? ⟨b, o, none⟩) ∧ (∀ b o, b < W.heap.size → w1.frozen? ⟨b, o, none⟩ = W.frozen? ⟨b, o, none⟩) :=
  ⟨fun b o h => hb.cell (p := ⟨b, o, none⟩) h, fun b o h => hb.frozen (p := ⟨b, o, none⟩) h⟩
def At (ok : Nat → Prop) (v : Value) : Prop := ∀ ad n c, v = .slice (some ad) n c → 0 < n → ok ad.block
theorem At.mono {ok ok' : Nat → Prop} {v : Value} (h : At ok v) (i : ∀ k, ok k → ok' k) : At ok' v := fun ad n c e hn => i _ (h ad n c e hn)
theorem Rs {w : World} {e base : Nat} {ok : Nat → Prop} {v : Value} {l : List Int} (h : Kd.R (Kd.int .u64) e w base ok v l) {p : Addr} (hne : v.ownBlock ≠ some p.block) (x : Value) : Kd.R (Kd.int .u64) e (w.setCell p x) base ok v l :=
  Kd.R_mono (Kd.R_far (Kd.R_far1 h rfl (g := p.block) (fun e => hne e.symm)) (fun _ hk => hk.2) x) (fun _ hk => hk.1)
structure Ow (e base : Nat) (w : World) (v : Value) (l : List Int) : Prop where
  out : Kd.R (Kd.int .u64) e w base (fun k => base ≤ k) v l
theorem Ow.nil (e base : Nat) (w : World) : Ow e base w (.slice none 0 0) [] := ⟨Kd.R_nil _ _ _ _ _⟩
theorem Ow.below {e base : Nat} {w w1 : World} {v : Value} {l : List Int} (h : Ow e base w v l) (hb : Below w.heap.size w w1) : Ow e base w1 v l := ⟨Kd.R_below h.out hb⟩
theorem Ow.alloc {e base : Nat} {w : World} {v : Value} {l : List Int} (h : Ow e base w v l) (o : Obj) : Ow e base (w.alloc o) v l := ⟨Kd.R_alloc h.out o⟩
theorem Ow.drew {e base : Nat} {w : World} {v : Value} {l : List Int} (h : Ow e base w v l) : Ow e base w.drew v l := ⟨Kd.R_drew h.out⟩
theorem Ow.set {e base : Nat} {w : World} {v : Value} {l : List Int} (h : Ow e base w v l) {p : Addr} (x : Value) (hne : v.ownBlock ≠ some p.block) : Ow e base (w.setCell p x) v l := ⟨Rs h.out hne x⟩
end Go.Proofs.Ytiiimpcdhgegmaa.Nr
/- memory: its bytes, by the map of its blocks. -/
namespace Go.Proofs.Ytiiimpcdhgegmaa.PA
open Go.RowKit Go.Proofs.YtiiimpcdhgegmaaW.PrintWords Go.Proofs.YtiiimpcdhgegmaaW.PrintLast Go.Proofs.YtiiimpcdhgegmaaW.PrintMore
attribute [local go_sem] max2_int min2_int max_two min_two max_three min_three max_four min_four   -- for this text's walks alone
set_option linter.unusedVariables false
set_option linter.unusedSimpArgs false
open Go.Maps (Keyed)
def pR : Value → Option (DataW Unit × List MemPlace)
  | .pointer none => some (.lit (.int .i64 0), [])
  | .pointer (some ⟨b, 0, none⟩) => some (.lit (.int .i64 ((b + 1 : Nat) : Int)), [])
  | _ => none
theorem pR_inv {v : Value} {c : Nat} {ps : List MemPlace} (h : pR v = some (.lit (.int .i64 (c : Int)), ps)) : (c = 0 ∧ v = .pointer none) ∨ ∃ b, c = b + 1 ∧ v = .pointer (some ⟨b, 0, none⟩) := by
  unfold pR at h
  split at h
  · simp at h
    exact .inl ⟨by omega, rfl⟩
  · rename_i b
    simp at h
    exact .inr ⟨b, by omega, rfl⟩
  · cases h
theorem kMem : Keyed Try.prog 25 := Go.Maps.int_keyed Try.underlying25
theorem zMem (w : World) : (zeroValue 63).run Try.prog w = .ok (.pointer none) w := by kernel_rfl
theorem keyMem {p : Nat} (h : p < 18446744073709551616) : keyOf Try.prog 25 (.int .u64 (p : Int)) = some (.int .u64 (p : Int)) :=
  Go.Maps.keyOf_int_mk Try.underlying25 (by simp [Lit.wf, IntKind.min, IntKind.max, IntKind.signed, IntKind.bits]; omega)
theorem wpList_look {P : Program} (w : World) {ops : Array Oper} {rest : List Oper} {o : Oper} {a : Act} {Q : Exit → Act → World → Prop}
    (hg : o.guard = none) (m x : Operand) (t : TypeId) (hop : o.op = Op.lookup t m x false) (B : Nat) (key v : Value) (hm : a.eval m = .map (some B)) (hx : a.eval x = key) (hrun : (Instr.lookup t (.map (some B)) key false).run P w = .ok v w)
    (hK : wpList P ops Q rest (a.put o.dst v) w) : wpList P ops Q (o :: rest) a w := by
  refine wpList_plain hg fun K' hK' => ?_
  unfold Oper.wp
  simp [execOp, hop, hm, hx, hrun, Result.andThen]
  exact hK' _ _ hK
structure Pgs (w : World) (M : Nat → Prop) (G B n : Nat) (f : Nat → Int) (D : DataW Unit) (c : Nat → Nat) : Prop where
  own : w.ownsMap Try.prog 25 pR B n D
  at_ : ∀ p : Nat, p < 18446744073709551616 → D.atKey (.int .u64 (p : Int)) (.lit (.int .i64 0)) = .lit (.int .i64 (c p : Int))
  zero : ∀ p, c p = 0 → ∀ i, i < 64 → f (64 * p + i) = 0
  blk : ∀ p b, c p = b + 1 → M b ∧ b ≠ G ∧ b ≠ B ∧ b < w.heap.size ∧ ∀ i, i < 64 → w.cell? ⟨b, i, none⟩ = some (.int .u8 (f (64 * p + i))) ∧ w.frozen? ⟨b, i, none⟩ = false
  inj : ∀ p p', c p = c p' → c p ≠ 0 → p = p'
structure Mem (w : World) (M : Nat → Prop) (G B n : Nat) (pg mx : Int) (hs : Bool) (f : Nat → Int) : Prop where
  b1 : M G
  b2 : M B
  ne : B ≠ G
  lt : G < w.heap.size
  c0 : w.cell? ⟨G, 0, none⟩ = some (.int .u32 pg)
  c1 : w.cell? ⟨G, 1, none⟩ = some (.int .u32 mx)
  c2 : w.cell? ⟨G, 2, none⟩ = some (.bool hs)
  c3 : w.cell? ⟨G, 3, none⟩ = some (.map (some B))
  fz : w.frozen? ⟨G, 0, none⟩ = false
  pgs : ∃ D c, Pgs w M G B n f D c
theorem Mem.below {w w' : World} {M : Nat → Prop} {G B n : Nat} {pg mx : Int} {hs : Bool} {f : Nat → Int} (h : Mem w M G B n pg mx hs f) (hb : Below w.heap.size w w') : Mem w' M G B n pg mx hs f := by
  obtain ⟨D, c, P⟩ := h.pgs
  have k := Nr.bcell hb
  refine ⟨h.b1, h.b2, h.ne, Nat.lt_of_lt_of_le h.lt hb.size, (k.1 _ _ h.lt).trans h.c0, (k.1 _ _ h.lt).trans h.c1, (k.1 _ _ h.lt).trans h.c2, (k.1 _ _ h.lt).trans h.c3, (k.2 _ _ h.lt).trans h.fz, D, c, ?_⟩
  refine ⟨?_, P.at_, P.zero, ?_, P.inj⟩
  · obtain ⟨es, clock, e1, e2, e3, e4⟩ := P.own
    exact ⟨es, clock, (hb.block _ P.own.lt).trans e1, e2, e3, e4⟩
  · intro p b hc
    obtain ⟨g1, g2, g3, g4, g5⟩ := P.blk p b hc
    exact ⟨g1, g2, g3, Nat.lt_of_lt_of_le g4 hb.size, fun i hi => ⟨(k.1 _ _ g4).trans (g5 i hi).1, (k.2 _ _ g4).trans (g5 i hi).2⟩⟩
theorem Mem.look {w : World} {M : Nat → Prop} {G B n : Nat} {pg mx : Int} {hs : Bool} {f : Nat → Int} (h : Mem w M G B n pg mx hs f) (p : Nat) (hp : p < 18446744073709551616) :
    ∃ D c, Pgs w M G B n f D c ∧ ((c p = 0 ∧ (Instr.lookup 50 (.map (some B)) (.int .u64 (p : Int)) false).run Try.prog w = .ok (.pointer none) w) ∨
      ∃ b, c p = b + 1 ∧ (Instr.lookup 50 (.map (some B)) (.int .u64 (p : Int)) false).run Try.prog w = .ok (.pointer (some ⟨b, 0, none⟩)) w) := by
  obtain ⟨D, c, P⟩ := h.pgs
  obtain ⟨v, ps, hrun, hv⟩ := P.own.lookup kMem Try.underlying50 (zMem w) (zd := .lit (.int .i64 0)) (zp := []) rfl (keyMem hp)
  rw [P.at_ p hp] at hv
  refine ⟨D, c, P, ?_⟩
  rcases pR_inv hv with ⟨h0, rfl⟩ | ⟨b, hb, rfl⟩
  · exact .inl ⟨h0, hrun⟩
  · exact .inr ⟨b, hb, hrun⟩
set_option maxHeartbeats 4000000 in
set_option maxRecDepth 100000 in
theorem memGet (at' : Nat) (w : World) {M : Nat → Prop} {G B n : Nat} {pg mx : Int} {hs : Bool} {f : Nat → Int} (h : Mem w M G B n pg mx hs f) (ha : at' < 18446744073709551616) :
    Calls Try.prog 18 #[.pointer (some ⟨G, 0, none⟩), .int .u64 (at' : Int)] w fun e w' => e = .returned (.int .u8 (f at')) ∧ w' = w := by
  have hu1 := Try.underlying52
  have hu2 := Try.underlying65
  have c3 := h.c3
  obtain ⟨D, c, P, hl⟩ := h.look (at' / 64) (by omega)
  have e64 : 64 * (at' / 64) + at' % 64 = at' := Nat.div_add_mod at' 64
  rcases hl with ⟨hc, hrun⟩ | ⟨b, hc, hrun⟩
  · have fz := P.zero _ hc (at' % 64) (Nat.mod_lt _ (by decide))
    rw [e64] at fz
    rw [fz]
    go_enter Try.func18, Try.ntmps18
    go_wp2_with (first | (at_lookup; refine wpList_look _ rfl _ _ 50 rfl B _ _ rfl rfl hrun ?_))
    go_ret
    exact ⟨rfl, rfl⟩
  · obtain ⟨g1, g2, g3, g4, g5⟩ := P.blk _ b hc
    have q := (g5 (at' % 64) (Nat.mod_lt _ (by decide))).1
    rw [e64] at q
    go_enter Try.func18, Try.ntmps18
    go_wp2_with (first | (at_lookup; refine wpList_look _ rfl _ _ 50 rfl B _ _ rfl rfl hrun ?_))
    go_ret
    exact ⟨rfl, rfl⟩
end Go.Proofs.Ytiiimpcdhgegmaa.PA
/- memory: a byte written. -/
namespace Go.Proofs.Ytiiimpcdhgegmaa.PA
open Go.RowKit Go.Proofs.YtiiimpcdhgegmaaW.PrintWords Go.Proofs.YtiiimpcdhgegmaaW.PrintLast Go.Proofs.YtiiimpcdhgegmaaW.PrintMore
attribute [local go_sem] max2_int min2_int max_two min_two max_three min_three max_four min_four   -- for this text's walks alone
set_option linter.unusedVariables false
set_option linter.unusedSimpArgs false
open Go.Maps (Keyed)
structure Off (M : Nat → Prop) (w w' : World) : Prop where
  os : w'.os = w.os
  tape : w'.tape = w.tape
  output : w'.output = w.output
  size : w.heap.size ≤ w'.heap.size
  block : ∀ k, k < w.heap.size → ¬ M k → w'.heap[k]? = w.heap[k]?
theorem Off.refl (M : Nat → Prop) (w : World) : Off M w w := ⟨rfl, rfl, rfl, Nat.le_refl _, fun _ _ _ => rfl⟩
theorem Off.trans {M : Nat → Prop} {a b c : World} (h : Off M a b) (k : Off M b c) : Off M a c :=
  ⟨k.os.trans h.os, k.tape.trans h.tape, k.output.trans h.output, Nat.le_trans h.size k.size, fun i hi hm => (k.block i (Nat.lt_of_lt_of_le hi h.size) hm).trans (h.block i hi hm)⟩
theorem Off.mono {M M' : Nat → Prop} {a b : World} (h : Off M a b) (hm : ∀ k, M k → M' k) : Off M' a b :=
  ⟨h.os, h.tape, h.output, h.size, fun i hi q => h.block i hi (fun r => q (hm _ r))⟩
theorem Off.grown {M : Nat → Prop} {a b : World} {k : Nat} (h : a.grownBy b (some k)) (hk : M k) : Off M a b :=
  ⟨h.os, h.tape, h.output, h.size, fun i hi q => h.block i hi (fun e => q (by injection e with e; exact e ▸ hk))⟩
theorem Off.alloc {M : Nat → Prop} (w : World) (o : Obj) : Off M w (w.alloc o) := ⟨rfl, rfl, rfl, by simp, fun i hi _ => Below.heap_alloc _ _ _ hi⟩
theorem Off.setCell {M : Nat → Prop} (w : World) {p : Addr} (hp : M p.block) (u : Value) : Off M w (w.setCell p u) :=
  ⟨rfl, rfl, rfl, by simp [World.setCell], fun k _ q => Below.heap_setCell _ _ _ _ (fun e => q (e ▸ hp))⟩
theorem Off.below {M : Nat → Prop} {w w' : World} (h : Off M w w') (B : Nat) (hB : B ≤ w.heap.size) (hM : ∀ k, M k → B ≤ k) : Below B w w' :=
  ⟨h.os, h.tape, h.output, h.size, fun k hk => h.block k (by omega) (fun q => by have := hM _ q; omega)⟩
def upd (f : Nat → Int) (a : Nat) (x : Int) (j : Nat) : Int := if j = a then x else f j
theorem Mem.wider {w : World} {M M' : Nat → Prop} {G B n : Nat} {pg mx : Int} {hs : Bool} {f : Nat → Int} (h : Mem w M G B n pg mx hs f) (hm : ∀ k, k < w.heap.size → M k → M' k) : Mem w M' G B n pg mx hs f := by
  obtain ⟨D, c, P⟩ := h.pgs
  refine ⟨hm _ h.lt h.b1, hm _ P.own.lt h.b2, h.ne, h.lt, h.c0, h.c1, h.c2, h.c3, h.fz, D, c, P.own, P.at_, P.zero, ?_, P.inj⟩
  intro p b hc
  obtain ⟨g1, g2, g3, g4, g5⟩ := P.blk p b hc
  exact ⟨hm _ g4 g1, g2, g3, g4, g5⟩
theorem Mem.congr {w : World} {M : Nat → Prop} {G B n : Nat} {pg mx : Int} {hs : Bool} {f f' : Nat → Int} (h : Mem w M G B n pg mx hs f) (e : ∀ j, f j = f' j) : Mem w M G B n pg mx hs f' := by
  have : f = f' := funext e
  exact this ▸ h
theorem Mem.off {w w' : World} {M : Nat → Prop} {G B n : Nat} {pg mx : Int} {hs : Bool} {f : Nat → Int} (h : Mem w M G B n pg mx hs f) (hs' : w.heap.size ≤ w'.heap.size) (hb : ∀ k, k < w.heap.size → M k → w'.heap[k]? = w.heap[k]?) : Mem w' M G B n pg mx hs f := by
  obtain ⟨D, c, P⟩ := h.pgs
  have kc : ∀ b o, b < w.heap.size → M b → w'.cell? ⟨b, o, none⟩ = w.cell? ⟨b, o, none⟩ := fun b o hl hm => World.cell?_of_block (w := w) (hb b hl hm)
  have kf : ∀ b o, b < w.heap.size → M b → w'.frozen? ⟨b, o, none⟩ = w.frozen? ⟨b, o, none⟩ := fun b o hl hm => World.frozen?_of_block (w := w) (hb b hl hm)
  refine ⟨h.b1, h.b2, h.ne, Nat.lt_of_lt_of_le h.lt hs', (kc _ _ h.lt h.b1).trans h.c0, (kc _ _ h.lt h.b1).trans h.c1, (kc _ _ h.lt h.b1).trans h.c2, (kc _ _ h.lt h.b1).trans h.c3, (kf _ _ h.lt h.b1).trans h.fz, D, c, ?_⟩
  refine ⟨?_, P.at_, P.zero, ?_, P.inj⟩
  · obtain ⟨es, clock, e1, e2, e3, e4⟩ := P.own
    exact ⟨es, clock, (hb _ P.own.lt h.b2).trans e1, e2, e3, e4⟩
  · intro p b hc
    obtain ⟨g1, g2, g3, g4, g5⟩ := P.blk p b hc
    exact ⟨g1, g2, g3, Nat.lt_of_lt_of_le g4 hs', fun i hi => ⟨(kc _ _ g4 g1).trans (g5 i hi).1, (kf _ _ g4 g1).trans (g5 i hi).2⟩⟩
theorem Mem.set {w : World} {M : Nat → Prop} {G B n : Nat} {pg mx : Int} {hs : Bool} {f : Nat → Int} (h : Mem w M G B n pg mx hs f) {D : DataW Unit} {c : Nat → Nat} (P : Pgs w M G B n f D c) {p b i : Nat} (hc : c p = b + 1) (hi : i < 64) (x : Int) :
    Mem (w.setCell ⟨b, i, none⟩ (.int .u8 x)) M G B n pg mx hs (upd f (64 * p + i) x) := by
  obtain ⟨g1, g2, g3, g4, g5⟩ := P.blk p b hc
  have hg : w.grownBy (w.setCell ⟨b, i, none⟩ (.int .u8 x)) (some b) := ⟨rfl, rfl, rfl, by simp [World.setCell], fun k hk q => Below.heap_setCell _ _ _ _ (fun e => q (by rw [e]))⟩
  have kc : ∀ b' o, b' < w.heap.size → b' ≠ b → (w.setCell ⟨b, i, none⟩ (.int .u8 x)).cell? ⟨b', o, none⟩ = w.cell? ⟨b', o, none⟩ := fun b' o hl hm => World.cell?_of_block (w := w) (hg.block b' hl (fun e => hm (by injection e)))
  have kf : ∀ b' o, b' < w.heap.size → b' ≠ b → (w.setCell ⟨b, i, none⟩ (.int .u8 x)).frozen? ⟨b', o, none⟩ = w.frozen? ⟨b', o, none⟩ := fun b' o hl hm => World.frozen?_of_block (w := w) (hg.block b' hl (fun e => hm (by injection e)))
  refine ⟨h.b1, h.b2, h.ne, Nat.lt_of_lt_of_le h.lt hg.size, (kc _ _ h.lt (Ne.symm g2)).trans h.c0, (kc _ _ h.lt (Ne.symm g2)).trans h.c1, (kc _ _ h.lt (Ne.symm g2)).trans h.c2, (kc _ _ h.lt (Ne.symm g2)).trans h.c3, (kf _ _ h.lt (Ne.symm g2)).trans h.fz, D, c, ?_⟩
  refine ⟨P.own.kept hg (by simpa using Ne.symm g3), P.at_, ?_, ?_, P.inj⟩
  · intro p' h0 j hj
    have : 64 * p' + j ≠ 64 * p + i := by
      intro e
      have : p' = p := by omega
      subst this; omega
    unfold upd
    rw [if_neg this]
    exact P.zero p' h0 j hj
  · intro p' b' hc'
    obtain ⟨q1, q2, q3, q4, q5⟩ := P.blk p' b' hc'
    refine ⟨q1, q2, q3, Nat.lt_of_lt_of_le q4 hg.size, fun j hj => ?_⟩
    by_cases hp : p' = p
    · subst hp
      have hbb : b' = b := by omega
      subst hbb
      by_cases hj2 : j = i
      · subst hj2
        refine ⟨?_, (World.frozen?_setCell _ _ _ _).trans (q5 j hj).2⟩
        rw [World.cell?_setCell_same _ _ _ (q5 j hj).1]
        simp [upd]
      · refine ⟨?_, (World.frozen?_setCell _ _ _ _).trans (q5 j hj).2⟩
        rw [World.cell?_setCell_other _ _ _ _ (fun e => hj2 (by injection e with _ e _; exact e.symm)), (q5 j hj).1]
        simp only [upd]
        rw [if_neg (by omega)]
    · have hb2 : b' ≠ b := by
        intro e
        subst e
        exact hp (P.inj _ _ (hc'.trans hc.symm) (by omega))
      refine ⟨?_, (kf _ _ q4 hb2).trans (q5 j hj).2⟩
      rw [kc _ _ q4 hb2, (q5 j hj).1]
      simp only [upd]
      rw [if_neg]
      intro e
      exact hp (by omega)
theorem Mem.new {w w2 : World} {M : Nat → Prop} {G B n : Nat} {pg mx : Int} {hs : Bool} {f : Nat → Int} (h : Mem w M G B n pg mx hs f) (hM : ∀ k, w.heap.size ≤ k → M k) {D : DataW Unit} {c : Nat → Nat} (P : Pgs w M G B n f D c) {p : Nat} (hc : c p = 0) (o : Obj)
    (ho : ∀ i, i < 64 → (w.alloc o).cell? ⟨w.heap.size, i, none⟩ = some (.int .u8 0) ∧ (w.alloc o).frozen? ⟨w.heap.size, i, none⟩ = false)
    (h1 : w2.ownsMap Try.prog 25 pR B (n + 1) (D.put (.int .u64 (p : Int)) (.lit (.int .i64 ((w.heap.size + 1 : Nat) : Int))))) (h2 : (w.alloc o).grownBy w2 (some B)) :
    ∃ D' c', Pgs w2 M G B (n + 1) f D' c' ∧ c' p = w.heap.size + 1 ∧ Mem w2 M G B (n + 1) pg mx hs f := by
  have hz : (w.alloc o).heap.size = w.heap.size + 1 := by simp
  have kc : ∀ b' o', b' < w.heap.size → b' ≠ B → w2.cell? ⟨b', o', none⟩ = w.cell? ⟨b', o', none⟩ := fun b' o' hl hm =>
    (World.cell?_of_block (w := w.alloc o) (h2.block b' (by omega) (fun e => hm (by injection e)))).trans (World.cell?_of_block (w := w) (Below.heap_alloc _ _ _ hl))
  have kf : ∀ b' o', b' < w.heap.size → b' ≠ B → w2.frozen? ⟨b', o', none⟩ = w.frozen? ⟨b', o', none⟩ := fun b' o' hl hm =>
    (World.frozen?_of_block (w := w.alloc o) (h2.block b' (by omega) (fun e => hm (by injection e)))).trans (World.frozen?_of_block (w := w) (Below.heap_alloc _ _ _ hl))
  have hsz : w.heap.size + 1 ≤ w2.heap.size := hz ▸ h2.size
  have hBl := P.own.lt
  have P2 : Pgs w2 M G B (n + 1) f (D.put (.int .u64 (p : Int)) (.lit (.int .i64 ((w.heap.size + 1 : Nat) : Int)))) (fun q => if q = p then w.heap.size + 1 else c q) := by
    refine ⟨h1, ?_, ?_, ?_, ?_⟩
    · intro q hq
      by_cases e : q = p
      · subst e
        rw [if_pos rfl]
        refine Go.Maps.atKey_put_same ?_ ?_ _ _
        · obtain ⟨es, _, _, _, _, rfl⟩ := P.own
          exact ⟨_, rfl⟩
        · exact kMem.key (keyMem hq)
      · rw [if_neg e, Go.Maps.atKey_put_other (by simp; omega), P.at_ q hq]
    · intro q hq
      by_cases e : q = p
      · simp [e] at hq
      · simp only [e, if_false] at hq
        exact P.zero q hq
    · intro q b' hq
      by_cases e : q = p
      · subst e
        simp only [if_true] at hq
        have : b' = w.heap.size := by omega
        subst this
        refine ⟨hM _ (Nat.le_refl _), by have := h.lt; omega, by omega, by omega, fun i hi => ?_⟩
        have hb' : w2.heap[w.heap.size]? = (w.alloc o).heap[w.heap.size]? := h2.block _ (by omega) (fun e => by injection e with e; omega)
        have fz := P.zero q hc i hi
        rw [fz]
        exact ⟨(World.cell?_of_block (w := w.alloc o) hb').trans (ho i hi).1, (World.frozen?_of_block (w := w.alloc o) hb').trans (ho i hi).2⟩
      · simp only [e, if_false] at hq
        obtain ⟨g1, g2, g3, g4, g5⟩ := P.blk q b' hq
        exact ⟨g1, g2, g3, by omega, fun i hi => ⟨(kc _ _ g4 g3).trans (g5 i hi).1, (kf _ _ g4 g3).trans (g5 i hi).2⟩⟩
    · intro q q' e1 e2
      by_cases a1 : q = p
      · by_cases a2 : q' = p
        · omega
        · simp only [a1, a2, if_true, if_false] at e1
          have := (P.blk q' w.heap.size (by omega)).2.2.2.1
          omega
      · by_cases a2 : q' = p
        · simp only [a1, a2, if_true, if_false] at e1
          have := (P.blk q w.heap.size (by omega)).2.2.2.1
          omega
        · simp only [a1, a2, if_false] at e1 e2
          exact P.inj _ _ e1 e2
  refine ⟨_, _, P2, if_pos rfl, ?_⟩
  refine ⟨h.b1, h.b2, h.ne, by have := h.lt; omega, (kc _ _ h.lt (Ne.symm h.ne)).trans h.c0, (kc _ _ h.lt (Ne.symm h.ne)).trans h.c1, (kc _ _ h.lt (Ne.symm h.ne)).trans h.c2, (kc _ _ h.lt (Ne.symm h.ne)).trans h.c3, (kf _ _ h.lt (Ne.symm h.ne)).trans h.fz, _, _, P2⟩
end Go.Proofs.Ytiiimpcdhgegmaa.PA
/- memory: (*Memory).put. -/
namespace Go.Proofs.Ytiiimpcdhgegmaa.PA
open Go.RowKit Go.Proofs.YtiiimpcdhgegmaaW.PrintWords Go.Proofs.YtiiimpcdhgegmaaW.PrintLast Go.Proofs.YtiiimpcdhgegmaaW.PrintMore
attribute [local go_sem] max2_int min2_int max_two min_two max_three min_three max_four min_four   -- for this text's walks alone
set_option linter.unusedVariables false
set_option linter.unusedSimpArgs false
open Go.Maps (Keyed)
theorem zero64 (w : World) (i : Nat) (hi : i < 64) : (w.alloc (.cells #[.int .u8 0, .int .u8 0, .int .u8 0, .int .u8 0, .int .u8 0, .int .u8 0, .int .u8 0, .int .u8 0, .int .u8 0, .int .u8 0, .int .u8 0, .int .u8 0, .int .u8 0, .int .u8 0, .int .u8 0, .int .u8 0, .int .u8 0, .int .u8 0, .int .u8 0, .int .u8 0, .int .u8 0, .int .u8 0, .int .u8 0, .int .u8 0, .int .u8 0, .int .u8 0, .int .u8 0, .int .u8 0, .int .u8 0, .int .u8 0, .int .u8 0, .int .u8 0, .int .u8 0, .int .u8 0, .int .u8 0, .int .u8 0, .int .u8 0, .int .u8 0, .int .u8 0, .int .u8 0, .int .u8 0, .int .u8 0, .int .u8 0, .int .u8 0, .int .u8 0, .int .u8 0, .int .u8 0, .int .u8 0, .int .u8 0, .int .u8 0, .int .u8 0, .int .u8 0, .int .u8 0, .int .u8 0, .int .u8 0, .int .u8 0, .int .u8 0, .int .u8 0, .int .u8 0, .int .u8 0, .int .u8 0, .int .u8 0, .int .u8 0, .int .u8 0] 65)).cell? ⟨w.heap.size, i, none⟩ = some (.int .u8 0) ∧ (w.alloc (.cells #[.int .u8 0, .int .u8 0, .int .u8 0, .int .u8 0, .int .u8 0, .int .u8 0, .int .u8 0, .int .u8 0, .int .u8 0, .int .u8 0, .int .u8 0, .int .u8 0, .int .u8 0, .int .u8 0, .int .u8 0, .int .u8 0, .int .u8 0, .int .u8 0, .int .u8 0, .int .u8 0, .int .u8 0, .int .u8 0, .int .u8 0, .int .u8 0, .int .u8 0, .int .u8 0, .int .u8 0, .int .u8 0, .int .u8 0, .int .u8 0, .int .u8 0, .int .u8 0, .int .u8 0, .int .u8 0, .int .u8 0, .int .u8 0, .int .u8 0, .int .u8 0, .int .u8 0, .int .u8 0, .int .u8 0, .int .u8 0, .int .u8 0, .int .u8 0, .int .u8 0, .int .u8 0, .int .u8 0, .int .u8 0, .int .u8 0, .int .u8 0, .int .u8 0, .int .u8 0, .int .u8 0, .int .u8 0, .int .u8 0, .int .u8 0, .int .u8 0, .int .u8 0, .int .u8 0, .int .u8 0, .int .u8 0, .int .u8 0, .int .u8 0, .int .u8 0] 65)).frozen? ⟨w.heap.size, i, none⟩ = false := by
  show (w.alloc (.cells (Array.replicate 64 (.int .u8 0)) 65)).cell? ⟨w.heap.size, i, none⟩ = some (.int .u8 0) ∧ (w.alloc (.cells (Array.replicate 64 (.int .u8 0)) 65)).frozen? ⟨w.heap.size, i, none⟩ = false
  have e : ∀ o : Obj, (w.alloc o).heap[w.heap.size]? = some o := fun o => by show (w.heap.push o)[w.heap.size]? = _; simp
  constructor
  · unfold World.cell?
    rw [e]
    simp [Array.getElem?_replicate, hi]
  · unfold World.frozen?
    rw [e]
    simp
set_option maxHeartbeats 8000000 in
set_option maxRecDepth 100000 in
theorem memPut (at' : Nat) (x : Int) (w : World) {M : Nat → Prop} {G B n : Nat} {pg mx : Int} {hs : Bool} {f : Nat → Int} (h : Mem w M G B n pg mx hs f) (hM : ∀ k, w.heap.size ≤ k → M k) (ha : at' < 18446744073709551616) (hn : n < 4294967296) :
    Calls Try.prog 17 #[.pointer (some ⟨G, 0, none⟩), .int .u64 (at' : Int), .int .u8 x] w fun e w' => e = .returned (.tuple #[]) ∧ Off M w w' ∧ Mem w' M G B (n + 1) pg mx hs (upd f at' x) := by
  have hu1 := Try.underlying52
  have hu2 := Try.underlying65
  have c3 := h.c3
  have hGl := h.lt
  have hGB := h.ne
  obtain ⟨D, c, P, hl⟩ := h.look (at' / 64) (by omega)
  have e64 : 64 * (at' / 64) + at' % 64 = at' := Nat.div_add_mod at' 64
  have hmod : at' % 64 < 64 := Nat.mod_lt _ (by decide)
  rcases hl with ⟨hc, hrun⟩ | ⟨b, hc, hrun⟩
  · have hkey : keyOf Try.prog 25 (.int .u64 ((at' : Int) / 64)) = some (.int .u64 ((at' / 64 : Nat) : Int)) := keyMem (p := at' / 64) (by omega)
    have hown := P.own
    have hn' : n < maxLen := by unfold maxLen; omega
    go_enter Try.func17, Try.ntmps17
    go_wp2_with (first | (at_lookup; refine wpList_look _ rfl _ _ 50 rfl B _ _ rfl rfl hrun ?_) | (at_mapUpdate; refine wpList_mapUpdate_own _ rfl _ _ _ 50 rfl 25 63 kMem Try.underlying50 pR B n D rfl (hown.alloc _) hn' _ _ _ rfl rfl hkey (.lit (.int .i64 ((w.heap.size + 1 : Nat) : Int))) [] rfl ?_; intro w2 hown2 hgrow2; obtain ⟨D2, c2, P2, hc2, M2⟩ := h.new hM P hc _ (zero64 w) hown2 hgrow2; have o2 : Off M w w2 := (Off.alloc w _).trans (Off.grown hgrow2 h.b2); obtain ⟨g1, g2, g3, g4, g5⟩ := P2.blk _ _ hc2; obtain ⟨q1, q2⟩ := g5 (at' % 64) hmod; clear hown2 hgrow2))
    refine bodyPost_end (results_none rfl _ _ _) rfl ?_
    have := M2.set P2 hc2 hmod x
    rw [e64] at this
    exact ⟨rfl, o2.trans (Off.setCell _ g1 _), this⟩
  · obtain ⟨g1, g2, g3, g4, g5⟩ := P.blk _ b hc
    have q := g5 (at' % 64) hmod
    obtain ⟨q1, q2⟩ := q
    go_enter Try.func17, Try.ntmps17
    go_wp2_with (first | (at_lookup; refine wpList_look _ rfl _ _ 50 rfl B _ _ rfl rfl hrun ?_))
    refine bodyPost_end (results_none rfl _ _ _) rfl ?_
    have := h.set P hc hmod x
    rw [e64] at this
    obtain ⟨D', c', P'⟩ := this.pgs
    refine ⟨rfl, Off.setCell _ g1 _, this.b1, this.b2, this.ne, this.lt, this.c0, this.c1, this.c2, this.c3, this.fz, D', c', P'.own.mono (Nat.le_succ _), P'.at_, P'.zero, P'.blk, P'.inj⟩
end Go.Proofs.Ytiiimpcdhgegmaa.PA
/- memory: what it answers of itself. -/
namespace Go.Proofs.Ytiiimpcdhgegmaa.PA
open Go.RowKit Go.Proofs.YtiiimpcdhgegmaaW.PrintWords Go.Proofs.YtiiimpcdhgegmaaW.PrintLast Go.Proofs.YtiiimpcdhgegmaaW.PrintMore
attribute [local go_sem] max2_int min2_int max_two min_two max_three min_three max_four min_four   -- for this text's walks alone
set_option linter.unusedVariables false
set_option linter.unusedSimpArgs false
def IsM (w : World) (v : Value) (b : Bool) (pg : Int) : Prop :=
  (b = false ∧ pg = 0 ∧ v = .pointer none) ∨ (b = false ∧ pg = 0 ∧ ∃ G, v = .pointer (some ⟨G, 0, none⟩) ∧ w.cell? ⟨G, 3, none⟩ = some (.map none)) ∨
    (b = true ∧ ∃ G B, v = .pointer (some ⟨G, 0, none⟩) ∧ w.cell? ⟨G, 3, none⟩ = some (.map (some B)) ∧ w.cell? ⟨G, 0, none⟩ = some (.int .u32 pg))
theorem Mem.is {w : World} {M : Nat → Prop} {G B n : Nat} {pg mx : Int} {hs : Bool} {f : Nat → Int} (h : Mem w M G B n pg mx hs f) : IsM w (.pointer (some ⟨G, 0, none⟩)) true pg := .inr (.inr ⟨rfl, G, B, rfl, h.c3, h.c0⟩)
theorem IsM.below {w w' : World} {v : Value} {b : Bool} {pg : Int} (h : IsM w v b pg) (hb : Below w.heap.size w w') : IsM w' v b pg := by
  have k := Nr.bcell hb
  rcases h with h | ⟨h1, h2, G, h3, h4⟩ | ⟨h1, G, B, h2, h3, h4⟩
  · exact .inl h
  · exact .inr (.inl ⟨h1, h2, G, h3, (k.1 _ _ (World.block_lt_of_cell? w _ h4)).trans h4⟩)
  · exact .inr (.inr ⟨h1, G, B, h2, (k.1 _ _ (World.block_lt_of_cell? w _ h3)).trans h3, (k.1 _ _ (World.block_lt_of_cell? w _ h3)).trans h4⟩)
theorem IsM.f {w : World} {v : Value} {pg : Int} (h : IsM w v false pg) : pg = 0 := by
  rcases h with ⟨_, h, _⟩ | ⟨_, h, _⟩ | ⟨h, _⟩
  · exact h
  · exact h
  · cases h
theorem IsM.t {w : World} {v : Value} {pg : Int} (h : IsM w v true pg) : ∃ G B, v = .pointer (some ⟨G, 0, none⟩) ∧ w.cell? ⟨G, 3, none⟩ = some (.map (some B)) ∧ w.cell? ⟨G, 0, none⟩ = some (.int .u32 pg) := by
  rcases h with ⟨h, _⟩ | ⟨h, _⟩ | ⟨_, h⟩
  · cases h
  · cases h
  · exact h
set_option maxHeartbeats 4000000 in
theorem memIs (v : Value) (b : Bool) (pg : Int) (w : World) (h : IsM w v b pg) : Calls Try.prog 20 #[v] w fun e w' => e = .returned (.bool b) ∧ w' = w := by
  have hu1 := Try.underlying52
  have hu2 := Try.underlying50
  rcases h with ⟨rfl, rfl, rfl⟩ | ⟨rfl, rfl, G, rfl, h4⟩ | ⟨rfl, G, B, rfl, h3, h4⟩
  · go_enter Try.func20, Try.ntmps20
    go_wp2
    go_ret
    exact ⟨rfl, rfl⟩
  · go_enter Try.func20, Try.ntmps20
    have e : (Go.binOp BinOp.neq 50 (.map none) (.map none)).run Try.prog w = .ok (.bool false) w := by kernel_rfl
    go_wp2
    go_ret
    exact ⟨rfl, rfl⟩
  · go_enter Try.func20, Try.ntmps20
    have e : (Go.binOp BinOp.neq 50 (.map (some B)) (.map none)).run Try.prog w = .ok (.bool true) w := by kernel_rfl
    go_wp2
    go_ret
    exact ⟨rfl, rfl⟩
set_option maxHeartbeats 4000000 in
theorem memPages (v : Value) (b : Bool) (pg : Int) (w : World) (h : IsM w v b pg) : Calls Try.prog 13 #[v] w fun e w' => e = .returned (.int .u32 pg) ∧ w' = w := by
  have hu1 := Try.underlying52
  have hu2 := Try.underlying35
  have H := Aside0.mk h
  cases b with
  | false =>
    obtain rfl := h.f
    clear h
    go_enter Try.func13, Try.ntmps13
    go_wp2_with (first | (go_at_call 20; with_reducible refine (memIs v false 0 _ H.out).mono ?_; rintro e w1 ⟨rfl, rfl⟩))
    go_ret
    exact ⟨rfl, rfl⟩
  | true =>
    obtain ⟨G, B, rfl, h3, h4⟩ := h.t
    clear h
    go_enter Try.func13, Try.ntmps13
    go_wp2_with (first | (go_at_call 20; with_reducible refine (memIs (.pointer (some ⟨G, 0, none⟩)) true pg _ H.out).mono ?_; rintro e w1 ⟨rfl, rfl⟩))
    go_ret
    exact ⟨rfl, rfl⟩
def hld (b : Bool) (pg at' n : Int) : Bool := b && (decide (0 ≤ n) && (decide (n ≤ pg * 65536) && decide (at' ≤ pg * 65536 - n)))
set_option maxHeartbeats 4000000 in
theorem memHolds (v : Value) (b : Bool) (pg at' n : Int) (w : World) (h : IsM w v b pg) (p0 : 0 ≤ pg) (p1 : pg < 4294967296) (a0 : 0 ≤ at') (a1 : at' < 18446744073709551616) (n0 : -9223372036854775808 ≤ n) (n1 : n < 9223372036854775808) :
    Calls Try.prog 11 #[v, .int .u64 at', .int .i64 n] w fun e w' => e = .returned (.bool (hld b pg at' n)) ∧ w' = w := by
  have H := Aside0.mk h
  clear h
  have e1 : IntKind.u64.wrap (pg * 65536) = pg * 65536 := by simp [IntKind.wrap, IntKind.signed, IntKind.bits]; omega
  go_enter Try.func11, Try.ntmps11
  go_wp2_with (first | (go_at_call 13; with_reducible refine (memPages v b pg _ H.out).mono ?_; rintro e w1 ⟨rfl, rfl⟩) | (go_at_call 20; with_reducible refine (memIs v b pg _ H.out).mono ?_; rintro e w1 ⟨rfl, rfl⟩))
  all_goals go_ret
  all_goals (refine ⟨?_, rfl⟩; simp_all [hld]; try omega)
def acB (n : Int) : Bool := n == 1 || n == 2 || n == 4 || n == 8
def plc (bs of n : Int) : Int := if acB n = true then bs + of else 0
set_option maxHeartbeats 8000000 in
theorem memPlace (v : Value) (b : Bool) (pg bs of n : Int) (ty : Int) (sg st : Bool) (w : World) (h : IsM w v b pg) (p0 : 0 ≤ pg) (p1 : pg < 4294967296) (a0 : 0 ≤ bs) (a1 : bs < 4294967296) (b0 : 0 ≤ of) (b1 : of < 4294967296) (n0 : -9223372036854775808 ≤ n) (n1 : n < 9223372036854775808) :
    Calls Try.prog 19 #[v, .int .u32 bs, .int .u32 of, .agg #[.int .u8 ty, .int .i64 n, .bool sg, .bool st]] w fun e w' => e = .returned (.tuple #[.int .u64 (plc bs of n), .bool (acB n && hld b pg (bs + of) n)]) ∧ Below w.heap.size w w' := by
  have hu2 := Try.underlying24
  have H := Aside0.mk h
  clear h
  by_cases c1 : n = 1
  · subst c1
    go_enter Try.func19, Try.ntmps19
    go_wp2_with (first | (go_at_call 11; with_reducible refine (memHolds v b pg (bs + of) 1 _ (H.out.below (below_alloc (Below.refl _ _) _)) p0 p1 (by omega) (by omega) (by decide) (by decide)).mono ?_; rintro e w1 ⟨rfl, rfl⟩))
    go_ret2
    exact ⟨rfl, below_alloc (Below.refl _ _) _⟩
  by_cases c2 : n = 2
  · subst c2
    clear c1
    go_enter Try.func19, Try.ntmps19
    go_wp2_with (first | (go_at_call 11; with_reducible refine (memHolds v b pg (bs + of) 2 _ (H.out.below (below_alloc (Below.refl _ _) _)) p0 p1 (by omega) (by omega) (by decide) (by decide)).mono ?_; rintro e w1 ⟨rfl, rfl⟩))
    go_ret2
    exact ⟨rfl, below_alloc (Below.refl _ _) _⟩
  by_cases c4 : n = 4
  · subst c4
    clear c1 c2
    go_enter Try.func19, Try.ntmps19
    go_wp2_with (first | (go_at_call 11; with_reducible refine (memHolds v b pg (bs + of) 4 _ (H.out.below (below_alloc (Below.refl _ _) _)) p0 p1 (by omega) (by omega) (by decide) (by decide)).mono ?_; rintro e w1 ⟨rfl, rfl⟩))
    go_ret2
    exact ⟨rfl, below_alloc (Below.refl _ _) _⟩
  by_cases c8 : n = 8
  · subst c8
    clear c1 c2 c4
    go_enter Try.func19, Try.ntmps19
    go_wp2_with (first | (go_at_call 11; with_reducible refine (memHolds v b pg (bs + of) 8 _ (H.out.below (below_alloc (Below.refl _ _) _)) p0 p1 (by omega) (by omega) (by decide) (by decide)).mono ?_; rintro e w1 ⟨rfl, rfl⟩))
    go_ret2
    exact ⟨rfl, below_alloc (Below.refl _ _) _⟩
  have d1 : (n == 1) = false := beq_eq_false_iff_ne.mpr c1
  have d2 : (n == 2) = false := beq_eq_false_iff_ne.mpr c2
  have d4 : (n == 4) = false := beq_eq_false_iff_ne.mpr c4
  have d8 : (n == 8) = false := beq_eq_false_iff_ne.mpr c8
  have hac : acB n = false := by simp [acB, c1, c2, c4, c8]
  have hpl : plc bs of n = 0 := by simp [plc, hac]
  rw [hac, hpl, Bool.false_and]
  clear hac hpl
  go_enter Try.func19, Try.ntmps19
  go_wp2
  go_ret2
  exact ⟨rfl, below_alloc (Below.refl _ _) _⟩
end Go.Proofs.Ytiiimpcdhgegmaa.PA
/- memory: New, Grow. -/
namespace Go.Proofs.Ytiiimpcdhgegmaa.PA
open Go.RowKit Go.Proofs.YtiiimpcdhgegmaaW.PrintWords Go.Proofs.YtiiimpcdhgegmaaW.PrintLast Go.Proofs.YtiiimpcdhgegmaaW.PrintMore
attribute [local go_sem] max2_int min2_int max_two min_two max_three min_three max_four min_four   -- for this text's walks alone
set_option linter.unusedVariables false
set_option linter.unusedSimpArgs false
theorem Mem.made (W : World) (M : Nat → Prop) (hM : ∀ k, W.heap.size ≤ k → M k) (mn mx : Int) (hs : Bool) :
    Mem ((W.alloc (.map #[] 0)).alloc (.cells #[.int .u32 mn, .int .u32 mx, .bool hs, .map (some W.heap.size)] 52)) M (W.heap.size + 1) W.heap.size 0 mn mx hs (fun _ => 0) := by
  have hz : (W.alloc (.map #[] 0)).heap.size = W.heap.size + 1 := by simp
  have e : ∀ (V : World) (o : Obj), (V.alloc o).heap[V.heap.size]? = some o := fun V o => by show (V.heap.push o)[V.heap.size]? = _; simp
  have e2 := fun o : Obj => e (W.alloc (.map #[] 0)) o
  simp only [hz] at e2
  have own := (World.ownsMap_made W Try.prog 25 pR).alloc (.cells #[.int .u32 mn, .int .u32 mx, .bool hs, .map (some W.heap.size)] 52)
  refine ⟨hM _ (by omega), hM _ (by omega), by omega, by simp, ?_, ?_, ?_, ?_, ?_, .map [], fun _ => 0, own, fun p hp => rfl, fun _ _ _ _ => rfl, fun p b h => by omega, fun p p' _ h => absurd rfl h⟩
  · unfold World.cell?; rw [e2]; rfl
  · unfold World.cell?; rw [e2]; rfl
  · unfold World.cell?; rw [e2]; rfl
  · unfold World.cell?; rw [e2]; rfl
  · unfold World.frozen?; rw [e2]; rfl
theorem memMade (w : World) (o : Obj) (mn mx : Int) (hs : Bool) :
    Mem (((w.alloc o).alloc (.map #[] 0)).alloc (.cells #[.int .u32 mn, .int .u32 mx, .bool hs, .map (some (w.heap.size + 1))] 52)) (fun k => w.heap.size ≤ k) (w.heap.size + 1 + 1) (w.heap.size + 1) 0 mn mx hs (fun _ => 0) := by
  have hz : (w.alloc o).heap.size = w.heap.size + 1 := by simp
  have := Mem.made (w.alloc o) (fun k => w.heap.size ≤ k) (fun k h => by omega) mn mx hs
  rw [hz] at this
  exact this
def newE (mn mx : Int) (hs : Bool) : Int := if 65536 < mn ∨ (hs = true ∧ (65536 < mx ∨ mx < mn)) then 212 else if 16 < mn then 3 else 0
set_option maxHeartbeats 8000000 in
theorem memNew (mn mx : Int) (hs : Bool) (w : World) (a0 : 0 ≤ mn) (a1 : mn < 4294967296) (b0 : 0 ≤ mx) (b1 : mx < 4294967296) :
    Calls Try.prog 7 #[.agg #[.int .u32 mn, .int .u32 mx, .bool hs]] w fun e w' => Below w.heap.size w w' ∧
      ((newE mn mx hs ≠ 0 ∧ e = .returned (.tuple #[.pointer none, .int .i64 (newE mn mx hs)])) ∨ (newE mn mx hs = 0 ∧ ∃ G B, e = .returned (.tuple #[.pointer (some ⟨G, 0, none⟩), .int .i64 0]) ∧ Mem w' (fun k => w.heap.size ≤ k) G B 0 mn mx hs (fun _ => 0))) := by
  have hu2 := Try.underlying35
  have hu3 := Try.underlying52
  have hu4 := Try.underlying50
  have emk : ∀ v : World, (Instr.makeMap 50 none).run Try.prog v = .ok (.map (some v.heap.size)) (v.alloc (.map #[] 0)) := fun v => by kernel_rfl
  by_cases q1 : 65536 < mn ∨ (hs = true ∧ (65536 < mx ∨ mx < mn))
  · have en : newE mn mx hs = 212 := if_pos q1
    rw [en]
    have Q := Aside0.mk q1
    clear en q1
    cases hs
    all_goals go_enter Try.func7, Try.ntmps7
    all_goals go_wp2
    all_goals first
      | (go_ret2; exact ⟨below_alloc (Below.refl _ _) _, rfl⟩) | (go_ret2; exact ⟨below_alloc (Below.refl _ _) _, .inl ⟨by decide, rfl⟩⟩)
      | (exfalso; have q := Q.out; simp_all; done)
      | (exfalso; have q := Q.out; simp_all; omega)
  · by_cases q2 : 16 < mn
    · have en : newE mn mx hs = 3 := (if_neg q1).trans (if_pos q2)
      rw [en]
      have Q := Aside0.mk q1
      clear en q1
      cases hs
      all_goals go_enter Try.func7, Try.ntmps7
      all_goals go_wp2
      all_goals first
        | (go_ret2; exact ⟨below_alloc (Below.refl _ _) _, rfl⟩) | (go_ret2; exact ⟨below_alloc (Below.refl _ _) _, .inl ⟨by decide, rfl⟩⟩)
        | (exfalso; have q := Q.out; simp_all; done)
        | (exfalso; have q := Q.out; simp_all; omega)
    · have en : newE mn mx hs = 0 := (if_neg q1).trans (if_neg q2)
      rw [en]
      have Q := Aside0.mk q1
      clear en q1
      cases hs
      all_goals go_enter Try.func7, Try.ntmps7
      all_goals go_wp2
      all_goals first
        | (go_ret2; exact ⟨below_alloc (below_alloc (below_alloc (Below.refl _ _) _) _) _, _, rfl, _, memMade w _ mn mx _⟩)
        | (exfalso; have q := Q.out; simp_all; done)
        | (exfalso; have q := Q.out; simp_all; omega)
set_option maxHeartbeats 8000000 in
theorem memGrowNo (v : Value) (pg : Int) (by' : Int) (may : Bool) (b : Bool) (w : World) (h : IsM w v b pg) (hb : (b && may) = false) :
    Calls Try.prog 14 #[v, .int .u32 by', .bool may] w fun e w' => e = .returned (.int .u32 4294967295) ∧ w' = w := by
  have hu2 := Try.underlying35
  have hu3 := Try.underlying52
  have H := Aside0.mk h
  clear h
  cases b with
  | false =>
    go_enter Try.func14, Try.ntmps14
    go_wp2_with (first | (go_at_call 20; with_reducible refine (memIs v false pg _ H.out).mono ?_; rintro e w1 ⟨rfl, rfl⟩))
    all_goals go_ret
    all_goals exact ⟨rfl, rfl⟩
  | true =>
    cases may with
    | true => cases hb
    | false =>
      go_enter Try.func14, Try.ntmps14
      go_wp2_with (first | (go_at_call 20; with_reducible refine (memIs v true pg _ H.out).mono ?_; rintro e w1 ⟨rfl, rfl⟩))
      all_goals go_ret
      all_goals exact ⟨rfl, rfl⟩
end Go.Proofs.Ytiiimpcdhgegmaa.PA
/- memory: Grow. -/
namespace Go.Proofs.Ytiiimpcdhgegmaa.PA
open Go.RowKit Go.Proofs.YtiiimpcdhgegmaaW.PrintWords Go.Proofs.YtiiimpcdhgegmaaW.PrintLast Go.Proofs.YtiiimpcdhgegmaaW.PrintMore
attribute [local go_sem] max2_int min2_int max_two min_two max_three min_three max_four min_four   -- for this text's walks alone
set_option linter.unusedVariables false
set_option linter.unusedSimpArgs false
theorem Mem.grow {w : World} {M : Nat → Prop} {G B n : Nat} {pg mx : Int} {hs : Bool} {f : Nat → Int} (h : Mem w M G B n pg mx hs f) (pg' : Int) : Mem (w.setCell ⟨G, 0, none⟩ (.int .u32 pg')) M G B n pg' mx hs f := by
  obtain ⟨D, c, P⟩ := h.pgs
  have hg : w.grownBy (w.setCell ⟨G, 0, none⟩ (.int .u32 pg')) (some G) := ⟨rfl, rfl, rfl, by simp [World.setCell], fun k hk q => Below.heap_setCell _ _ _ _ (fun e => q (by rw [e]))⟩
  have kc : ∀ b' o, b' < w.heap.size → b' ≠ G → (w.setCell ⟨G, 0, none⟩ (.int .u32 pg')).cell? ⟨b', o, none⟩ = w.cell? ⟨b', o, none⟩ := fun b' o hl hm => World.cell?_of_block (w := w) (hg.block b' hl (fun e => hm (by injection e)))
  have kf : ∀ b' o, b' < w.heap.size → b' ≠ G → (w.setCell ⟨G, 0, none⟩ (.int .u32 pg')).frozen? ⟨b', o, none⟩ = w.frozen? ⟨b', o, none⟩ := fun b' o hl hm => World.frozen?_of_block (w := w) (hg.block b' hl (fun e => hm (by injection e)))
  refine ⟨h.b1, h.b2, h.ne, Nat.lt_of_lt_of_le h.lt hg.size, World.cell?_setCell_same _ _ _ h.c0, ?_, ?_, ?_, (World.frozen?_setCell _ _ _ _).trans h.fz, D, c, P.own.kept hg (by simpa using h.ne), P.at_, P.zero, ?_, P.inj⟩
  · exact (World.cell?_setCell_other _ _ _ _ (by intro e; cases e)).trans h.c1
  · exact (World.cell?_setCell_other _ _ _ _ (by intro e; cases e)).trans h.c2
  · exact (World.cell?_setCell_other _ _ _ _ (by intro e; cases e)).trans h.c3
  · intro p b hc
    obtain ⟨g1, g2, g3, g4, g5⟩ := P.blk p b hc
    exact ⟨g1, g2, g3, Nat.lt_of_lt_of_le g4 hg.size, fun i hi => ⟨(kc _ _ g4 g2).trans (g5 i hi).1, (kf _ _ g4 g2).trans (g5 i hi).2⟩⟩
def mostP (mx : Int) (hs : Bool) : Int := if hs = true then (if mx < 16 then mx else 16) else 16
set_option maxHeartbeats 8000000 in
theorem memGrow (by' : Int) (w : World) {M : Nat → Prop} {G B n : Nat} {pg mx : Int} {hs : Bool} {f : Nat → Int} (h : Mem w M G B n pg mx hs f) (p0 : 0 ≤ pg) (p1 : pg ≤ 16) (m0 : 0 ≤ mx) (m1 : mx < 4294967296) (y0 : 0 ≤ by') (y1 : by' < 4294967296) :
    Calls Try.prog 14 #[.pointer (some ⟨G, 0, none⟩), .int .u32 by', .bool true] w fun e w' =>
      ((mostP mx hs < by' ∨ mostP mx hs - by' < pg) ∧ e = .returned (.int .u32 4294967295) ∧ w' = w) ∨
      (¬ (mostP mx hs < by' ∨ mostP mx hs - by' < pg) ∧ e = .returned (.int .u32 pg) ∧ Off M w w' ∧ Mem w' M G B n (pg + by') mx hs f) := by
  have hu2 := Try.underlying35
  have hu3 := Try.underlying52
  have H := Aside0.mk h.is
  have HM := Aside0.mk h
  have c0 := h.c0
  have c1 := h.c1
  have c2 := h.c2
  have fz := h.fz
  clear h
  have hG : Off M w (w.setCell ⟨G, 0, none⟩ (.int .u32 (pg + by'))) := Off.setCell w HM.out.b1 _
  have HG := Aside0.mk hG
  clear hG
  cases hs with
  | false =>
    have em : mostP mx false = 16 := rfl
    rw [em]
    clear em
    go_enter Try.func14, Try.ntmps14
    go_wp2_with (first | (go_at_call 20; with_reducible refine (memIs (.pointer (some ⟨G, 0, none⟩)) true pg _ H.out).mono ?_; rintro e w1 ⟨rfl, rfl⟩))
    all_goals first
      | (go_ret; exact ⟨rfl, rfl⟩) | (go_ret; exact .inl ⟨by omega, rfl, rfl⟩)
      | (go_ret; exact .inr ⟨by omega, rfl, HG.out, HM.out.grow _⟩)
  | true =>
    by_cases q : mx < 16
    · have em : mostP mx true = mx := if_pos q
      rw [em]
      clear em
      have eq : min (16 : Int) mx = mx := by omega
      go_enter Try.func14, Try.ntmps14
      go_wp2_with (first | (go_at_call 20; with_reducible refine (memIs (.pointer (some ⟨G, 0, none⟩)) true pg _ H.out).mono ?_; rintro e w1 ⟨rfl, rfl⟩))
      all_goals first
        | (go_ret; exact ⟨rfl, rfl⟩) | (go_ret; exact .inl ⟨by omega, rfl, rfl⟩)
        | (go_ret; exact .inr ⟨by omega, rfl, HG.out, HM.out.grow _⟩)
    · have em : mostP mx true = 16 := if_neg q
      rw [em]
      clear em
      have eq : min (16 : Int) mx = 16 := by omega
      go_enter Try.func14, Try.ntmps14
      go_wp2_with (first | (go_at_call 20; with_reducible refine (memIs (.pointer (some ⟨G, 0, none⟩)) true pg _ H.out).mono ?_; rintro e w1 ⟨rfl, rfl⟩))
      all_goals first
        | (go_ret; exact ⟨rfl, rfl⟩) | (go_ret; exact .inl ⟨by omega, rfl, rfl⟩)
        | (go_ret; exact .inr ⟨by omega, rfl, HG.out, HM.out.grow _⟩)
end Go.Proofs.Ytiiimpcdhgegmaa.PA
/- memory: Store. -/
namespace Go.Proofs.Ytiiimpcdhgegmaa.PA
open Go.RowKit Go.Proofs.YtiiimpcdhgegmaaW.PrintWords Go.Proofs.YtiiimpcdhgegmaaW.PrintLast Go.Proofs.YtiiimpcdhgegmaaW.PrintMore
attribute [local go_sem] max2_int min2_int max_two min_two max_three min_three max_four min_four   -- for this text's walks alone
set_option linter.unusedVariables false
set_option linter.unusedSimpArgs false
theorem Off.ofBelow {M : Nat → Prop} {w w' : World} (h : Below w.heap.size w w') : Off M w w' := ⟨h.os, h.tape, h.output, h.size, fun k hk _ => h.block k hk⟩
def wrt (g : Nat → Int) (a i : Nat) (f : Nat → Int) (j : Nat) : Int := if a ≤ j ∧ j < a + i then g (j - a) else f j
theorem wrt_zero (g : Nat → Int) (a : Nat) (f : Nat → Int) (j : Nat) : wrt g a 0 f j = f j := if_neg (by omega)
theorem wrt_succ (g : Nat → Int) (a i : Nat) (f : Nat → Int) (j : Nat) : upd (wrt g a i f) (a + i) (g i) j = wrt g a (i + 1) f j := by
  unfold upd wrt
  by_cases e : j = a + i
  · subst e
    rw [if_pos rfl, if_pos (by omega)]
    congr 1; omega
  · rw [if_neg e]
    by_cases q : a ≤ j ∧ j < a + i
    · rw [if_pos q, if_pos (by omega)]
    · rw [if_neg q, if_neg (by omega)]
def byt (v : Int) (i : Nat) : Int := v / 2 ^ (8 * i) % 256
theorem memPut' (a x : Int) (w : World) {M : Nat → Prop} {G B n : Nat} {pg mx : Int} {hs : Bool} {f : Nat → Int} (h : Mem w M G B n pg mx hs f) (hM : ∀ k, w.heap.size ≤ k → M k) (a0 : 0 ≤ a) (ha : a < 18446744073709551616) (hn : n < 4294967296) :
    Calls Try.prog 17 #[.pointer (some ⟨G, 0, none⟩), .int .u64 a, .int .u8 x] w fun e w' => e = .returned (.tuple #[]) ∧ Off M w w' ∧ Mem w' M G B (n + 1) pg mx hs (upd f a.toNat x) := by
  obtain ⟨k, rfl⟩ := Int.eq_ofNat_of_zero_le a0
  exact memPut k x w h hM (by omega) hn
theorem memGet' (a : Int) (w : World) {M : Nat → Prop} {G B n : Nat} {pg mx : Int} {hs : Bool} {f : Nat → Int} (h : Mem w M G B n pg mx hs f) (a0 : 0 ≤ a) (ha : a < 18446744073709551616) :
    Calls Try.prog 18 #[.pointer (some ⟨G, 0, none⟩), .int .u64 a] w fun e w' => e = .returned (.int .u8 (f a.toNat)) ∧ w' = w := by
  obtain ⟨k, rfl⟩ := Int.eq_ofNat_of_zero_le a0
  exact memGet k w h (by omega)
set_option maxHeartbeats 8000000 in
theorem memStoreNo (v : Value) (b : Bool) (pg bs of n : Int) (ty : Int) (sg st : Bool) (x : Int) (w : World) (h : IsM w v b pg) (p0 : 0 ≤ pg) (p1 : pg < 4294967296) (a0 : 0 ≤ bs) (a1 : bs < 4294967296) (b0 : 0 ≤ of) (b1 : of < 4294967296) (n0 : -9223372036854775808 ≤ n) (n1 : n < 9223372036854775808)
    (hn : (acB n && hld b pg (bs + of) n) = false) :
    Calls Try.prog 10 #[v, .int .u32 bs, .int .u32 of, .agg #[.int .u8 ty, .int .i64 n, .bool sg, .bool st], .int .u64 x] w fun e w' => e = .returned (.int .i64 5) ∧ Below w.heap.size w w' := by
  have hu2 := Try.underlying24
  have H := Aside0.mk h
  clear h
  have BL := Aside0.mk (Below.refl w.heap.size w)
  go_enter Try.func10, Try.ntmps10
  go_wp2_with (first | (go_at_call 19; with_reducible refine (memPlace v b pg bs of n ty sg st _ (H.out.below (below_alloc (Below.refl _ _) _)) p0 p1 a0 a1 b0 b1 n0 n1).mono ?_; rintro e w1 ⟨rfl, hb⟩; replace BL := Aside0.mk (below_step (below_alloc (Below.refl _ _) _ : Below w.heap.size w _) hb); clear hb; rw [hn]))
  all_goals go_ret
  all_goals exact ⟨rfl, BL.out⟩
set_option maxHeartbeats 8000000 in
set_option maxRecDepth 100000 in
theorem memStore (bs of : Int) (N : Nat) (ty : Int) (sg st : Bool) (x : Int) (w : World) {M : Nat → Prop} {G B m : Nat} {pg mx : Int} {hs : Bool} {f : Nat → Int} (h : Mem w M G B m pg mx hs f) (hM : ∀ k, w.heap.size ≤ k → M k) (hm : m + 8 < 4294967296)
    (p0 : 0 ≤ pg) (p1 : pg < 4294967296) (a0 : 0 ≤ bs) (a1 : bs < 4294967296) (b0 : 0 ≤ of) (b1 : of < 4294967296) (hN : N ≤ 8) (x0 : 0 ≤ x) (x1 : x < 18446744073709551616)
    (hn : (acB N && hld true pg (bs + of) N) = true) :
    Calls Try.prog 10 #[.pointer (some ⟨G, 0, none⟩), .int .u32 bs, .int .u32 of, .agg #[.int .u8 ty, .int .i64 (N : Int), .bool sg, .bool st], .int .u64 x] w fun e w' => e = .returned (.int .i64 0) ∧ Off M w w' ∧ Mem w' M G B (m + N) pg mx hs (wrt (byt x) (bs + of).toNat N f) := by
  have hu2 := Try.underlying24
  have H := Aside0.mk h.is
  have HM := Aside0.mk h
  have hpl : plc bs of (N : Int) = bs + of := by rw [Bool.and_eq_true] at hn; exact if_pos hn.1
  clear h
  go_enter Try.func10, Try.ntmps10
  go_wp2_with (first | (go_at_call 19; with_reducible refine (memPlace (.pointer (some ⟨G, 0, none⟩)) true pg bs of (N : Int) ty sg st _ (H.out.below (below_alloc (Below.refl _ _) _)) p0 p1 a0 a1 b0 b1 (by omega) (by omega)).mono ?_; rintro e w1 ⟨rfl, hb⟩; have cb : w1.cell? ⟨w.heap.size, 1, none⟩ = some (.int .i64 (N : Int)) := ((Nr.bcell hb).1 w.heap.size 1 (by simp)).trans (by simp [go_sem]); have BL := Aside0.mk (below_step (below_alloc (Below.refl _ _) _ : Below w.heap.size w _) hb); clear hb; rw [hn, hpl]))
  have HH := Aside0.mk (show Off M w w1 ∧ Mem w1 M G B (m + 0) pg mx hs (wrt (byt x) (bs + of).toNat 0 f) from ⟨Off.ofBelow BL.out, (HM.out.off BL.out.size (fun k hk _ => BL.out.block k hk)).congr (fun j => (wrt_zero _ _ _ j).symm)⟩)
  clear HM H BL cb hn hpl
  go_loopg [26] N (fun k v26 w' => ∃ i : Nat, v26 = .int .i64 (i : Int) ∧ Aside0 (k + i = N) ∧ Aside0 (Off M w w' ∧ Mem w' M G B (m + i) pg mx hs (wrt (byt x) (bs + of).toNat i f)))
  case atStart => exact ⟨0, rfl, ⟨rfl⟩, HH⟩
  case round =>
    clear HH
    obtain ⟨i, rfl, hk, HH⟩ := hrel
    have hk' := hk.out
    obtain _ | kr := gk
    · have e : i = N := by omega
      subst e
      go_wp2
      go_ret
      exact ⟨rfl, HH.out⟩
    · have c : (i : Int) < (N : Int) := by omega
      have c8 : (i : Int) < 8 := by omega
      have i0 : 0 ≤ (i : Int) := by omega
      go_wp2_with (first | (go_at_call 17; with_reducible refine (memPut' (bs + of + i) _ _ HH.out.2 (fun k hk => hM k (Nat.le_trans HH.out.1.size hk)) (by omega) (by omega) (by omega)).mono ?_; rintro e w2 ⟨rfl, ho, hm2⟩))
      go_roundg kr
      case measure => omega
      case rel =>
        have et : (bs + of + (i : Int)).toNat = (bs + of).toNat + i := by omega
        rw [et] at hm2
        exact ⟨i + 1, rfl, ⟨by omega⟩, ⟨HH.out.1.trans ho, hm2.congr (fun j => wrt_succ (byt x) _ i f j)⟩⟩
end Go.Proofs.Ytiiimpcdhgegmaa.PA
/- memory: Load. -/
namespace Go.Proofs.Ytiiimpcdhgegmaa.PA
open Go.RowKit Go.Proofs.YtiiimpcdhgegmaaW.PrintWords Go.Proofs.YtiiimpcdhgegmaaW.PrintLast Go.Proofs.YtiiimpcdhgegmaaW.PrintMore
attribute [local go_sem] max2_int min2_int max_two min_two max_three min_three max_four min_four   -- for this text's walks alone
set_option linter.unusedVariables false
set_option linter.unusedSimpArgs false
def hv (f : Nat → Int) (a N : Nat) : Nat → Int
  | 0 => 0
  | k + 1 => hv f a N k * 256 + f (a + (N - 1 - k))
theorem hv_lo (f : Nat → Int) (a N : Nat) (hf : ∀ j, 0 ≤ f j ∧ f j < 256) : ∀ k, 0 ≤ hv f a N k
  | 0 => Int.le_refl _
  | k + 1 => by have := hv_lo f a N hf k; have := hf (a + (N - 1 - k)); unfold hv; omega
theorem hv_hi (f : Nat → Int) (a N : Nat) (hf : ∀ j, 0 ≤ f j ∧ f j < 256) (k : Nat) (hk : k < 8) : hv f a N k < 72057594037927936 := by
  have g : ∀ k, hv f a N k < 256 ^ k := fun k => by
    induction k with
    | zero => show (0 : Int) < 1; decide
    | succ k ih => have := hf (a + (N - 1 - k)); unfold hv; rw [Int.pow_succ]; omega
  have := g k
  have : (256 : Int) ^ k ≤ 72057594037927936 := by
    rcases (by omega : k = 0 ∨ k = 1 ∨ k = 2 ∨ k = 3 ∨ k = 4 ∨ k = 5 ∨ k = 6 ∨ k = 7) with h | h | h | h | h | h | h | h <;> subst h <;> decide
  omega
theorem or_byte (x b : Int) (x0 : 0 ≤ x) (x1 : x < 72057594037927936) (b0 : 0 ≤ b) (b1 : b < 256) : bits BinOp.or IntKind.u64 (x * 256) b = x * 256 + b := by
  obtain ⟨x, rfl⟩ := Int.eq_ofNat_of_zero_le x0
  obtain ⟨b, rfl⟩ := Int.eq_ofNat_of_zero_le b0
  have e : (x * 256 ||| b : Nat) = x * 256 + b := by
    rw [show (256 : Nat) = 2 ^ 8 from rfl, ← Nat.shiftLeft_eq, Nat.shiftLeft_add_eq_or_of_lt (by omega)]
  have e1 : ((x : Int) * 256) = ((x * 256 : Nat) : Int) := by omega
  rw [e1, u64_or_nat (x * 256) b (by omega) (by omega), e]
  omega
set_option maxHeartbeats 8000000 in
theorem memLoadNo (v : Value) (b : Bool) (pg bs of n : Int) (ty : Int) (sg st : Bool) (w : World) (h : IsM w v b pg) (p0 : 0 ≤ pg) (p1 : pg < 4294967296) (a0 : 0 ≤ bs) (a1 : bs < 4294967296) (b0 : 0 ≤ of) (b1 : of < 4294967296) (n0 : -9223372036854775808 ≤ n) (n1 : n < 9223372036854775808)
    (hn : (acB n && hld b pg (bs + of) n) = false) :
    Calls Try.prog 12 #[v, .int .u32 bs, .int .u32 of, .agg #[.int .u8 ty, .int .i64 n, .bool sg, .bool st]] w fun e w' => e = .returned (.tuple #[.int .u64 0, .int .i64 5]) ∧ Below w.heap.size w w' := by
  have hu2 := Try.underlying24
  have H := Aside0.mk h
  clear h
  have BL := Aside0.mk (Below.refl w.heap.size w)
  go_enter Try.func12, Try.ntmps12
  go_wp2_with (first | (go_at_call 19; with_reducible refine (memPlace v b pg bs of n ty sg st _ (H.out.below (below_alloc (Below.refl _ _) _)) p0 p1 a0 a1 b0 b1 n0 n1).mono ?_; rintro e w1 ⟨rfl, hb⟩; replace BL := Aside0.mk (below_step (below_alloc (Below.refl _ _) _ : Below w.heap.size w _) hb); clear hb; rw [hn]))
  all_goals go_ret2
  all_goals exact ⟨rfl, BL.out⟩
set_option maxHeartbeats 8000000 in
set_option maxRecDepth 100000 in
theorem memLoad (bs of : Int) (N : Nat) (ty : Int) (st : Bool) (w : World) {M : Nat → Prop} {G B m : Nat} {pg mx : Int} {hs : Bool} {f : Nat → Int} (h : Mem w M G B m pg mx hs f) (hf : ∀ j, 0 ≤ f j ∧ f j < 256)
    (p0 : 0 ≤ pg) (p1 : pg < 4294967296) (a0 : 0 ≤ bs) (a1 : bs < 4294967296) (b0 : 0 ≤ of) (b1 : of < 4294967296) (hN : N ≤ 8) (hn : (acB N && hld true pg (bs + of) N) = true) :
    Calls Try.prog 12 #[.pointer (some ⟨G, 0, none⟩), .int .u32 bs, .int .u32 of, .agg #[.int .u8 ty, .int .i64 (N : Int), .bool false, .bool st]] w fun e w' => e = .returned (.tuple #[.int .u64 (hv f (bs + of).toNat N N), .int .i64 0]) ∧ Below w.heap.size w w' := by
  have hu2 := Try.underlying24
  have H := Aside0.mk h.is
  have HM := Aside0.mk h
  have hpl : plc bs of (N : Int) = bs + of := by rw [Bool.and_eq_true] at hn; exact if_pos hn.1
  have HF := Aside0.mk hf
  clear h hf
  go_enter Try.func12, Try.ntmps12
  go_wp2_with (first | (go_at_call 19; with_reducible refine (memPlace (.pointer (some ⟨G, 0, none⟩)) true pg bs of (N : Int) ty false st _ (H.out.below (below_alloc (Below.refl _ _) _)) p0 p1 a0 a1 b0 b1 (by omega) (by omega)).mono ?_; rintro e w1 ⟨rfl, hb⟩; have cb : w1.cell? ⟨w.heap.size, 1, none⟩ = some (.int .i64 (N : Int)) := ((Nr.bcell hb).1 w.heap.size 1 (by simp)).trans (by simp [go_sem]); have cb2 : w1.cell? ⟨w.heap.size, 2, none⟩ = some (.bool false) := ((Nr.bcell hb).1 w.heap.size 2 (by simp)).trans (by simp [go_sem]); have BL := Aside0.mk (below_step (below_alloc (Below.refl _ _) _ : Below w.heap.size w _) hb); clear hb; rw [hn, hpl]))
  have HH := Aside0.mk (HM.out.off BL.out.size (fun k hk _ => BL.out.block k hk))
  clear HM H hn hpl
  go_loopg [12, 13] N (fun k v12 v13 w' => ∃ i : Nat, v12 = .int .u64 (hv f (bs + of).toNat N i) ∧ v13 = .int .i64 ((N : Int) - 1 - (i : Int)) ∧ Aside0 (k + i = N) ∧ w' = w1)
  case atStart => exact ⟨0, rfl, by simp, ⟨rfl⟩, rfl⟩
  case round =>
    obtain ⟨i, rfl, rfl, hk, rfl⟩ := hrel
    have hk' := hk.out
    obtain _ | kr := gk
    · have e : i = N := by omega
      subst e
      have c : ¬ (0 : Int) ≤ (i : Int) - 1 - (i : Int) := by omega
      go_wp2
      go_ret2
      exact ⟨rfl, BL.out⟩
    · have c : (0 : Int) ≤ (N : Int) - 1 - (i : Int) := by omega
      have c8 : (i : Int) < 8 := by omega
      have i0 : 0 ≤ (i : Int) := by omega
      have l0 := hv_lo f (bs + of).toNat N HF.out i
      have l1 := hv_hi f (bs + of).toNat N HF.out i (by omega)
      obtain ⟨q0, q1⟩ := HF.out (bs + of + ((N : Int) - 1 - (i : Int))).toNat
      go_wp2_with (first | (go_at_call 18; with_reducible refine (memGet' (bs + of + ((N : Int) - 1 - (i : Int))) _ HH.out (by omega) (by omega)).mono ?_; rintro e w2 ⟨rfl, rfl⟩))
      rw [or_byte _ _ l0 l1 q0 q1]
      go_roundg kr
      case measure => omega
      case rel =>
        have et : (bs + of + ((N : Int) - 1 - (i : Int))).toNat = (bs + of).toNat + (N - 1 - i) := by omega
        rw [et]
        exact ⟨i + 1, rfl, by congr 1; omega, ⟨by omega⟩, rfl⟩
end Go.Proofs.Ytiiimpcdhgegmaa.PA
/- memory: Write. -/
namespace Go.Proofs.Ytiiimpcdhgegmaa.PA
open Go.RowKit Go.Proofs.YtiiimpcdhgegmaaW.PrintWords Go.Proofs.YtiiimpcdhgegmaaW.PrintLast Go.Proofs.YtiiimpcdhgegmaaW.PrintMore
attribute [local go_sem] max2_int min2_int max_two min_two max_three min_three max_four min_four   -- for this text's walks alone
set_option linter.unusedVariables false
set_option linter.unusedSimpArgs false
theorem add_block' (x : Addr) (i : Nat) : (x.add i).block = x.block := by
  unfold Addr.add
  split <;> rfl
def Sl (w : World) (a : Option Addr) (l : List Int) : Prop := ∀ i, i < l.length → ∃ x, a = some x ∧ w.cell? (x.add i) = some (.int .u8 (l.getD i 0))
theorem Sl.kept {w w' : World} {a : Option Addr} {l : List Int} (h : Sl w a l) (hk : ∀ x, a = some x → w'.heap[x.block]? = w.heap[x.block]?) : Sl w' a l := fun i hi => by
  obtain ⟨x, e, hc⟩ := h i hi
  exact ⟨x, e, (World.cell?_of_block (w := w) (a := x.add i) (by rw [add_block']; exact hk x e)).trans hc⟩
theorem Sl.lt {w : World} {x : Addr} {l : List Int} (h : Sl w (some x) l) (hl : 0 < l.length) : x.block < w.heap.size := by
  obtain ⟨y, e, hc⟩ := h 0 hl
  obtain rfl := Option.some.inj e
  have := World.block_lt_of_cell? w (x.add 0) hc
  rw [add_block'] at this
  exact this
theorem Sl.off {w w' : World} {M : Nat → Prop} {a : Option Addr} {l : List Int} (h : Sl w a l) (ho : Off M w w') (hM : ∀ x, a = some x → ¬ M x.block) : Sl w' a l := fun i hi => by
  obtain ⟨x, e, hc⟩ := h i hi
  exact ⟨x, e, (World.cell?_of_block (w := w) (a := x.add i) (ho.block _ (World.block_lt_of_cell? w (x.add i) hc) (by rw [add_block']; exact hM x e))).trans hc⟩
theorem Sl.below {w w' : World} {a : Option Addr} {l : List Int} (h : Sl w a l) (hb : Below w.heap.size w w') : Sl w' a l := fun i hi => by
  obtain ⟨x, e, hc⟩ := h i hi
  exact ⟨x, e, (hb.cell (p := x.add i) (World.block_lt_of_cell? w (x.add i) hc)).trans hc⟩
set_option maxHeartbeats 8000000 in
theorem memWriteNo (v : Value) (b : Bool) (pg at' : Int) (a : Option Addr) (n cap : Nat) (w : World) (h : IsM w v b pg) (p0 : 0 ≤ pg) (p1 : pg < 4294967296) (a0 : 0 ≤ at') (a1 : at' < 4294967296) (n1 : n < 9223372036854775808)
    (hn : hld b pg at' n = false) :
    Calls Try.prog 8 #[v, .int .u32 at', .slice a n cap] w fun e w' => e = .returned (.bool false) ∧ w' = w := by
  have H := Aside0.mk h
  clear h
  go_enter Try.func8, Try.ntmps8
  go_wp2_with (first | (go_at_call 11; with_reducible refine (memHolds v b pg at' (n : Int) _ H.out p0 p1 a0 (by omega) (by omega) (by omega)).mono ?_; rintro e w1 ⟨rfl, rfl⟩; rw [hn]))
  all_goals go_ret
  all_goals exact ⟨rfl, rfl⟩
set_option maxHeartbeats 8000000 in
set_option maxRecDepth 100000 in
theorem memWrite (at' : Int) (a : Option Addr) (l : List Int) (n cap : Nat) (w : World) {M : Nat → Prop} {G B m : Nat} {pg mx : Int} {hs : Bool} {f : Nat → Int} (h : Mem w M G B m pg mx hs f) (hM : ∀ k, w.heap.size ≤ k → M k) (hl : l.length = n) (hm : m + n < 4294967296)
    (hS : Sl w a l) (hO : ∀ x, a = some x → 0 < n → ¬ M x.block) (p0 : 0 ≤ pg) (p1 : pg < 4294967296) (a0 : 0 ≤ at') (a1 : at' < 4294967296) (hn : hld true pg at' n = true) :
    Calls Try.prog 8 #[.pointer (some ⟨G, 0, none⟩), .int .u32 at', .slice a n cap] w fun e w' => e = .returned (.bool true) ∧ Off M w w' ∧ Mem w' M G B (m + n) pg mx hs (wrt (fun i => l.getD i 0) at'.toNat n f) := by
  have H := Aside0.mk h.is
  have HH := Aside0.mk (show Off M w w ∧ Mem w M G B (m + 0) pg mx hs (wrt (fun i => l.getD i 0) at'.toNat 0 f) from ⟨Off.refl _ _, h.congr (fun j => (wrt_zero _ _ _ j).symm)⟩)
  have HS := Aside0.mk hS
  have HO := Aside0.mk hO
  have HL := Aside0.mk hl
  clear h hS hO hl
  go_enter Try.func8, Try.ntmps8
  go_wp2_with (first | (go_at_call 11; with_reducible refine (memHolds (.pointer (some ⟨G, 0, none⟩)) true pg at' (n : Int) _ H.out p0 p1 a0 (by omega) (by omega) (by omega)).mono ?_; rintro e w1 ⟨rfl, rfl⟩; rw [hn]))
  clear H hn
  go_loopg [18] n (fun k v18 w' => ∃ i : Nat, v18 = .int .i64 (i : Int) ∧ Aside0 (k + i = n) ∧ Aside0 (Off M w1 w' ∧ Mem w' M G B (m + i) pg mx hs (wrt (fun i => l.getD i 0) at'.toNat i f)))
  case atStart => exact ⟨0, rfl, ⟨rfl⟩, HH⟩
  case round =>
    clear HH
    obtain ⟨i, rfl, hk, HH⟩ := hrel
    have hk' := hk.out
    obtain _ | kr := gk
    · have e : i = n := by omega
      subst e
      go_wp2
      go_ret
      exact ⟨rfl, HH.out⟩
    · have c : (i : Int) < (n : Int) := by omega
      have ci : i < n := by omega
      have i0 : 0 ≤ (i : Int) := by omega
      obtain ⟨x, rfl, hc⟩ := (HS.out.off HH.out.1 (fun x e => HO.out x e (by omega))) i (by have := HL.out; omega)
      go_wp2_with (first | (go_at_call 17; with_reducible refine (memPut' (at' + i) _ _ HH.out.2 (fun k hk => hM k (Nat.le_trans HH.out.1.size hk)) (by omega) (by omega) (by omega)).mono ?_; rintro e w2 ⟨rfl, ho, hm2⟩))
      go_roundg kr
      case measure => omega
      case rel =>
        have et : (at' + (i : Int)).toNat = at'.toNat + i := by omega
        rw [et] at hm2
        exact ⟨i + 1, rfl, ⟨by omega⟩, ⟨HH.out.1.trans ho, hm2.congr (fun j => wrt_succ (fun i => l.getD i 0) _ i f j)⟩⟩
end Go.Proofs.Ytiiimpcdhgegmaa.PA
/- memory: Read. -/
namespace Go.Proofs.Ytiiimpcdhgegmaa.PA
open Go.RowKit Go.Proofs.YtiiimpcdhgegmaaW.PrintWords Go.Proofs.YtiiimpcdhgegmaaW.PrintLast Go.Proofs.YtiiimpcdhgegmaaW.PrintMore
attribute [local go_sem] max2_int min2_int max_two min_two max_three min_three max_four min_four   -- for this text's walks alone
set_option linter.unusedVariables false
set_option linter.unusedSimpArgs false
set_option maxHeartbeats 8000000 in
theorem memReadNo (v : Value) (b : Bool) (pg at' n : Int) (w : World) (h : IsM w v b pg) (p0 : 0 ≤ pg) (p1 : pg < 4294967296) (a0 : 0 ≤ at') (a1 : at' < 4294967296) (n0 : -9223372036854775808 ≤ n) (n1 : n < 9223372036854775808)
    (hn : hld b pg at' n = false) :
    Calls Try.prog 9 #[v, .int .u32 at', .int .i64 n] w fun e w' => e = .returned (.tuple #[.slice none 0 0, .bool false]) ∧ w' = w := by
  have H := Aside0.mk h
  clear h
  go_enter Try.func9, Try.ntmps9
  go_wp2_with (first | (go_at_call 11; with_reducible refine (memHolds v b pg at' n _ H.out p0 p1 a0 (by omega) (by omega) (by omega)).mono ?_; rintro e w1 ⟨rfl, rfl⟩; rw [hn]))
  all_goals go_ret2
  all_goals exact ⟨rfl, rfl⟩
theorem infoB : (Try.prog.info? 5).map (fun i => (i.zero, i.size, i.bytes)) = some (some (.int .u8 0), 1, 1) := by kernel_rfl
theorem memMake (N : Nat) (w : World) (hN : N < 1099511627776) : ∃ w', (Instr.makeSlice 26 (.int .i64 (N : Int)) (.int .i64 (N : Int))).run Try.prog w = .ok (.slice (some ⟨w.heap.size, 0, none⟩) N N) w' ∧ Below w.heap.size w w' ∧ w.heap.size < w'.heap.size ∧
    ∀ i, i < N → w'.cell? ⟨w.heap.size, i, none⟩ = some (.int .u8 0) ∧ w'.frozen? ⟨w.heap.size, i, none⟩ = false := by
  have e := infoB
  cases hi : Try.prog.info? 5 with
  | none => rw [hi] at e; cases e
  | some i =>
    rw [hi] at e
    simp at e
    obtain ⟨e1, e2, e3⟩ := e
    obtain ⟨w', hr, hown, hg⟩ := run_make_full (P := Try.prog) (w := w) w.heap.size 26 5 i (.int .u8 0) 1 Try.underlying26 hi e1 e2 .i64 .i64 N (by rw [e3]; omega) (by unfold maxLen; omega) (Nat.le_refl _)
    refine ⟨w', hr, ⟨hg.os, hg.tape, hg.output, hg.size, fun k hk => hg.block k hk (by simp)⟩, ?_⟩
    obtain ⟨_, hv | ⟨g, cap, cur, hv, hb, hh, q1, q2, q3, q4⟩⟩ := hown
    · obtain ⟨hv, _⟩ := hv; cases hv
    · injection hv with hv _ hc
      obtain rfl := hc
      injection hv with hv
      injection hv with hv
      obtain rfl := hv
      refine ⟨?_, fun j hj => ?_⟩
      · by_cases q : w.heap.size < w'.heap.size
        · exact q
        · rw [Array.getElem?_eq_none (by omega)] at hh; cases hh
      · have hcur : cur[j]? = some (.int .u8 0) := by
          have : cur.toList.take (N * 1) = cur.toList := List.take_of_length_le (by simp [q3])
          rw [this] at q4
          have e5 : cur.toList = List.replicate N (.int .u8 0) := by
            rw [q4, Nat.mul_one]
            exact toList_madeCells_one _ _
          rw [← Array.getElem?_toList, e5, List.getElem?_replicate, if_pos hj]
        constructor
        · unfold World.cell?
          rw [hh]
          exact hcur
        · unfold World.frozen?
          rw [hh]
          simp
set_option maxHeartbeats 8000000 in
set_option maxRecDepth 100000 in
theorem memRead (at' : Int) (N : Nat) (w : World) {M : Nat → Prop} {G B m : Nat} {pg mx : Int} {hs : Bool} {f : Nat → Int} (h : Mem w M G B m pg mx hs f) (hN : N < 1099511627776)
    (p0 : 0 ≤ pg) (p1 : pg < 4294967296) (a0 : 0 ≤ at') (a1 : at' < 4294967296) (hn : hld true pg at' N = true) :
    Calls Try.prog 9 #[.pointer (some ⟨G, 0, none⟩), .int .u32 at', .int .i64 (N : Int)] w fun e w' => e = .returned (.tuple #[.slice (some ⟨w.heap.size, 0, none⟩) N N, .bool true]) ∧ Below w.heap.size w w' ∧ w.heap.size < w'.heap.size ∧
      ∀ i, i < N → w'.cell? ⟨w.heap.size, i, none⟩ = some (.int .u8 (f (at'.toNat + i))) := by
  have H := Aside0.mk h.is
  have HM := Aside0.mk h
  obtain ⟨wm, hmk, hb, hz, hcs⟩ := memMake N w hN
  have HB := Aside0.mk hb
  have HZ := Aside0.mk hz
  have HC := Aside0.mk hcs
  clear h hb hz hcs
  go_enter Try.func9, Try.ntmps9
  go_wp2_with (first | (go_at_call 11; with_reducible refine (memHolds (.pointer (some ⟨G, 0, none⟩)) true pg at' (N : Int) _ H.out p0 p1 a0 (by omega) (by omega) (by omega)).mono ?_; rintro e w1 ⟨rfl, rfl⟩; rw [hn]))
  clear H hn hmk
  have HH := Aside0.mk (show Below w1.heap.size w1 wm ∧ w1.heap.size < wm.heap.size ∧ ∀ j, j < N → wm.cell? ⟨w1.heap.size, j, none⟩ = some (.int .u8 (if j < 0 then f (at'.toNat + j) else 0)) ∧ wm.frozen? ⟨w1.heap.size, j, none⟩ = false from ⟨HB.out, HZ.out, fun j hj => HC.out j hj⟩)
  clear HB HZ HC
  go_loopg [20] N (fun k v20 w' => ∃ i : Nat, v20 = .int .i64 (i : Int) ∧ Aside0 (k + i = N) ∧ Aside0 (Below w1.heap.size w1 w' ∧ w1.heap.size < w'.heap.size ∧ ∀ j, j < N → w'.cell? ⟨w1.heap.size, j, none⟩ = some (.int .u8 (if j < i then f (at'.toNat + j) else 0)) ∧ w'.frozen? ⟨w1.heap.size, j, none⟩ = false))
  case atStart => exact ⟨0, rfl, ⟨rfl⟩, HH⟩
  case round =>
    clear HH
    obtain ⟨i, rfl, hk, HH⟩ := hrel
    have hk' := hk.out
    obtain _ | kr := gk
    · have e : i = N := by omega
      subst e
      go_wp2
      go_ret2
      exact ⟨rfl, HH.out.1, HH.out.2.1, fun j hj => by have := (HH.out.2.2 j hj).1; rw [if_pos hj] at this; exact this⟩
    · have c : (i : Int) < (N : Int) := by omega
      have ci : i < N := by omega
      have i0 : 0 ≤ (i : Int) := by omega
      obtain ⟨hc, hf⟩ := HH.out.2.2 i ci
      rw [if_neg (Nat.lt_irrefl i)] at hc
      go_wp2_with (first | (go_at_call 18; with_reducible refine (memGet' (at' + i) _ (HM.out.below HH.out.1) (by omega) (by omega)).mono ?_; rintro e w2 ⟨rfl, rfl⟩))
      go_roundg kr
      case measure => omega
      case rel =>
        have et : (at' + (i : Int)).toNat = at'.toNat + i := by omega
        rw [et]
        refine ⟨i + 1, rfl, ⟨by omega⟩, ⟨HH.out.1.setCell (Nat.le_refl _) _, by simpa [World.setCell] using HH.out.2.1, fun j hj => ⟨?_, (World.frozen?_setCell _ _ _ _).trans (HH.out.2.2 j hj).2⟩⟩⟩
        by_cases q : j = i
        · subst q
          rw [if_pos (Nat.lt_succ_self j)]
          exact World.cell?_setCell_same _ _ _ hc
        · rw [World.cell?_setCell_other _ _ _ _ (by intro e; injection e with _ e _; exact q e.symm), (HH.out.2.2 j hj).1]
          by_cases q2 : j < i
          · rw [if_pos q2, if_pos (by omega)]
          · rw [if_neg q2, if_neg (by omega)]
theorem memRead100 (at' : Int) (w : World) {M : Nat → Prop} {G B m : Nat} {pg mx : Int} {hs : Bool} {f : Nat → Int} (h : Mem w M G B m pg mx hs f)
    (p0 : 0 ≤ pg) (p1 : pg < 4294967296) (a0 : 0 ≤ at') (a1 : at' < 4294967296) (hn : hld true pg at' 100 = true) :
    Calls Try.prog 9 #[.pointer (some ⟨G, 0, none⟩), .int .u32 at', .int .i64 100] w fun e w' => e = .returned (.tuple #[.slice (some ⟨w.heap.size, 0, none⟩) 100 100, .bool true]) ∧ Below w.heap.size w w' ∧ w.heap.size < w'.heap.size ∧
      ∀ i, i < 100 → w'.cell? ⟨w.heap.size, i, none⟩ = some (.int .u8 (f (at'.toNat + i))) := memRead at' 100 w h (by decide) p0 p1 a0 a1 hn
end Go.Proofs.Ytiiimpcdhgegmaa.PA
/- memory: the chapter's example. -/
namespace Go.Proofs.Ytiiimpcdhgegmaa.PA
open Go.RowKit Go.Proofs.YtiiimpcdhgegmaaW.PrintWords Go.Proofs.YtiiimpcdhgegmaaW.PrintLast Go.Proofs.YtiiimpcdhgegmaaW.PrintMore
attribute [local go_sem] max2_int min2_int max_two min_two max_three min_three max_four min_four   -- for this text's walks alone
set_option linter.unusedVariables false
set_option linter.unusedSimpArgs false
theorem memNewOk (mn mx : Int) (hs : Bool) (w : World) (a0 : 0 ≤ mn) (a1 : mn < 4294967296) (b0 : 0 ≤ mx) (b1 : mx < 4294967296) (hE : newE mn mx hs = 0) :
    Calls Try.prog 7 #[.agg #[.int .u32 mn, .int .u32 mx, .bool hs]] w fun e w' => Below w.heap.size w w' ∧ ∃ G B, e = .returned (.tuple #[.pointer (some ⟨G, 0, none⟩), .int .i64 0]) ∧ Mem w' (fun k => w.heap.size ≤ k) G B 0 mn mx hs (fun _ => 0) := by
  refine (memNew mn mx hs w a0 a1 b0 b1).mono ?_
  rintro e w' ⟨hb, ⟨h, _⟩ | ⟨_, G, B, he, hm⟩⟩
  · exact absurd hE h
  · exact ⟨hb, G, B, he, hm⟩
theorem memNewBad (mn mx : Int) (hs : Bool) (w : World) (a0 : 0 ≤ mn) (a1 : mn < 4294967296) (b0 : 0 ≤ mx) (b1 : mx < 4294967296) (hE : newE mn mx hs ≠ 0) :
    Calls Try.prog 7 #[.agg #[.int .u32 mn, .int .u32 mx, .bool hs]] w fun e w' => e = .returned (.tuple #[.pointer none, .int .i64 (newE mn mx hs)]) ∧ Below w.heap.size w w' := by
  refine (memNew mn mx hs w a0 a1 b0 b1).mono ?_
  rintro e w' ⟨hb, ⟨_, h⟩ | ⟨h, _⟩⟩
  · exact ⟨h, hb⟩
  · exact absurd h hE
theorem byt_ok (v : Int) (i : Nat) : 0 ≤ byt v i ∧ byt v i < 256 := ⟨Int.emod_nonneg _ (by decide), Int.emod_lt_of_pos _ (by decide)⟩
theorem wrt_ok {g f : Nat → Int} (hg : ∀ i, 0 ≤ g i ∧ g i < 256) (hf : ∀ i, 0 ≤ f i ∧ f i < 256) (a n : Nat) (j : Nat) : 0 ≤ wrt g a n f j ∧ wrt g a n f j < 256 := by
  unfold wrt
  split
  · exact hg _
  · exact hf _
theorem awake7 : hv (wrt (byt 7) ((65000 : Int) + 532).toNat 4 (fun _ => 0)) ((65532 : Int) + 0).toNat 4 4 = 7 := by decide +kernel
theorem storeA (w : World) {M : Nat → Prop} {G B m : Nat} (h : Mem w M G B m 1 0 false (fun _ => 0)) (hM : ∀ k, w.heap.size ≤ k → M k) (hm : m + 8 < 4294967296) :
    Calls Try.prog 10 #[.pointer (some ⟨G, 0, none⟩), .int .u32 65000, .int .u32 532, .agg #[.int .u8 127, .int .i64 4, .bool false, .bool true], .int .u64 7] w fun e w' => e = .returned (.int .i64 0) ∧ Off M w w' ∧ Mem w' M G B (m + 4) 1 0 false (wrt (byt 7) ((65000 : Int) + 532).toNat 4 (fun _ => 0)) :=
  memStore 65000 532 4 127 false true 7 w h hM hm (by decide) (by decide) (by decide) (by decide) (by decide) (by decide) (by decide) (by decide) (by decide) (by decide)
theorem loadA (w : World) {M : Nat → Prop} {G B m : Nat} (h : Mem w M G B m 1 0 false (wrt (byt 7) ((65000 : Int) + 532).toNat 4 (fun _ => 0))) :
    Calls Try.prog 12 #[.pointer (some ⟨G, 0, none⟩), .int .u32 65532, .int .u32 0, .agg #[.int .u8 127, .int .i64 4, .bool false, .bool true]] w fun e w' => e = .returned (.tuple #[.int .u64 7, .int .i64 0]) ∧ Below w.heap.size w w' := by
  have := memLoad 65532 0 4 127 true w h (wrt_ok (byt_ok 7) (fun _ => ⟨by decide, by decide⟩) _ 4) (by decide) (by decide) (by decide) (by decide) (by decide) (by decide) (by decide) (by decide)
  rw [awake7] at this
  exact this
set_option maxHeartbeats 8000000 in
set_option maxRecDepth 100000 in
theorem memAwake (w : World) : Calls Try.prog 6 #[] w fun e w' => e = .returned (.bool true) ∧ Below w.heap.size w w' := by
  have hu2 := Try.underlying24
  have hu3 := Try.underlying35
  go_enter Try.func6, Try.ntmps6
  go_wp2_with (first | (go_at_call 7; with_reducible refine (memNewOk 1 0 false _ (by decide) (by decide) (by decide) (by decide) (by decide)).mono ?_; rintro e w1 ⟨hb1, G, B, rfl, hm⟩; have HB := Aside0.mk hb1; have HM := Aside0.mk hm; clear hb1 hm) | (go_at_call 10; with_reducible refine (memStoreNo (.pointer (some ⟨G, 0, none⟩)) true 1 65533 0 4 127 false true 7 _ (HM.out.is.below (below_alloc (Below.refl _ _) _)) (by decide) (by decide) (by decide) (by decide) (by decide) (by decide) (by decide) (by decide) (by decide)).mono ?_; rintro e w2 ⟨rfl, hb⟩; have z : w1.heap.size < w2.heap.size := Nat.lt_of_lt_of_le (by simp) hb.size; have c0 : w2.cell? ⟨w1.heap.size, 0, none⟩ = some (.int .u8 127) := ((Nr.bcell hb).1 w1.heap.size 0 (by simp)).trans (by simp [go_sem]); have c1 : w2.cell? ⟨w1.heap.size, 1, none⟩ = some (.int .i64 4) := ((Nr.bcell hb).1 w1.heap.size 1 (by simp)).trans (by simp [go_sem]); have c2 : w2.cell? ⟨w1.heap.size, 2, none⟩ = some (.bool false) := ((Nr.bcell hb).1 w1.heap.size 2 (by simp)).trans (by simp [go_sem]); have c3 : w2.cell? ⟨w1.heap.size, 3, none⟩ = some (.bool true) := ((Nr.bcell hb).1 w1.heap.size 3 (by simp)).trans (by simp [go_sem]); have hbb : Below w1.heap.size w1 w2 := below_step (below_alloc (Below.refl _ _) _) hb; replace HM := Aside0.mk ((HM.out.wider (M' := fun k => w.heap.size ≤ k ∧ k ≠ w1.heap.size) (fun k hk h => ⟨h, Nat.ne_of_lt hk⟩)).below hbb); replace HB := Aside0.mk (below_step HB.out hbb); have Z := Aside0.mk z; clear hb hbb z) | (go_at_call 10; with_reducible refine (storeA _ HM.out (fun k hk => ⟨Nat.le_trans HB.out.size hk, Nat.ne_of_gt (Nat.lt_of_lt_of_le Z.out hk)⟩) (by decide)).mono ?_; rintro e w3 ⟨rfl, ho, hm⟩; have hk : w3.heap[w1.heap.size]? = w2.heap[w1.heap.size]? := ho.block w1.heap.size Z.out (fun h => absurd rfl (And.right h)); replace c0 := (World.cell?_of_block (w := w2) (a := ⟨w1.heap.size, 0, none⟩) hk).trans c0; replace c1 := (World.cell?_of_block (w := w2) (a := ⟨w1.heap.size, 1, none⟩) hk).trans c1; replace c2 := (World.cell?_of_block (w := w2) (a := ⟨w1.heap.size, 2, none⟩) hk).trans c2; replace c3 := (World.cell?_of_block (w := w2) (a := ⟨w1.heap.size, 3, none⟩) hk).trans c3; replace HB := Aside0.mk (HB.out.trans (ho.below w.heap.size HB.out.size (fun k h => h.1))); replace HM := Aside0.mk hm; clear ho hm hk) | (go_at_call 12; with_reducible refine (loadA _ HM.out).mono ?_; rintro e w4 ⟨rfl, hb⟩; replace HB := Aside0.mk (below_step HB.out hb); clear hb))
  all_goals go_ret
  all_goals exact ⟨rfl, HB.out⟩
end Go.Proofs.Ytiiimpcdhgegmaa.PA
/- memory: Limits of a memory that is none; few, for one step. -/
namespace Go.Proofs.Ytiiimpcdhgegmaa.PA
open Go.RowKit Go.Proofs.YtiiimpcdhgegmaaW.PrintWords Go.Proofs.YtiiimpcdhgegmaaW.PrintLast Go.Proofs.YtiiimpcdhgegmaaW.PrintMore
attribute [local go_sem] max2_int min2_int max_two min_two max_three min_three max_four min_four   -- for this text's walks alone
set_option linter.unusedVariables false
set_option linter.unusedSimpArgs false
set_option maxHeartbeats 8000000 in
theorem memLimitsNo (v : Value) (pg : Int) (w : World) (h : IsM w v false pg) :
    Calls Try.prog 16 #[v] w fun e w' => e = .returned (.agg #[.int .u32 0, .int .u32 0, .bool false]) ∧ Below w.heap.size w w' := by
  have hu2 := Try.underlying35
  have H := Aside0.mk h
  clear h
  go_enter Try.func16, Try.ntmps16
  go_wp2_with (first | (go_at_call 20; with_reducible refine (memIs v false pg _ (H.out.below (below_alloc (Below.refl _ _) _))).mono ?_; rintro e w1 ⟨rfl, rfl⟩))
  exact bodyPost_ret (v := .agg #[.int .u32 0, .int .u32 0, .bool false]) (by simp [results, Try.results16, go_sem]) rfl ⟨rfl, by repeat (first | exact Below.refl _ _ | apply below_alloc | (refine below_set ?_ (by simp)))⟩
set_option maxHeartbeats 8000000 in
theorem memFew (A : Nat) (kd n bs of ty nb : Int) (sg st : Bool) (x : Int) (may : Bool) (a : Option Addr) (len cap : Nat) (w : World)
    (c0 : w.cell? ⟨A, 0, none⟩ = some (.int .i64 kd)) (c1 : w.cell? ⟨A, 1, none⟩ = some (.int .i64 n)) (c2 : w.cell? ⟨A, 2, none⟩ = some (.int .u32 bs)) (c3 : w.cell? ⟨A, 3, none⟩ = some (.int .u32 of)) (c4 : w.cell? ⟨A, 4, none⟩ = some (.int .u8 ty))
    (c5 : w.cell? ⟨A, 5, none⟩ = some (.int .i64 nb)) (c6 : w.cell? ⟨A, 6, none⟩ = some (.bool sg)) (c7 : w.cell? ⟨A, 7, none⟩ = some (.bool st)) (c8 : w.cell? ⟨A, 8, none⟩ = some (.int .u64 x)) (c9 : w.cell? ⟨A, 9, none⟩ = some (.bool may)) (c10 : w.cell? ⟨A, 10, none⟩ = some (.slice a len cap)) :
    Calls Try.prog 15 #[.slice (some ⟨A, 0, none⟩) 1 1, .int .i64 1] w fun e w' => (∃ b, e = .returned (.bool b)) ∧ Below w.heap.size w w' := by
  have hu2 := Try.underlying28
  have hu3 := Try.underlying24
  go_enter Try.func15, Try.ntmps15
  go_wp2
  go_loopg [9] 1 (fun k v9 w' => Aside0 (Below w.heap.size w w') ∧ ((k = 1 ∧ v9 = .int .i64 0 ∧ w' = w) ∨ (k = 0 ∧ v9 = .int .i64 1)))
  case atStart => exact ⟨⟨Below.refl _ _⟩, .inl ⟨rfl, rfl, rfl⟩⟩
  case round =>
    obtain ⟨HB, ⟨rfl, rfl, rfl⟩ | ⟨rfl, rfl⟩⟩ := hrel
    · go_wp2
      all_goals first
        | (go_ret; exact ⟨⟨_, rfl⟩, below_alloc (Below.refl _ _) _⟩)
        | (go_ret; exact ⟨.inl rfl, below_alloc (Below.refl _ _) _⟩)
        | (go_roundg 0; (case measure => omega); (case rel => exact ⟨⟨below_alloc (Below.refl _ _) _⟩, .inr ⟨rfl, rfl⟩⟩))
    · clear c0 c1 c2 c3 c4 c5 c6 c7 c8 c9 c10
      go_wp2
      go_ret
      exact ⟨⟨_, rfl⟩, HB.out⟩
end Go.Proofs.Ytiiimpcdhgegmaa.PA
/- memory: what MemoryGrows and MemoryKeeps lean on. -/
namespace Go.Proofs.Ytiiimpcdhgegmaa.PA
open Go.RowKit Go.Proofs.YtiiimpcdhgegmaaW.PrintWords Go.Proofs.YtiiimpcdhgegmaaW.PrintLast Go.Proofs.YtiiimpcdhgegmaaW.PrintMore
attribute [local go_sem] max2_int min2_int max_two min_two max_three min_three max_four min_four   -- for this text's walks alone
set_option linter.unusedVariables false
set_option linter.unusedSimpArgs false
theorem convA (w : World) (a : Option Addr) (l : List Int) (n cap : Nat) (hn : l.length = n) (h : Sl w a l) : (Go.convert 26 9 (.slice a n cap)).run Try.prog w = .ok (.string (strOfNums l)) w := by
  subst hn
  cases a with
  | none =>
    have hl : l = [] := by
      cases l with
      | nil => rfl
      | cons y r => obtain ⟨x, e, _⟩ := h 0 (by simp); cases e
    subst hl
    exact run_convert_bytes_nil w 26 5 Try.underlying26 Try.underlying5 0 cap 9 Try.underlying9
  | some x =>
    have hl : (loadCells x l.length).run Try.prog w = .ok (l.map (Value.int .u8)).toArray w := by
      have := run_loadCells_list (P := Try.prog) w x (l.map (Value.int .u8)) (fun j v hj => by
        have hjl : j < l.length := by
          rcases Nat.lt_or_ge j l.length with h | h
          · exact h
          · simp [List.getElem?_eq_none (show (l.map (Value.int .u8)).length ≤ j by simpa using h)] at hj
        obtain ⟨y, e, hc⟩ := h j hjl
        obtain rfl := Option.some.inj e
        rw [hc]
        simp [List.getElem?_eq_getElem hjl] at hj
        subst hj
        simp [List.getD, List.getElem?_eq_getElem hjl])
      simpa using this
    rw [run_convert_bytes_string w 26 9 5 _ l.length cap Try.underlying26 Try.underlying5 Try.underlying9, run_bytesToString w _ l.length cap l hl, foldl_push_bytes]
    simp [strOfNums, ByteArray.empty, ByteArray.emptyWithCapacity]
    rfl
theorem memWriteAny (at' : Int) (a : Option Addr) (l : List Int) (n cap : Nat) (w : World) {M : Nat → Prop} {G B m : Nat} {pg mx : Int} {hs : Bool} {f : Nat → Int} (h : Mem w M G B m pg mx hs f) (hM : ∀ k, w.heap.size ≤ k → M k) (hl : l.length = n) (hm : m + n < 4294967296)
    (hS : Sl w a l) (hO : ∀ x, a = some x → 0 < n → ¬ M x.block) (p0 : 0 ≤ pg) (p1 : pg < 4294967296) (a0 : 0 ≤ at') (a1 : at' < 4294967296) :
    Calls Try.prog 8 #[.pointer (some ⟨G, 0, none⟩), .int .u32 at', .slice a n cap] w fun e w' => e = .returned (.bool (hld true pg at' n)) ∧ Off M w w' ∧
      ∃ m', m' ≤ m + n ∧ Mem w' M G B m' pg mx hs (if hld true pg at' n = true then wrt (fun i => l.getD i 0) at'.toNat n f else f) := by
  by_cases hq : hld true pg at' n = true
  · rw [if_pos hq, hq]
    refine (memWrite at' a l n cap w h hM hl hm hS hO p0 p1 a0 a1 hq).mono ?_
    rintro e w' ⟨h1, h2, h3⟩
    exact ⟨h1, h2, _, Nat.le_refl _, h3⟩
  · have hq' : hld true pg at' n = false := by simpa using hq
    rw [if_neg hq, hq']
    refine (memWriteNo _ true pg at' a n cap w h.is p0 p1 a0 a1 (by omega) hq').mono ?_
    rintro e w' ⟨h1, rfl⟩
    exact ⟨h1, Off.refl _ _, m, by omega, h⟩
def rfs (pg mx by' : Int) (hs may : Bool) : Bool := !may || decide (mostP mx hs < by' ∨ mostP mx hs - by' < pg)
theorem memGrowAny (by' : Int) (may : Bool) (w : World) {M : Nat → Prop} {G B n : Nat} {pg mx : Int} {hs : Bool} {f : Nat → Int} (h : Mem w M G B n pg mx hs f) (p0 : 0 ≤ pg) (p1 : pg ≤ 16) (m0 : 0 ≤ mx) (m1 : mx < 4294967296) (y0 : 0 ≤ by') (y1 : by' < 4294967296) :
    Calls Try.prog 14 #[.pointer (some ⟨G, 0, none⟩), .int .u32 by', .bool may] w fun e w' =>
      e = .returned (.int .u32 (if rfs pg mx by' hs may = true then 4294967295 else pg)) ∧ Off M w w' ∧ Mem w' M G B n (if rfs pg mx by' hs may = true then pg else pg + by') mx hs f := by
  cases may with
  | false =>
    have e : rfs pg mx by' hs false = true := rfl
    rw [if_pos e, if_pos e]
    refine (memGrowNo _ pg by' false true w h.is rfl).mono ?_
    rintro e w' ⟨h1, rfl⟩
    exact ⟨h1, Off.refl _ _, h⟩
  | true =>
    refine (memGrow by' w h p0 p1 m0 m1 y0 y1).mono ?_
    rintro e w' (⟨q, h1, rfl⟩ | ⟨q, h1, h2, h3⟩)
    · have e : rfs pg mx by' hs true = true := by simpa [rfs] using q
      rw [if_pos e, if_pos e]
      exact ⟨h1, Off.refl _ _, h⟩
    · have e : ¬ rfs pg mx by' hs true = true := by simpa [rfs] using q
      rw [if_neg e, if_neg e]
      exact ⟨h1, h2, h3⟩
end Go.Proofs.Ytiiimpcdhgegmaa.PA
/- memory: what MemoryKeeps leans on. -/
namespace Go.Proofs.Ytiiimpcdhgegmaa.PA
open Go.RowKit Go.Proofs.YtiiimpcdhgegmaaW.PrintWords Go.Proofs.YtiiimpcdhgegmaaW.PrintLast Go.Proofs.YtiiimpcdhgegmaaW.PrintMore
attribute [local go_sem] max2_int min2_int max_two min_two max_three min_three max_four min_four   -- for this text's walks alone
set_option linter.unusedVariables false
set_option linter.unusedSimpArgs false
theorem memRead40 (at' : Int) (w : World) {M : Nat → Prop} {G B m : Nat} {pg mx : Int} {hs : Bool} {f : Nat → Int} (h : Mem w M G B m pg mx hs f)
    (p0 : 0 ≤ pg) (p1 : pg < 4294967296) (a0 : 0 ≤ at') (a1 : at' < 4294967296) (hn : hld true pg at' 40 = true) :
    Calls Try.prog 9 #[.pointer (some ⟨G, 0, none⟩), .int .u32 at', .int .i64 40] w fun e w' => e = .returned (.tuple #[.slice (some ⟨w.heap.size, 0, none⟩) 40 40, .bool true]) ∧ Below w.heap.size w w' ∧ w.heap.size < w'.heap.size ∧
      ∀ i, i < 40 → w'.cell? ⟨w.heap.size, i, none⟩ = some (.int .u8 (f (at'.toNat + i))) := memRead at' 40 w h (by decide) p0 p1 a0 a1 hn
theorem Mem.drew {w : World} {M : Nat → Prop} {G B n : Nat} {pg mx : Int} {hs : Bool} {f : Nat → Int} (h : Mem w M G B n pg mx hs f) : Mem w.drew M G B n pg mx hs f := h.off (Nat.le_refl _) (fun _ _ _ => rfl)
theorem f00 : ∀ j : Nat, 0 ≤ (fun _ : Nat => (0 : Int)) j ∧ (fun _ : Nat => (0 : Int)) j < 256 := fun _ => ⟨Int.le_refl _, show (0 : Int) < 256 by decide⟩
theorem memIfOk {w : World} {M : Nat → Prop} {G B n : Nat} {pg mx : Int} {hs : Bool} {l : List Int} {c : Bool} {a k : Nat} (h : Mem w M G B n pg mx hs (if c = true then wrt (fun i => l.getD i 0) a k (fun _ => 0) else (fun _ => 0))) (hY : ∀ j, 0 ≤ l.getD j 0 ∧ l.getD j 0 < 256) :
    ∃ f1, Mem w M G B n pg mx hs f1 ∧ ∀ j : Nat, 0 ≤ f1 j ∧ f1 j < 256 := by
  refine ⟨_, h, ?_⟩
  cases c with
  | true => rw [if_pos rfl]; exact wrt_ok hY f00 a k
  | false => rw [if_neg (by decide)]; exact f00
theorem wrt_in (g : Nat → Int) (a n : Nat) (f : Nat → Int) (p j : Nat) (hp : p = a + j) (hj : j < n) : wrt g a n f p = g j := by
  subst hp
  unfold wrt
  rw [if_pos (by omega), Nat.add_sub_cancel_left]
theorem wrt_out (g : Nat → Int) (a n : Nat) (f : Nat → Int) (p : Nat) (hp : ¬ (a ≤ p ∧ p < a + n)) : wrt g a n f p = f p := if_neg hp
theorem hv_wrt_k (x : Int) (x0 : 0 ≤ x) (a N : Nat) (f : Nat → Int) : ∀ k, k ≤ N → hv (wrt (byt x) a N f) a N k = x / 2 ^ (8 * (N - k)) % 256 ^ k
  | 0, _ => by show (0 : Int) = _ % 1; omega
  | k + 1, h => by
    have ih := hv_wrt_k x x0 a N f k (by omega)
    unfold hv
    rw [ih, wrt_in (byt x) a N f _ _ rfl (by omega)]
    unfold byt
    have e : 8 * (N - k) = 8 * (N - 1 - k) + 8 := by omega
    have e2 : N - (k + 1) = N - 1 - k := by omega
    rw [e, e2, Int.pow_add, ← Int.ediv_ediv_of_nonneg (Int.pow_nonneg (by decide))]
    generalize x / 2 ^ (8 * (N - 1 - k)) = y
    have p : (0 : Int) < 256 ^ k := Int.pow_pos (by decide)
    rw [show (2 : Int) ^ 8 = 256 from rfl, show (256 : Int) ^ (k + 1) = 256 ^ k * 256 from Int.pow_succ .., Int.mul_comm ((256 : Int) ^ k) 256]
    have h1 := Int.emod_add_mul_ediv y 256
    have h2 := Int.emod_add_mul_ediv (y / 256) (256 ^ k)
    have h3 : y = (y / 256 % 256 ^ k * 256 + y % 256) + 256 * 256 ^ k * (y / 256 / 256 ^ k) := by
      have : 256 * (256 ^ k * (y / 256 / 256 ^ k)) = 256 * 256 ^ k * (y / 256 / 256 ^ k) := (Int.mul_assoc _ _ _).symm
      omega
    have n1 := Int.emod_nonneg y (show (256 : Int) ≠ 0 by decide)
    have n2 := Int.emod_lt_of_pos y (show (0 : Int) < 256 by decide)
    have n3 := Int.emod_nonneg (y / 256) (Int.ne_of_gt p)
    have n4 := Int.emod_lt_of_pos (y / 256) p
    have h4 : y % (256 * 256 ^ k) = (y / 256 % 256 ^ k * 256 + y % 256) % (256 * 256 ^ k) := by
      conv => lhs; rw [h3]
      exact Int.add_mul_emod_self_left _ _ _
    rw [h4]
    exact (Int.emod_eq_of_lt (by omega) (by omega)).symm
theorem hv_wrt (x : Int) (x0 : 0 ≤ x) (a N : Nat) (f : Nat → Int) : hv (wrt (byt x) a N f) a N N = x % 256 ^ N := by
  rw [hv_wrt_k x x0 a N f N (Nat.le_refl _), Nat.sub_self]
  show x / 1 % _ = _
  rw [Int.ediv_one]
end Go.Proofs.Ytiiimpcdhgegmaa.PA
