/- What the Go functions that the statement MemoryNone reaches compute, and the mathematics on it, in the order in which one leans on the other; for every input. -/
import Derived.Test.YtiiimpcdhgegmaaVMemoryNone0
import Derived.Test.YtiiimpcdhgegmaaMMemoryNone0
import Derived.JoinedOf
import Derived.WalkKit
import Derived.ProofKit
import Derived.OpenShut
import Derived.ShutString
import Derived.ChangeOld
import Derived.Below
import Derived.SizedLaws
/- memory: MemoryNone's walk. -/
namespace Go.Proofs.Ytiiimpcdhgegmaa.PA
open Go.RowKit Go.Proofs.YtiiimpcdhgegmaaW.PrintWords Go.Proofs.YtiiimpcdhgegmaaW.PrintLast Go.Proofs.YtiiimpcdhgegmaaW.PrintMore
attribute [local go_sem] max2_int min2_int max_two min_two max_three min_three max_four min_four   -- for this text's walks alone
set_option linter.unusedVariables false
set_option linter.unusedSimpArgs false
theorem memHoldsNo (v : Value) (at' n : Int) (w : World) (h : IsM w v false 0) (a0 : 0 ≤ at') (a1 : at' < 18446744073709551616) (n0 : -9223372036854775808 ≤ n) (n1 : n < 9223372036854775808) :
    Calls Try.prog 11 #[v, .int .u64 at', .int .i64 n] w fun e w' => e = .returned (.bool false) ∧ w' = w :=
  memHolds v false 0 at' n w h (by decide) (by decide) a0 a1 n0 n1
set_option maxHeartbeats 16000000 in
set_option maxRecDepth 100000 in
theorem memNone (kd n bs of ty nb : Int) (sg st : Bool) (x : Int) (may : Bool) (a : Option Addr) (len cap : Nat) (w : World) (n0 : -9223372036854775808 ≤ n) (n1 : n < 9223372036854775808) (a0 : 0 ≤ bs) (a1 : bs < 4294967296) (b0 : 0 ≤ of) (b1 : of < 4294967296) (m0 : -9223372036854775808 ≤ nb) (m1 : nb < 9223372036854775808) (x0 : 0 ≤ x) (x1 : x < 18446744073709551616) (hl : len < 9223372036854775808) :
    Calls Try.prog 5 #[.agg #[.int .i64 kd, .int .i64 n, .int .u32 bs, .int .u32 of, .int .u8 ty, .int .i64 nb, .bool sg, .bool st, .int .u64 x, .bool may, .slice a len cap]] w fun e w' => e = .returned (.bool true) ∧ Below w.heap.size w w' := by
  have hu2 := Try.underlying28
  have hu3 := Try.underlying24
  have hu4 := Try.underlying52
  have hne : ∀ W : World, (Go.binOp BinOp.neq 35 (.agg #[.int .u32 0, .int .u32 0, .bool false]) (.agg #[.int .u32 0, .int .u32 0, .bool false])).run Try.prog W = .ok (.bool false) W := fun W => by kernel_rfl
  go_enter Try.func5, Try.ntmps5
  go_wp2_with (first | (go_at_call 6; with_reducible refine (memAwake _).mono ?_; rintro e w1 ⟨rfl, hb⟩; have c0 : w1.cell? ⟨w.heap.size, 0, none⟩ = some (.int .i64 kd) := ((Nr.bcell hb).1 w.heap.size 0 (by simp)).trans (by simp [go_sem]); have c1 : w1.cell? ⟨w.heap.size, 1, none⟩ = some (.int .i64 n) := ((Nr.bcell hb).1 w.heap.size 1 (by simp)).trans (by simp [go_sem]); have c2 : w1.cell? ⟨w.heap.size, 2, none⟩ = some (.int .u32 bs) := ((Nr.bcell hb).1 w.heap.size 2 (by simp)).trans (by simp [go_sem]); have c3 : w1.cell? ⟨w.heap.size, 3, none⟩ = some (.int .u32 of) := ((Nr.bcell hb).1 w.heap.size 3 (by simp)).trans (by simp [go_sem]); have c4 : w1.cell? ⟨w.heap.size, 4, none⟩ = some (.int .u8 ty) := ((Nr.bcell hb).1 w.heap.size 4 (by simp)).trans (by simp [go_sem]); have c5 : w1.cell? ⟨w.heap.size, 5, none⟩ = some (.int .i64 nb) := ((Nr.bcell hb).1 w.heap.size 5 (by simp)).trans (by simp [go_sem]); have c6 : w1.cell? ⟨w.heap.size, 6, none⟩ = some (.bool sg) := ((Nr.bcell hb).1 w.heap.size 6 (by simp)).trans (by simp [go_sem]); have c7 : w1.cell? ⟨w.heap.size, 7, none⟩ = some (.bool st) := ((Nr.bcell hb).1 w.heap.size 7 (by simp)).trans (by simp [go_sem]); have c8 : w1.cell? ⟨w.heap.size, 8, none⟩ = some (.int .u64 x) := ((Nr.bcell hb).1 w.heap.size 8 (by simp)).trans (by simp [go_sem]); have c9 : w1.cell? ⟨w.heap.size, 9, none⟩ = some (.bool may) := ((Nr.bcell hb).1 w.heap.size 9 (by simp)).trans (by simp [go_sem]); have c10 : w1.cell? ⟨w.heap.size, 10, none⟩ = some (.slice a len cap) := ((Nr.bcell hb).1 w.heap.size 10 (by simp)).trans (by simp [go_sem]); have Z := Aside0.mk (show w.heap.size < w1.heap.size from Nat.lt_of_lt_of_le (by simp) hb.size); have HB := Aside0.mk (show Below w.heap.size w w1 from below_step (below_alloc (Below.refl _ _) _) hb); clear hb) | (go_at_call 15; with_reducible refine (memFew w1.heap.size kd n bs of ty nb sg st x may a len cap _ (by simp [go_sem]) (by simp [go_sem]) (by simp [go_sem]) (by simp [go_sem]) (by simp [go_sem]) (by simp [go_sem]) (by simp [go_sem]) (by simp [go_sem]) (by simp [go_sem]) (by simp [go_sem]) (by simp [go_sem])).mono ?_; rintro e w2 ⟨⟨b, rfl⟩, hb⟩; replace hb : Below w1.heap.size w1 w2 := below_step (below_alloc (Below.refl _ _) _) hb; have kc := (Nr.bcell hb).1; replace c0 := (kc _ 0 Z.out).trans c0; replace c1 := (kc _ 1 Z.out).trans c1; replace c2 := (kc _ 2 Z.out).trans c2; replace c3 := (kc _ 3 Z.out).trans c3; replace c4 := (kc _ 4 Z.out).trans c4; replace c5 := (kc _ 5 Z.out).trans c5; replace c6 := (kc _ 6 Z.out).trans c6; replace c7 := (kc _ 7 Z.out).trans c7; replace c8 := (kc _ 8 Z.out).trans c8; replace c9 := (kc _ 9 Z.out).trans c9; replace c10 := (kc _ 10 Z.out).trans c10; replace Z := Aside0.mk (Nat.lt_of_lt_of_le Z.out hb.size); replace HB := Aside0.mk (below_step HB.out hb); clear hb kc))
  · go_ret
    exact ⟨rfl, HB.out⟩
  · obtain rfl : b = true := by
      cases b
      · exfalso; simp_all
      · rfl
    generalize hW : World.alloc (World.alloc w2 _) _ = w3
    have HH := Aside0.mk (show w3.cell? ⟨w.heap.size, 0, none⟩ = some (.int .i64 kd) ∧ w3.cell? ⟨w.heap.size, 1, none⟩ = some (.int .i64 n) ∧ w3.cell? ⟨w.heap.size, 2, none⟩ = some (.int .u32 bs) ∧ w3.cell? ⟨w.heap.size, 3, none⟩ = some (.int .u32 of) ∧ w3.cell? ⟨w.heap.size, 4, none⟩ = some (.int .u8 ty) ∧ w3.cell? ⟨w.heap.size, 5, none⟩ = some (.int .i64 nb) ∧ w3.cell? ⟨w.heap.size, 6, none⟩ = some (.bool sg) ∧ w3.cell? ⟨w.heap.size, 7, none⟩ = some (.bool st) ∧ w3.cell? ⟨w.heap.size, 8, none⟩ = some (.int .u64 x) ∧ w3.cell? ⟨w.heap.size, 9, none⟩ = some (.bool may) ∧ w3.cell? ⟨w.heap.size, 10, none⟩ = some (.slice a len cap) ∧ w3.cell? ⟨w2.heap.size + 1, 0, none⟩ = some (.pointer none) ∧ w3.cell? ⟨w2.heap.size + 1, 1, none⟩ = some (.pointer (some ⟨w2.heap.size, 0, none⟩)) ∧ w3.cell? ⟨w2.heap.size, 3, none⟩ = some (.map none) ∧ w.heap.size < w3.heap.size ∧ w2.heap.size + 1 < w3.heap.size ∧ Below w.heap.size w w3 from by
      have e : ∀ (V : World) (o : Obj), Below V.heap.size V (V.alloc o) := fun V o => below_alloc (Below.refl _ _) o
      subst hW
      have hb := below_alloc (e w2 (Obj.cells #[.int .u32 0, .int .u32 0, .bool false, .map none] 52)) (Obj.cells #[.pointer none, .pointer (some ⟨w2.heap.size, 0, none⟩)] 30)
      have kc := (Nr.bcell hb).1
      exact ⟨(kc _ 0 Z.out).trans c0, (kc _ 1 Z.out).trans c1, (kc _ 2 Z.out).trans c2, (kc _ 3 Z.out).trans c3, (kc _ 4 Z.out).trans c4, (kc _ 5 Z.out).trans c5, (kc _ 6 Z.out).trans c6, (kc _ 7 Z.out).trans c7, (kc _ 8 Z.out).trans c8, (kc _ 9 Z.out).trans c9, (kc _ 10 Z.out).trans c10, by simp [go_sem], by simp [go_sem], by simp [go_sem], Nat.lt_of_lt_of_le Z.out hb.size, by simp, below_step HB.out hb⟩)
    clear hW Z HB c0 c1 c2 c3 c4 c5 c6 c7 c8 c9 c10
    go_loopg [21] 2 (fun k v21 w' => Aside0 (w'.cell? ⟨w.heap.size, 0, none⟩ = some (.int .i64 kd) ∧ w'.cell? ⟨w.heap.size, 1, none⟩ = some (.int .i64 n) ∧ w'.cell? ⟨w.heap.size, 2, none⟩ = some (.int .u32 bs) ∧ w'.cell? ⟨w.heap.size, 3, none⟩ = some (.int .u32 of) ∧ w'.cell? ⟨w.heap.size, 4, none⟩ = some (.int .u8 ty) ∧ w'.cell? ⟨w.heap.size, 5, none⟩ = some (.int .i64 nb) ∧ w'.cell? ⟨w.heap.size, 6, none⟩ = some (.bool sg) ∧ w'.cell? ⟨w.heap.size, 7, none⟩ = some (.bool st) ∧ w'.cell? ⟨w.heap.size, 8, none⟩ = some (.int .u64 x) ∧ w'.cell? ⟨w.heap.size, 9, none⟩ = some (.bool may) ∧ w'.cell? ⟨w.heap.size, 10, none⟩ = some (.slice a len cap) ∧ w'.cell? ⟨w2.heap.size + 1, 0, none⟩ = some (.pointer none) ∧ w'.cell? ⟨w2.heap.size + 1, 1, none⟩ = some (.pointer (some ⟨w2.heap.size, 0, none⟩)) ∧ w'.cell? ⟨w2.heap.size, 3, none⟩ = some (.map none) ∧ w.heap.size < w'.heap.size ∧ w2.heap.size + 1 < w'.heap.size ∧ Below w.heap.size w w') ∧ ((k = 2 ∧ v21 = .int .i64 0) ∨ (k = 1 ∧ v21 = .int .i64 1) ∨ (k = 0 ∧ v21 = .int .i64 2)))
    case atStart => exact ⟨HH, .inl ⟨rfl, rfl⟩⟩
    case round =>
      clear HH
      obtain ⟨HI, ⟨rfl, rfl⟩ | ⟨rfl, rfl⟩ | ⟨rfl, rfl⟩⟩ := hrel
      · obtain ⟨c0, c1, c2, c3, c4, c5, c6, c7, c8, c9, c10, r0, r1, z3, Z, Z2, HB⟩ := HI.out
        clear HI
        have H := Aside0.mk (show IsM wr (.pointer none) false 0 from .inl ⟨rfl, rfl, rfl⟩)
        replace Z := Aside0.mk Z
        replace Z2 := Aside0.mk Z2
        replace HB := Aside0.mk HB
        go_wp2_with (first | (go_at_call 12; with_reducible refine (memLoadNo (.pointer none) false 0 bs of nb ty sg st _ H.out (by decide) (by decide) a0 a1 b0 b1 m0 m1 (Bool.and_false _)).mono ?_; rintro e w4 ⟨rfl, hb⟩; have kc := (Nr.bcell hb).1; replace c0 := (kc _ 0 Z.out).trans c0; replace c1 := (kc _ 1 Z.out).trans c1; replace c2 := (kc _ 2 Z.out).trans c2; replace c3 := (kc _ 3 Z.out).trans c3; replace c4 := (kc _ 4 Z.out).trans c4; replace c5 := (kc _ 5 Z.out).trans c5; replace c6 := (kc _ 6 Z.out).trans c6; replace c7 := (kc _ 7 Z.out).trans c7; replace c8 := (kc _ 8 Z.out).trans c8; replace c9 := (kc _ 9 Z.out).trans c9; replace c10 := (kc _ 10 Z.out).trans c10; replace r0 := (kc _ 0 Z2.out).trans r0; replace r1 := (kc _ 1 Z2.out).trans r1; replace z3 := (kc _ 3 (Nat.lt_of_succ_lt Z2.out)).trans z3; replace Z := Aside0.mk (Nat.lt_of_lt_of_le Z.out hb.size); replace Z2 := Aside0.mk (Nat.lt_of_lt_of_le Z2.out hb.size); replace H := Aside0.mk (H.out.below hb); replace HB := Aside0.mk (below_step HB.out hb); clear hb kc) | (go_at_call 9; with_reducible refine (memReadNo (.pointer none) false 0 bs n _ H.out (by decide) (by decide) a0 a1 n0 n1 rfl).mono ?_; rintro e w5 ⟨rfl, rfl⟩) | (go_at_call 10; with_reducible refine (memStoreNo (.pointer none) false 0 bs of nb ty sg st x _ H.out (by decide) (by decide) a0 a1 b0 b1 m0 m1 (Bool.and_false _)).mono ?_; rintro e w6 ⟨rfl, hb⟩; have kc := (Nr.bcell hb).1; replace c0 := (kc _ 0 Z.out).trans c0; replace c1 := (kc _ 1 Z.out).trans c1; replace c2 := (kc _ 2 Z.out).trans c2; replace c3 := (kc _ 3 Z.out).trans c3; replace c4 := (kc _ 4 Z.out).trans c4; replace c5 := (kc _ 5 Z.out).trans c5; replace c6 := (kc _ 6 Z.out).trans c6; replace c7 := (kc _ 7 Z.out).trans c7; replace c8 := (kc _ 8 Z.out).trans c8; replace c9 := (kc _ 9 Z.out).trans c9; replace c10 := (kc _ 10 Z.out).trans c10; replace r0 := (kc _ 0 Z2.out).trans r0; replace r1 := (kc _ 1 Z2.out).trans r1; replace z3 := (kc _ 3 (Nat.lt_of_succ_lt Z2.out)).trans z3; replace Z := Aside0.mk (Nat.lt_of_lt_of_le Z.out hb.size); replace Z2 := Aside0.mk (Nat.lt_of_lt_of_le Z2.out hb.size); replace H := Aside0.mk (H.out.below hb); replace HB := Aside0.mk (below_step HB.out hb); clear hb kc) | (go_at_call 14; with_reducible refine (memGrowNo (.pointer none) 0 bs may false _ H.out rfl).mono ?_; rintro e w7 ⟨rfl, rfl⟩) | (go_at_call 8; with_reducible refine (memWriteNo (.pointer none) false 0 bs a len cap _ H.out (by decide) (by decide) a0 a1 hl rfl).mono ?_; rintro e w8 ⟨rfl, rfl⟩) | (go_at_call 11; with_reducible refine (memHoldsNo (.pointer none) x n _ H.out x0 x1 n0 n1).mono ?_; rintro e w9 ⟨rfl, rfl⟩) | (go_at_call 13; with_reducible refine (memPages (.pointer none) false 0 _ H.out).mono ?_; rintro e w10 ⟨rfl, rfl⟩) | (go_at_call 16; with_reducible refine (memLimitsNo (.pointer none) 0 _ H.out).mono ?_; rintro e w11 ⟨rfl, hb⟩; have kc := (Nr.bcell hb).1; replace c0 := (kc _ 0 Z.out).trans c0; replace c1 := (kc _ 1 Z.out).trans c1; replace c2 := (kc _ 2 Z.out).trans c2; replace c3 := (kc _ 3 Z.out).trans c3; replace c4 := (kc _ 4 Z.out).trans c4; replace c5 := (kc _ 5 Z.out).trans c5; replace c6 := (kc _ 6 Z.out).trans c6; replace c7 := (kc _ 7 Z.out).trans c7; replace c8 := (kc _ 8 Z.out).trans c8; replace c9 := (kc _ 9 Z.out).trans c9; replace c10 := (kc _ 10 Z.out).trans c10; replace r0 := (kc _ 0 Z2.out).trans r0; replace r1 := (kc _ 1 Z2.out).trans r1; replace z3 := (kc _ 3 (Nat.lt_of_succ_lt Z2.out)).trans z3; replace Z := Aside0.mk (Nat.lt_of_lt_of_le Z.out hb.size); replace Z2 := Aside0.mk (Nat.lt_of_lt_of_le Z2.out hb.size); replace H := Aside0.mk (H.out.below hb); replace HB := Aside0.mk (below_step HB.out hb); clear hb kc))
        go_roundg 1
        case measure => omega
        case rel => exact ⟨⟨c0, c1, c2, c3, c4, c5, c6, c7, c8, c9, c10, r0, r1, z3, Z.out, Z2.out, HB.out⟩, .inr (.inl ⟨rfl, rfl⟩)⟩
      · obtain ⟨c0, c1, c2, c3, c4, c5, c6, c7, c8, c9, c10, r0, r1, z3, Z, Z2, HB⟩ := HI.out
        clear HI
        have H := Aside0.mk (show IsM wr (.pointer (some ⟨w2.heap.size, 0, none⟩)) false 0 from .inr (.inl ⟨rfl, rfl, _, rfl, z3⟩))
        replace Z := Aside0.mk Z
        replace Z2 := Aside0.mk Z2
        replace HB := Aside0.mk HB
        go_wp2_with (first | (go_at_call 12; with_reducible refine (memLoadNo (.pointer (some ⟨w2.heap.size, 0, none⟩)) false 0 bs of nb ty sg st _ H.out (by decide) (by decide) a0 a1 b0 b1 m0 m1 (Bool.and_false _)).mono ?_; rintro e w4 ⟨rfl, hb⟩; have kc := (Nr.bcell hb).1; replace c0 := (kc _ 0 Z.out).trans c0; replace c1 := (kc _ 1 Z.out).trans c1; replace c2 := (kc _ 2 Z.out).trans c2; replace c3 := (kc _ 3 Z.out).trans c3; replace c4 := (kc _ 4 Z.out).trans c4; replace c5 := (kc _ 5 Z.out).trans c5; replace c6 := (kc _ 6 Z.out).trans c6; replace c7 := (kc _ 7 Z.out).trans c7; replace c8 := (kc _ 8 Z.out).trans c8; replace c9 := (kc _ 9 Z.out).trans c9; replace c10 := (kc _ 10 Z.out).trans c10; replace r0 := (kc _ 0 Z2.out).trans r0; replace r1 := (kc _ 1 Z2.out).trans r1; replace z3 := (kc _ 3 (Nat.lt_of_succ_lt Z2.out)).trans z3; replace Z := Aside0.mk (Nat.lt_of_lt_of_le Z.out hb.size); replace Z2 := Aside0.mk (Nat.lt_of_lt_of_le Z2.out hb.size); replace H := Aside0.mk (H.out.below hb); replace HB := Aside0.mk (below_step HB.out hb); clear hb kc) | (go_at_call 9; with_reducible refine (memReadNo (.pointer (some ⟨w2.heap.size, 0, none⟩)) false 0 bs n _ H.out (by decide) (by decide) a0 a1 n0 n1 rfl).mono ?_; rintro e w5 ⟨rfl, rfl⟩) | (go_at_call 10; with_reducible refine (memStoreNo (.pointer (some ⟨w2.heap.size, 0, none⟩)) false 0 bs of nb ty sg st x _ H.out (by decide) (by decide) a0 a1 b0 b1 m0 m1 (Bool.and_false _)).mono ?_; rintro e w6 ⟨rfl, hb⟩; have kc := (Nr.bcell hb).1; replace c0 := (kc _ 0 Z.out).trans c0; replace c1 := (kc _ 1 Z.out).trans c1; replace c2 := (kc _ 2 Z.out).trans c2; replace c3 := (kc _ 3 Z.out).trans c3; replace c4 := (kc _ 4 Z.out).trans c4; replace c5 := (kc _ 5 Z.out).trans c5; replace c6 := (kc _ 6 Z.out).trans c6; replace c7 := (kc _ 7 Z.out).trans c7; replace c8 := (kc _ 8 Z.out).trans c8; replace c9 := (kc _ 9 Z.out).trans c9; replace c10 := (kc _ 10 Z.out).trans c10; replace r0 := (kc _ 0 Z2.out).trans r0; replace r1 := (kc _ 1 Z2.out).trans r1; replace z3 := (kc _ 3 (Nat.lt_of_succ_lt Z2.out)).trans z3; replace Z := Aside0.mk (Nat.lt_of_lt_of_le Z.out hb.size); replace Z2 := Aside0.mk (Nat.lt_of_lt_of_le Z2.out hb.size); replace H := Aside0.mk (H.out.below hb); replace HB := Aside0.mk (below_step HB.out hb); clear hb kc) | (go_at_call 14; with_reducible refine (memGrowNo (.pointer (some ⟨w2.heap.size, 0, none⟩)) 0 bs may false _ H.out rfl).mono ?_; rintro e w7 ⟨rfl, rfl⟩) | (go_at_call 8; with_reducible refine (memWriteNo (.pointer (some ⟨w2.heap.size, 0, none⟩)) false 0 bs a len cap _ H.out (by decide) (by decide) a0 a1 hl rfl).mono ?_; rintro e w8 ⟨rfl, rfl⟩) | (go_at_call 11; with_reducible refine (memHoldsNo (.pointer (some ⟨w2.heap.size, 0, none⟩)) x n _ H.out x0 x1 n0 n1).mono ?_; rintro e w9 ⟨rfl, rfl⟩) | (go_at_call 13; with_reducible refine (memPages (.pointer (some ⟨w2.heap.size, 0, none⟩)) false 0 _ H.out).mono ?_; rintro e w10 ⟨rfl, rfl⟩) | (go_at_call 16; with_reducible refine (memLimitsNo (.pointer (some ⟨w2.heap.size, 0, none⟩)) 0 _ H.out).mono ?_; rintro e w11 ⟨rfl, hb⟩; have kc := (Nr.bcell hb).1; replace c0 := (kc _ 0 Z.out).trans c0; replace c1 := (kc _ 1 Z.out).trans c1; replace c2 := (kc _ 2 Z.out).trans c2; replace c3 := (kc _ 3 Z.out).trans c3; replace c4 := (kc _ 4 Z.out).trans c4; replace c5 := (kc _ 5 Z.out).trans c5; replace c6 := (kc _ 6 Z.out).trans c6; replace c7 := (kc _ 7 Z.out).trans c7; replace c8 := (kc _ 8 Z.out).trans c8; replace c9 := (kc _ 9 Z.out).trans c9; replace c10 := (kc _ 10 Z.out).trans c10; replace r0 := (kc _ 0 Z2.out).trans r0; replace r1 := (kc _ 1 Z2.out).trans r1; replace z3 := (kc _ 3 (Nat.lt_of_succ_lt Z2.out)).trans z3; replace Z := Aside0.mk (Nat.lt_of_lt_of_le Z.out hb.size); replace Z2 := Aside0.mk (Nat.lt_of_lt_of_le Z2.out hb.size); replace H := Aside0.mk (H.out.below hb); replace HB := Aside0.mk (below_step HB.out hb); clear hb kc))
        go_roundg 0
        case measure => omega
        case rel => exact ⟨⟨c0, c1, c2, c3, c4, c5, c6, c7, c8, c9, c10, r0, r1, z3, Z.out, Z2.out, HB.out⟩, .inr (.inr ⟨rfl, rfl⟩)⟩
      · go_wp2
        go_ret
        exact ⟨rfl, HI.out.2.2.2.2.2.2.2.2.2.2.2.2.2.2.2.2⟩
end Go.Proofs.Ytiiimpcdhgegmaa.PA
/- memory: the rows' own words: a struct that comes in. -/
namespace Go.Proofs.Ytiiimpcdhgegmaa.PA
open Go.RowKit Go.Proofs.YtiiimpcdhgegmaaW.PrintWords Go.Proofs.YtiiimpcdhgegmaaW.PrintLast Go.Proofs.YtiiimpcdhgegmaaW.PrintMore
attribute [local go_sem] max2_int min2_int max_two min_two max_three min_three max_four min_four   -- for this text's walks alone
set_option linter.unusedVariables false
set_option linter.unusedSimpArgs false
open Go.ChangeShapes Go.WideShapes Go.ChangeAt
section
variable {H : Type} {enc : TypeId × Value → H} {w : World} {base : Nat} {held : Bool}
theorem openLim {r : Reach} {b0 : Nat} {v : Value} {d : DataW H} {p : List MemPlace} (hv : Value.okWide Try.prog w r b0 35 v) (h : DataW.Trod enc Try.prog w base (fun _ => true) held 35 v d p) :
    ∃ (mn mx : Int) (hs : Bool), v = .agg #[.int .u32 mn, .int .u32 mx, .bool hs] ∧ (Lit.int .u32 mn).wf = true ∧ (Lit.int .u32 mx).wf = true := by
  obtain ⟨cs, rfl, hsz⟩ := okWide_struct Try.underlying35 hv
  have hC : Try.prog.cellsOf 35 = 3 := by kernel_rfl
  have k22 : Try.prog.cellsOf 22 = 1 := by kernel_rfl
  have k4 : Try.prog.cellsOf 4 = 1 := by kernel_rfl
  obtain ⟨l⟩ := cs
  match l, hsz.trans hC with
  | [c0, c1, c2], _ =>
    obtain ⟨fuel, hf⟩ := h
    obtain ⟨xs, n, _, hx, _, hlen, hg⟩ := DataW.trod_struct Try.underlying35 hf
    match xs, hlen with
    | [y0, y1, y2], _ =>
      have g0 := hg 0 _ rfl
      have g1 := hg 1 _ rfl
      have g2 := hg 2 _ rfl
      simp [Value.cells, k22, k4] at g0 g1 g2
      obtain ⟨a0, e0, _, w0⟩ := DataW.trod_int Try.underlying22 g0
      obtain ⟨a1, e1, _, w1⟩ := DataW.trod_int Try.underlying22 g1
      obtain ⟨a2, e2, _⟩ := DataW.trod_bool Try.underlying4 g2
      simp at e0 e1 e2
      subst e0 e1 e2
      exact ⟨a0, a1, a2, rfl, w0, w1⟩
theorem openOp {r : Reach} {b0 : Nat} {v : Value} {d : DataW H} {p : List MemPlace} (hv : Value.okWide Try.prog w r b0 28 v) (h : DataW.Trod enc Try.prog w base (fun _ => true) held 28 v d p) :
    ∃ (kd n bs of ty nb : Int) (sg st : Bool) (x : Int) (may : Bool) (a : Option Addr) (len cap : Nat) (zs : List Int),
      v = .agg #[.int .i64 kd, .int .i64 n, .int .u32 bs, .int .u32 of, .int .u8 ty, .int .i64 nb, .bool sg, .bool st, .int .u64 x, .bool may, .slice a len cap] ∧
      (Lit.int .i64 n).wf = true ∧ (Lit.int .u32 bs).wf = true ∧ (Lit.int .u32 of).wf = true ∧ (Lit.int .u8 ty).wf = true ∧ (Lit.int .i64 nb).wf = true ∧ (Lit.int .u64 x).wf = true ∧
      len ≤ cap ∧ cap ≤ maxLen ∧ zs.length = cap ∧ (∀ z ∈ zs, (Lit.int .u8 z).wf = true) ∧ ∀ i, i < zs.length → ∃ y, a = some y ∧ w.cell? (y.add i) = some (.int .u8 (zs.getD i 0)) := by
  obtain ⟨cs, rfl, hsz⟩ := okWide_struct Try.underlying28 hv
  have hC : Try.prog.cellsOf 28 = 11 := by kernel_rfl
  have k3 : Try.prog.cellsOf 3 = 1 := by kernel_rfl
  have k22 : Try.prog.cellsOf 22 = 1 := by kernel_rfl
  have k25 : Try.prog.cellsOf 25 = 1 := by kernel_rfl
  have k4 : Try.prog.cellsOf 4 = 1 := by kernel_rfl
  have k5 : Try.prog.cellsOf 5 = 1 := by kernel_rfl
  have k24 : Try.prog.cellsOf 24 = 4 := by kernel_rfl
  have k26 : Try.prog.cellsOf 26 = 1 := by kernel_rfl
  obtain ⟨l⟩ := cs
  match l, hsz.trans hC with
  | [c0, c1, c2, c3, c4, c5, c6, c7, c8, c9, c10], _ =>
    obtain ⟨fuel, hf⟩ := h
    obtain ⟨xs, n, _, hx, _, hlen, hg⟩ := DataW.trod_struct Try.underlying28 hf
    match xs, hlen with
    | [y0, y1, y2, y3, y4, y5, y6, y7], _ =>
      have g0 := hg 0 _ rfl
      have g1 := hg 1 _ rfl
      have g2 := hg 2 _ rfl
      have g3 := hg 3 _ rfl
      have g4 := hg 4 _ rfl
      have g5 := hg 5 _ rfl
      have g6 := hg 6 _ rfl
      have g7 := hg 7 _ rfl
      simp [Value.cells, k3, k22, k25, k4, k24, k26] at g0 g1 g2 g3 g4 g5 g6 g7
      obtain ⟨zs, m, _, _, _, hlen2, hg2⟩ := DataW.trod_struct Try.underlying24 g4
      match zs, hlen2 with
      | [z0, z1, z2, z3], _ =>
        have q0 := hg2 0 _ rfl
        have q1 := hg2 1 _ rfl
        have q2 := hg2 2 _ rfl
        have q3 := hg2 3 _ rfl
        simp [k3, k4, k5] at q0 q1 q2 q3
        obtain ⟨a0, e0, _, w0⟩ := DataW.trod_int Try.underlying3 g0
        obtain ⟨a1, e1, _, w1⟩ := DataW.trod_int Try.underlying3 g1
        obtain ⟨a2, e2, _, w2⟩ := DataW.trod_int Try.underlying22 g2
        obtain ⟨a3, e3, _, w3⟩ := DataW.trod_int Try.underlying22 g3
        obtain ⟨a4, e4, _, w4⟩ := DataW.trod_int Try.underlying5 q0
        obtain ⟨a5, e5, _, w5⟩ := DataW.trod_int Try.underlying3 q1
        obtain ⟨a6, e6, _⟩ := DataW.trod_bool Try.underlying4 q2
        obtain ⟨a7, e7, _⟩ := DataW.trod_bool Try.underlying4 q3
        obtain ⟨a8, e8, _, w8⟩ := DataW.trod_int Try.underlying25 g5
        obtain ⟨a9, e9, _⟩ := DataW.trod_bool Try.underlying4 g6
        simp at e0 e1 e2 e3 e4 e5 e6 e7 e8 e9
        subst e0 e1 e2 e3 e4 e5 e6 e7 e8 e9
        rcases open_ints Try.underlying26 Try.underlying5 k5 g7 with ⟨hcs, _⟩ | ⟨y, len, cap, ws, hcs, _, hl, hm, hz, _, hcell, hwz⟩
        · simp at hcs
          subst hcs
          exact ⟨a0, a1, a2, a3, a4, a5, a6, a7, a8, a9, none, 0, 0, [], rfl, w1, w2, w3, w4, w5, w8, Nat.le_refl _, Nat.zero_le _, rfl, (fun _ h => absurd h (by simp)), (fun i hi => absurd hi (by simp))⟩
        · simp at hcs
          subst hcs
          exact ⟨a0, a1, a2, a3, a4, a5, a6, a7, a8, a9, some y, len, cap, ws, rfl, w1, w2, w3, w4, w5, w8, hl, hm, by simpa using hz, hwz, fun i hi => ⟨y, rfl, hcell i hi⟩⟩
end
end Go.Proofs.Ytiiimpcdhgegmaa.PA
