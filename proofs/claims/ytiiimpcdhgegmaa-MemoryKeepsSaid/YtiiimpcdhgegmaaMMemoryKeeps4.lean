/- What the Go functions that the statement MemoryKeeps reaches compute, and the mathematics on it, in the order in which one leans on the other; for every input. -/
import Derived.Test.YtiiimpcdhgegmaaVMemoryKeeps0
import Derived.Test.YtiiimpcdhgegmaaMMemoryKeeps0
import Derived.JoinedOf
import Derived.WalkKit
import Derived.ProofKit
import Derived.OpenShut
import Derived.ShutString
import Derived.ChangeOld
import Derived.Below
import Derived.SizedLaws
import Derived.Test.YtiiimpcdhgegmaaMMemoryKeeps1
import Derived.Test.YtiiimpcdhgegmaaMMemoryKeeps2
import Derived.Test.YtiiimpcdhgegmaaMMemoryKeeps3
/- memory: MemoryKeeps' walk, 8 bytes. -/
namespace Go.Proofs.Ytiiimpcdhgegmaa.PA
open Go.RowKit Go.Proofs.YtiiimpcdhgegmaaW.PrintWords Go.Proofs.YtiiimpcdhgegmaaW.PrintLast Go.Proofs.YtiiimpcdhgegmaaW.PrintMore
attribute [local go_sem] max2_int min2_int max_two min_two max_three min_three max_four min_four   -- for this text's walks alone
set_option linter.unusedVariables false
set_option linter.unusedSimpArgs false
theorem storeK8 (bs of ty : Int) (sg st : Bool) (x : Int) (w : World) {M : Nat → Prop} {G B m : Nat} {pg mx : Int} {hs : Bool} {f : Nat → Int} (h : Mem w M G B m pg mx hs f) (hM : ∀ k, w.heap.size ≤ k → M k) (hm : m + 8 < 4294967296)
    (p0 : 0 ≤ pg) (p1 : pg < 4294967296) (a0 : 0 ≤ bs) (a1 : bs < 4294967296) (b0 : 0 ≤ of) (b1 : of < 4294967296) (x0 : 0 ≤ x) (x1 : x < 18446744073709551616) (hn : (acB 8 && hld true pg (bs + of) 8) = true) :
    Calls Try.prog 10 #[.pointer (some ⟨G, 0, none⟩), .int .u32 bs, .int .u32 of, .agg #[.int .u8 ty, .int .i64 8, .bool sg, .bool st], .int .u64 x] w fun e w' => e = .returned (.int .i64 0) ∧ Off M w w' ∧ Mem w' M G B (m + 8) pg mx hs (wrt (byt x) (bs + of).toNat 8 f) :=
  memStore bs of 8 ty sg st x w h hM hm p0 p1 a0 a1 b0 b1 (by decide) x0 x1 hn
theorem loadK8 (bs of : Int) (w : World) {M : Nat → Prop} {G B m : Nat} {pg mx : Int} {hs : Bool} {f : Nat → Int} (h : Mem w M G B m pg mx hs f) (hf : ∀ j, 0 ≤ f j ∧ f j < 256)
    (p0 : 0 ≤ pg) (p1 : pg < 4294967296) (a0 : 0 ≤ bs) (a1 : bs < 4294967296) (b0 : 0 ≤ of) (b1 : of < 4294967296) (hn : (acB 8 && hld true pg (bs + of) 8) = true) :
    Calls Try.prog 12 #[.pointer (some ⟨G, 0, none⟩), .int .u32 bs, .int .u32 of, .agg #[.int .u8 126, .int .i64 8, .bool false, .bool false]] w fun e w' => e = .returned (.tuple #[.int .u64 (hv f (bs + of).toNat 8 8), .int .i64 0]) ∧ Below w.heap.size w w' :=
  memLoad bs of 8 126 false w h hf p0 p1 a0 a1 b0 b1 (by decide) hn
set_option maxHeartbeats 16000000 in
set_option maxRecDepth 100000 in
theorem memKeeps8 (pages kd n bs of ty : Int) (sg st : Bool) (x : Int) (may : Bool) (a : Option Addr) (len cap : Nat) (b : Option Addr) (blen bcap : Nat) (l : List Int) (w : World)
    (p0 : 0 ≤ pages) (p1 : pages ≤ 16) (a0 : 0 ≤ bs) (a1 : bs < 4294967296) (b0 : 0 ≤ of) (b1 : of < 4294967296) (x0 : 0 ≤ x) (x1 : x < 18446744073709551616) (hl : l.length = blen) (hS : Sl w b l) (hY : ∀ j, 0 ≤ l.getD j 0 ∧ l.getD j 0 < 256) (hlen : blen ≤ 100) :
    Calls Try.prog 3 #[.int .u32 pages, .agg #[.int .i64 kd, .int .i64 n, .int .u32 bs, .int .u32 of, .int .u8 ty, .int .i64 8, .bool sg, .bool st, .int .u64 x, .bool may, .slice a len cap], .slice b blen bcap] w fun e w' => e = .returned (.bool true) ∧ Below w.heap.size w w' := by
  have hu2 := Try.underlying28
  have hu3 := Try.underlying24
  have hu4 := Try.underlying35
  have HSl := Aside0.mk hS
  have HL := Aside0.mk hl
  have HY := Aside0.mk hY
  have HE := Aside0.mk (show newE pages 0 false = 0 by unfold newE; rw [if_neg (by intro h; rcases h with h | ⟨h, _⟩ <;> first | omega | cases h), if_neg (by omega)])
  have HN := Aside0.mk hlen
  clear hS hl hY
  have k0 : decide (16 < pages) = false := decide_eq_false (by omega)
  have k9 : decide (100 < (blen : Int)) = false := decide_eq_false (by omega)
  obtain ⟨F, hmm, mor⟩ : ∃ F, (if bs + of < 20 then (20 : Int) else bs + of) = F + 20 ∧ ((F + 20 = bs + of ∧ 0 ≤ F) ∨ (F = 0 ∧ bs + of ≤ 20)) := ⟨(if bs + of < 20 then (20 : Int) else bs + of) - 20, by omega, by split <;> omega⟩
  have MO := Aside0.mk mor
  have F0 : 0 ≤ F := by omega
  have F2 : F ≤ bs + of := by omega
  clear mor
  by_cases hat : bs + of < 2147483648
  · have F1 : F < 4294967296 := by omega
    cases hR : hld true pages F 40 with
    | true =>
      have HR := Aside0.mk hR
      clear hR
      cases hT : hld true pages (bs + of) 8 with
      | true =>
        have HHo := Aside0.mk hT
        have HSt := Aside0.mk (show (acB 8 && hld true pages (bs + of) 8) = true by rw [hT]; rfl)
        have hvSt := Aside0.mk (show ∀ f : Nat → Int, hv (wrt (byt x) (bs + of).toNat 8 f) (bs + of).toNat 8 8 = x from fun f => (hv_wrt x x0 (bs + of).toNat 8 f).trans (by show x % 18446744073709551616 = x; omega))
        have HSh := Aside0.mk (show (x == IntKind.u64.wrap (x * 1) / 1) = true from beq_iff_eq.mpr (by simp [IntKind.wrap, IntKind.signed, IntKind.bits]; omega))
        clear hT
        go_enter Try.func3, Try.ntmps3
        go_wp2_with (first | (go_at_call 6; with_reducible refine (memAwake _).mono ?_; rintro e w1 ⟨rfl, hb⟩; have c0 : w1.cell? ⟨w.heap.size, 0, none⟩ = some (.int .i64 kd) := ((Nr.bcell hb).1 w.heap.size 0 (by simp)).trans (by simp [go_sem]); have c1 : w1.cell? ⟨w.heap.size, 1, none⟩ = some (.int .i64 n) := ((Nr.bcell hb).1 w.heap.size 1 (by simp)).trans (by simp [go_sem]); have c2 : w1.cell? ⟨w.heap.size, 2, none⟩ = some (.int .u32 bs) := ((Nr.bcell hb).1 w.heap.size 2 (by simp)).trans (by simp [go_sem]); have c3 : w1.cell? ⟨w.heap.size, 3, none⟩ = some (.int .u32 of) := ((Nr.bcell hb).1 w.heap.size 3 (by simp)).trans (by simp [go_sem]); have c4 : w1.cell? ⟨w.heap.size, 4, none⟩ = some (.int .u8 ty) := ((Nr.bcell hb).1 w.heap.size 4 (by simp)).trans (by simp [go_sem]); have c5 : w1.cell? ⟨w.heap.size, 5, none⟩ = some (.int .i64 8) := ((Nr.bcell hb).1 w.heap.size 5 (by simp)).trans (by simp [go_sem]); have c6 : w1.cell? ⟨w.heap.size, 6, none⟩ = some (.bool sg) := ((Nr.bcell hb).1 w.heap.size 6 (by simp)).trans (by simp [go_sem]); have c7 : w1.cell? ⟨w.heap.size, 7, none⟩ = some (.bool st) := ((Nr.bcell hb).1 w.heap.size 7 (by simp)).trans (by simp [go_sem]); have c8 : w1.cell? ⟨w.heap.size, 8, none⟩ = some (.int .u64 x) := ((Nr.bcell hb).1 w.heap.size 8 (by simp)).trans (by simp [go_sem]); have c9 : w1.cell? ⟨w.heap.size, 9, none⟩ = some (.bool may) := ((Nr.bcell hb).1 w.heap.size 9 (by simp)).trans (by simp [go_sem]); have c10 : w1.cell? ⟨w.heap.size, 10, none⟩ = some (.slice a len cap) := ((Nr.bcell hb).1 w.heap.size 10 (by simp)).trans (by simp [go_sem]); have Z := Aside0.mk (show w.heap.size < w1.heap.size from Nat.lt_of_lt_of_le (by simp) hb.size); have HB := Aside0.mk (show Below w.heap.size w w1 from below_step (below_alloc (Below.refl _ _) _) hb); clear hb) | (go_at_call 7; with_reducible refine (memNewOk pages 0 false _ p0 (by omega) (by decide) (by decide) HE.out).mono ?_; rintro e w2 ⟨hb, G, B, rfl, hm⟩; have kc := (Nr.bcell hb).1; replace c0 := (kc _ 0 Z.out).trans c0; replace c1 := (kc _ 1 Z.out).trans c1; replace c2 := (kc _ 2 Z.out).trans c2; replace c3 := (kc _ 3 Z.out).trans c3; replace c4 := (kc _ 4 Z.out).trans c4; replace c5 := (kc _ 5 Z.out).trans c5; replace c6 := (kc _ 6 Z.out).trans c6; replace c7 := (kc _ 7 Z.out).trans c7; replace c8 := (kc _ 8 Z.out).trans c8; replace c9 := (kc _ 9 Z.out).trans c9; replace c10 := (kc _ 10 Z.out).trans c10; have N0 : ∀ k, k ≤ w.heap.size → ¬ (w1.heap.size ≤ k) := fun k hk h => absurd (Nat.lt_of_lt_of_le Z.out h) (by omega); have N1 := Aside0.mk hb.size; replace Z := Aside0.mk (Nat.lt_of_lt_of_le Z.out hb.size); replace HB := Aside0.mk (below_step HB.out hb); have HM := Aside0.mk hm; have HF := Aside0.mk (f00); clear hb hm kc) | (go_at_call 8; with_reducible refine (memWriteAny F b l blen bcap _ HM.out (fun k hk => Nat.le_trans N1.out hk) HL.out (by omega) (HSl.out.below HB.out) (fun z e hz => by have hS' := HSl.out; rw [e] at hS'; exact N0 _ (Nat.le_of_lt (hS'.lt (by have := HL.out; omega)))) p0 (by omega) F0 F1).mono ?_; rintro e w3 ⟨rfl, ho, m', hm', hm⟩; have kb0 := ho.block w.heap.size Z.out (N0 _ (Nat.le_refl _)); replace c0 := (World.cell?_of_block (a := ⟨w.heap.size, 0, none⟩) kb0).trans c0; replace c1 := (World.cell?_of_block (a := ⟨w.heap.size, 1, none⟩) kb0).trans c1; replace c2 := (World.cell?_of_block (a := ⟨w.heap.size, 2, none⟩) kb0).trans c2; replace c3 := (World.cell?_of_block (a := ⟨w.heap.size, 3, none⟩) kb0).trans c3; replace c4 := (World.cell?_of_block (a := ⟨w.heap.size, 4, none⟩) kb0).trans c4; replace c5 := (World.cell?_of_block (a := ⟨w.heap.size, 5, none⟩) kb0).trans c5; replace c6 := (World.cell?_of_block (a := ⟨w.heap.size, 6, none⟩) kb0).trans c6; replace c7 := (World.cell?_of_block (a := ⟨w.heap.size, 7, none⟩) kb0).trans c7; replace c8 := (World.cell?_of_block (a := ⟨w.heap.size, 8, none⟩) kb0).trans c8; replace c9 := (World.cell?_of_block (a := ⟨w.heap.size, 9, none⟩) kb0).trans c9; replace c10 := (World.cell?_of_block (a := ⟨w.heap.size, 10, none⟩) kb0).trans c10; replace hm := memIfOk hm HY.out; obtain ⟨f1, hm, hf1⟩ := hm; replace N1 := Aside0.mk (Nat.le_trans N1.out ho.size); replace Z := Aside0.mk (Nat.lt_of_lt_of_le Z.out ho.size); replace HB := Aside0.mk (HB.out.trans (ho.below w.heap.size HB.out.size (fun k h => by have := N0 k; omega))); replace HM := Aside0.mk hm; replace HF := Aside0.mk hf1; clear ho hm hf1 kb0) | (go_at_call 9; have q := HC1; clear q; with_reducible refine (memRead40 F _ HM.out p0 (by omega) F0 F1 HR.out).mono ?_; rintro e w6 ⟨rfl, hb, hz, hc⟩; have kc := (Nr.bcell hb).1; replace c0 := (kc _ 0 Z.out).trans c0; replace c1 := (kc _ 1 Z.out).trans c1; replace c2 := (kc _ 2 Z.out).trans c2; replace c3 := (kc _ 3 Z.out).trans c3; replace c4 := (kc _ 4 Z.out).trans c4; replace c5 := (kc _ 5 Z.out).trans c5; replace c6 := (kc _ 6 Z.out).trans c6; replace c7 := (kc _ 7 Z.out).trans c7; replace c8 := (kc _ 8 Z.out).trans c8; replace c9 := (kc _ 9 Z.out).trans c9; replace c10 := (kc _ 10 Z.out).trans c10; replace HM := Aside0.mk (HM.out.below hb); replace HC1 := Aside0.mk (fun (i : Nat) (hi : i < 40) => (kc _ i Z1.out).trans (HC1.out i hi)); replace Z := Aside0.mk (Nat.lt_of_lt_of_le Z.out hb.size); replace HB := Aside0.mk (below_step HB.out hb); have HC2 := Aside0.mk hc; clear hb hz hc kc) | (go_at_call 9; with_reducible refine (memRead40 F _ HM.out p0 (by omega) F0 F1 HR.out).mono ?_; rintro e w4 ⟨rfl, hb, hz, hc⟩; have kc := (Nr.bcell hb).1; replace c0 := (kc _ 0 Z.out).trans c0; replace c1 := (kc _ 1 Z.out).trans c1; replace c2 := (kc _ 2 Z.out).trans c2; replace c3 := (kc _ 3 Z.out).trans c3; replace c4 := (kc _ 4 Z.out).trans c4; replace c5 := (kc _ 5 Z.out).trans c5; replace c6 := (kc _ 6 Z.out).trans c6; replace c7 := (kc _ 7 Z.out).trans c7; replace c8 := (kc _ 8 Z.out).trans c8; replace c9 := (kc _ 9 Z.out).trans c9; replace c10 := (kc _ 10 Z.out).trans c10; have NR := Aside0.mk (show w.heap.size < w3.heap.size from Z.out); have M1 := Aside0.mk (show w1.heap.size ≤ w3.heap.size from N1.out); replace HM := Aside0.mk ((HM.out.wider (M' := fun k => w1.heap.size ≤ k ∧ k ≠ w3.heap.size) (fun k hk h => ⟨h, Nat.ne_of_lt hk⟩)).below hb); replace N1 := Aside0.mk (Nat.le_trans N1.out hb.size); replace Z := Aside0.mk (Nat.lt_of_lt_of_le Z.out hb.size); replace HB := Aside0.mk (below_step HB.out hb); have HC1 := Aside0.mk hc; have Z1 := Aside0.mk hz; clear hb hz hc kc) | (go_at_call 10; with_reducible refine (storeK8 bs of ty sg st x _ HM.out (fun k hk => ⟨Nat.le_trans N1.out hk, Nat.ne_of_gt (Nat.lt_of_lt_of_le Z1.out hk)⟩) (by have := HN.out; omega) p0 (by omega) a0 a1 b0 b1 x0 x1 HSt.out).mono ?_; rintro e w5 ⟨rfl, ho, hm⟩; have kb0 := ho.block w.heap.size Z.out (fun h => absurd h.1 (N0 _ (Nat.le_refl _))); replace c0 := (World.cell?_of_block (a := ⟨w.heap.size, 0, none⟩) kb0).trans c0; replace c1 := (World.cell?_of_block (a := ⟨w.heap.size, 1, none⟩) kb0).trans c1; replace c2 := (World.cell?_of_block (a := ⟨w.heap.size, 2, none⟩) kb0).trans c2; replace c3 := (World.cell?_of_block (a := ⟨w.heap.size, 3, none⟩) kb0).trans c3; replace c4 := (World.cell?_of_block (a := ⟨w.heap.size, 4, none⟩) kb0).trans c4; replace c5 := (World.cell?_of_block (a := ⟨w.heap.size, 5, none⟩) kb0).trans c5; replace c6 := (World.cell?_of_block (a := ⟨w.heap.size, 6, none⟩) kb0).trans c6; replace c7 := (World.cell?_of_block (a := ⟨w.heap.size, 7, none⟩) kb0).trans c7; replace c8 := (World.cell?_of_block (a := ⟨w.heap.size, 8, none⟩) kb0).trans c8; replace c9 := (World.cell?_of_block (a := ⟨w.heap.size, 9, none⟩) kb0).trans c9; replace c10 := (World.cell?_of_block (a := ⟨w.heap.size, 10, none⟩) kb0).trans c10; have kb1 := ho.block w3.heap.size Z1.out (fun h => absurd rfl h.2); replace HC1 := Aside0.mk (fun (i : Nat) (hi : i < 40) => (World.cell?_of_block (a := ⟨w3.heap.size, i, none⟩) kb1).trans (HC1.out i hi)); clear kb1; replace Z1 := Aside0.mk (Nat.lt_of_lt_of_le Z1.out ho.size); replace Z := Aside0.mk (Nat.lt_of_lt_of_le Z.out ho.size); replace HB := Aside0.mk (HB.out.trans (ho.below w.heap.size HB.out.size (fun k h => by have := N0 k; omega))); replace HM := Aside0.mk hm; replace HF := Aside0.mk (wrt_ok (byt_ok x) HF.out (bs + of).toNat 8); clear ho hm kb0) | (go_at_call 11; with_reducible refine (memHolds (.pointer (some ⟨G, 0, none⟩)) true pages (bs + of) 8 _ HM.out.is p0 (by omega) (by omega) (by omega) (by decide) (by decide)).mono ?_; rintro e wp ⟨rfl, hwp⟩; obtain rfl := hwp.symm; rw [HHo.out]))
        go_loopg [127] 40 (fun k v127 w' => ∃ i : Nat, v127 = .int .i64 (i : Int) ∧ Aside0 (k + i = 40) ∧ Aside0 (w'.cell? ⟨w.heap.size, 2, none⟩ = some (.int .u32 bs) ∧ w'.cell? ⟨w.heap.size, 3, none⟩ = some (.int .u32 of) ∧ w'.cell? ⟨w.heap.size, 5, none⟩ = some (.int .i64 8) ∧ w'.cell? ⟨w.heap.size, 8, none⟩ = some (.int .u64 x) ∧ (∀ i : Nat, i < 40 → w'.cell? ⟨w3.heap.size, i, none⟩ = some (.int .u8 (f1 (F.toNat + i)))) ∧ (∀ i : Nat, i < 40 → w'.cell? ⟨w5.heap.size, i, none⟩ = some (.int .u8 ((wrt (byt x) (bs + of).toNat 8 f1) (F.toNat + i)))) ∧ Mem w' (fun k => w1.heap.size ≤ k ∧ k ≠ w3.heap.size) G B (m' + 8) pages 0 false (wrt (byt x) (bs + of).toNat 8 f1) ∧ w.heap.size < w'.heap.size ∧ Below w.heap.size w w'))
        case atStart => exact ⟨0, rfl, ⟨rfl⟩, ⟨c2, c3, c5, c8, HC1.out, HC2.out, HM.out, Z.out, HB.out⟩⟩
        case round =>
          clear HC1 HC2 HM Z HB c0 c1 c2 c3 c4 c5 c6 c7 c8 c9 c10
          obtain ⟨i, rfl, hk, HI⟩ := hrel
          have hk' := hk.out
          obtain ⟨c2, c3, c5, c8, HC1, HC2, HM, Z, HB⟩ := HI.out
          replace HC1 := Aside0.mk HC1; replace HC2 := Aside0.mk HC2; replace HM := Aside0.mk HM; replace Z := Aside0.mk Z; replace HB := Aside0.mk HB
          obtain _ | kr := gk
          · have c : ¬ (i : Int) < 40 := by omega
            have e2 : ∀ o, (wr.alloc o).cell? ⟨w.heap.size, 2, none⟩ = some (.int .u32 bs) := fun o => (World.cell?_of_block (w := wr) (Below.heap_alloc _ _ _ Z.out)).trans c2; have e3 : ∀ o, (wr.alloc o).cell? ⟨w.heap.size, 3, none⟩ = some (.int .u32 of) := fun o => (World.cell?_of_block (w := wr) (Below.heap_alloc _ _ _ Z.out)).trans c3; have e5 : ∀ o, (wr.alloc o).cell? ⟨w.heap.size, 5, none⟩ = some (.int .i64 8) := fun o => (World.cell?_of_block (w := wr) (Below.heap_alloc _ _ _ Z.out)).trans c5; have e8 : ∀ o, (wr.alloc o).cell? ⟨w.heap.size, 8, none⟩ = some (.int .u64 x) := fun o => (World.cell?_of_block (w := wr) (Below.heap_alloc _ _ _ Z.out)).trans c8
            go_wp2_with (first | (go_at_call 12; with_reducible refine (loadK8 bs of _ (HM.out.below (below_alloc (Below.refl _ _) _)) HF.out p0 (by omega) a0 a1 b0 b1 HSt.out).mono ?_; rintro e w7 ⟨rfl, hb⟩; replace HB := Aside0.mk (below_step (below_alloc HB.out _) hb); have g8 := ((Nr.bcell hb).1 w.heap.size 8 (by simp; exact Nat.lt_succ_of_lt Z.out)).trans (e8 _); have g5 := ((Nr.bcell hb).1 w.heap.size 5 (by simp; exact Nat.lt_succ_of_lt Z.out)).trans (e5 _); clear hb; rw [hvSt.out]))
            all_goals go_region
            all_goals go_wp2
            all_goals (go_ret; first | exact ⟨rfl, HB.out⟩ | exact ⟨rfl, HB.out.drew⟩ | (refine ⟨?_, by first | exact HB.out | exact HB.out.drew⟩; exact congrArg (fun z => Ending.returned (Value.bool z)) HSh.out))
          · have c : (i : Int) < 40 := by omega
            have i0 : 0 ≤ (i : Int) := by omega
            have d1 := HC1.out i (by omega)
            have d2 := HC2.out i (by omega)
            by_cases k1 : bs + of ≤ F + (i : Int)
            · by_cases k2 : F + (i : Int) < bs + of + 8
              · obtain ⟨j, hj, jl⟩ : ∃ j : Nat, F + (i : Int) = bs + of + (j : Int) ∧ j < 8 := ⟨(F + i - (bs + of)).toNat, by omega, by omega⟩
                rw [wrt_in (byt x) _ _ _ _ j (by omega) (by omega)] at d2
                have D2 := Aside0.mk d2
                clear hmm k1 k2 d2
                by_cases jq : j = 0
                · subst jq
                  have d2 : wr.cell? ⟨w5.heap.size, i, none⟩ = some (.int .u8 (x % 256)) := D2.out.trans (by unfold byt; simp)
                  replace hj : F + (i : Int) = bs + of := by omega
                  have kq1 : bs + of ≤ bs + of := by omega
                  have kq2 : bs + of < bs + of + 8 := by omega
                  clear D2
                  go_wp2
                  go_big_region
                  go_wp2
                  all_goals (go_roundg kr; (case measure => omega); (case rel => exact ⟨i + 1, rfl, ⟨by omega⟩, ⟨c2, c3, c5, c8, HC1.out, HC2.out, Mem.drew HM.out, Z.out, HB.out.drew⟩⟩))
                by_cases jq : j = 1
                · subst jq
                  have d2 : wr.cell? ⟨w5.heap.size, i, none⟩ = some (.int .u8 (x / 256 % 256)) := D2.out
                  replace hj : F + (i : Int) = bs + of + 1 := by omega
                  have kq1 : bs + of ≤ bs + of + 1 := by omega
                  have kq2 : bs + of + 1 < bs + of + 8 := by omega
                  have kq3 : bs + of + 1 - (bs + of) = 1 := by omega
                  clear D2
                  go_wp2
                  go_big_region
                  go_wp2
                  all_goals (go_roundg kr; (case measure => omega); (case rel => exact ⟨i + 1, rfl, ⟨by omega⟩, ⟨c2, c3, c5, c8, HC1.out, HC2.out, Mem.drew HM.out, Z.out, HB.out.drew⟩⟩))
                by_cases jq : j = 2
                · subst jq
                  have d2 : wr.cell? ⟨w5.heap.size, i, none⟩ = some (.int .u8 (x / 65536 % 256)) := D2.out
                  replace hj : F + (i : Int) = bs + of + 2 := by omega
                  have kq1 : bs + of ≤ bs + of + 2 := by omega
                  have kq2 : bs + of + 2 < bs + of + 8 := by omega
                  have kq3 : bs + of + 2 - (bs + of) = 2 := by omega
                  clear D2
                  go_wp2
                  go_big_region
                  go_wp2
                  all_goals (go_roundg kr; (case measure => omega); (case rel => exact ⟨i + 1, rfl, ⟨by omega⟩, ⟨c2, c3, c5, c8, HC1.out, HC2.out, Mem.drew HM.out, Z.out, HB.out.drew⟩⟩))
                by_cases jq : j = 3
                · subst jq
                  have d2 : wr.cell? ⟨w5.heap.size, i, none⟩ = some (.int .u8 (x / 16777216 % 256)) := D2.out
                  replace hj : F + (i : Int) = bs + of + 3 := by omega
                  have kq1 : bs + of ≤ bs + of + 3 := by omega
                  have kq2 : bs + of + 3 < bs + of + 8 := by omega
                  have kq3 : bs + of + 3 - (bs + of) = 3 := by omega
                  clear D2
                  go_wp2
                  go_big_region
                  go_wp2
                  all_goals (go_roundg kr; (case measure => omega); (case rel => exact ⟨i + 1, rfl, ⟨by omega⟩, ⟨c2, c3, c5, c8, HC1.out, HC2.out, Mem.drew HM.out, Z.out, HB.out.drew⟩⟩))
                by_cases jq : j = 4
                · subst jq
                  have d2 : wr.cell? ⟨w5.heap.size, i, none⟩ = some (.int .u8 (x / 4294967296 % 256)) := D2.out
                  replace hj : F + (i : Int) = bs + of + 4 := by omega
                  have kq1 : bs + of ≤ bs + of + 4 := by omega
                  have kq2 : bs + of + 4 < bs + of + 8 := by omega
                  have kq3 : bs + of + 4 - (bs + of) = 4 := by omega
                  clear D2
                  go_wp2
                  go_big_region
                  go_wp2
                  all_goals (go_roundg kr; (case measure => omega); (case rel => exact ⟨i + 1, rfl, ⟨by omega⟩, ⟨c2, c3, c5, c8, HC1.out, HC2.out, Mem.drew HM.out, Z.out, HB.out.drew⟩⟩))
                by_cases jq : j = 5
                · subst jq
                  have d2 : wr.cell? ⟨w5.heap.size, i, none⟩ = some (.int .u8 (x / 1099511627776 % 256)) := D2.out
                  replace hj : F + (i : Int) = bs + of + 5 := by omega
                  have kq1 : bs + of ≤ bs + of + 5 := by omega
                  have kq2 : bs + of + 5 < bs + of + 8 := by omega
                  have kq3 : bs + of + 5 - (bs + of) = 5 := by omega
                  clear D2
                  go_wp2
                  go_big_region
                  go_wp2
                  all_goals (go_roundg kr; (case measure => omega); (case rel => exact ⟨i + 1, rfl, ⟨by omega⟩, ⟨c2, c3, c5, c8, HC1.out, HC2.out, Mem.drew HM.out, Z.out, HB.out.drew⟩⟩))
                by_cases jq : j = 6
                · subst jq
                  have d2 : wr.cell? ⟨w5.heap.size, i, none⟩ = some (.int .u8 (x / 281474976710656 % 256)) := D2.out
                  replace hj : F + (i : Int) = bs + of + 6 := by omega
                  have kq1 : bs + of ≤ bs + of + 6 := by omega
                  have kq2 : bs + of + 6 < bs + of + 8 := by omega
                  have kq3 : bs + of + 6 - (bs + of) = 6 := by omega
                  clear D2
                  go_wp2
                  go_big_region
                  go_wp2
                  all_goals (go_roundg kr; (case measure => omega); (case rel => exact ⟨i + 1, rfl, ⟨by omega⟩, ⟨c2, c3, c5, c8, HC1.out, HC2.out, Mem.drew HM.out, Z.out, HB.out.drew⟩⟩))
                · obtain rfl : j = 7 := by omega
                  have d2 : wr.cell? ⟨w5.heap.size, i, none⟩ = some (.int .u8 (x / 72057594037927936)) := D2.out.trans (by rw [show byt x 7 = x / 72057594037927936 from by show x / 72057594037927936 % 256 = _; omega])
                  replace hj : F + (i : Int) = bs + of + 7 := by omega
                  have kq1 : bs + of ≤ bs + of + 7 := by omega
                  have kq2 : bs + of + 7 < bs + of + 8 := by omega
                  have kq3 : bs + of + 7 - (bs + of) = 7 := by omega
                  clear D2
                  go_wp2
                  go_big_region
                  go_wp2
                  all_goals (go_roundg kr; (case measure => omega); (case rel => exact ⟨i + 1, rfl, ⟨by omega⟩, ⟨c2, c3, c5, c8, HC1.out, HC2.out, Mem.drew HM.out, Z.out, HB.out.drew⟩⟩))
              · rw [wrt_out (byt x) _ _ _ _ (by omega)] at d2
                go_wp2
                go_region
                go_wp2
                go_roundg kr; (case measure => omega); (case rel => exact ⟨i + 1, rfl, ⟨by omega⟩, ⟨c2, c3, c5, c8, HC1.out, HC2.out, Mem.drew HM.out, Z.out, HB.out.drew⟩⟩)
            · rw [wrt_out (byt x) _ _ _ _ (by omega)] at d2
              go_wp2
              go_region
              go_wp2
              go_roundg kr; (case measure => omega); (case rel => exact ⟨i + 1, rfl, ⟨by omega⟩, ⟨c2, c3, c5, c8, HC1.out, HC2.out, Mem.drew HM.out, Z.out, HB.out.drew⟩⟩)
      | false =>
        have HHo := Aside0.mk hT
        have HSt := Aside0.mk (show (acB 8 && hld true pages (bs + of) 8) = false by rw [hT]; rfl)
        clear hT
        go_enter Try.func3, Try.ntmps3
        go_wp2_with (first | (go_at_call 6; with_reducible refine (memAwake _).mono ?_; rintro e w1 ⟨rfl, hb⟩; have c0 : w1.cell? ⟨w.heap.size, 0, none⟩ = some (.int .i64 kd) := ((Nr.bcell hb).1 w.heap.size 0 (by simp)).trans (by simp [go_sem]); have c1 : w1.cell? ⟨w.heap.size, 1, none⟩ = some (.int .i64 n) := ((Nr.bcell hb).1 w.heap.size 1 (by simp)).trans (by simp [go_sem]); have c2 : w1.cell? ⟨w.heap.size, 2, none⟩ = some (.int .u32 bs) := ((Nr.bcell hb).1 w.heap.size 2 (by simp)).trans (by simp [go_sem]); have c3 : w1.cell? ⟨w.heap.size, 3, none⟩ = some (.int .u32 of) := ((Nr.bcell hb).1 w.heap.size 3 (by simp)).trans (by simp [go_sem]); have c4 : w1.cell? ⟨w.heap.size, 4, none⟩ = some (.int .u8 ty) := ((Nr.bcell hb).1 w.heap.size 4 (by simp)).trans (by simp [go_sem]); have c5 : w1.cell? ⟨w.heap.size, 5, none⟩ = some (.int .i64 8) := ((Nr.bcell hb).1 w.heap.size 5 (by simp)).trans (by simp [go_sem]); have c6 : w1.cell? ⟨w.heap.size, 6, none⟩ = some (.bool sg) := ((Nr.bcell hb).1 w.heap.size 6 (by simp)).trans (by simp [go_sem]); have c7 : w1.cell? ⟨w.heap.size, 7, none⟩ = some (.bool st) := ((Nr.bcell hb).1 w.heap.size 7 (by simp)).trans (by simp [go_sem]); have c8 : w1.cell? ⟨w.heap.size, 8, none⟩ = some (.int .u64 x) := ((Nr.bcell hb).1 w.heap.size 8 (by simp)).trans (by simp [go_sem]); have c9 : w1.cell? ⟨w.heap.size, 9, none⟩ = some (.bool may) := ((Nr.bcell hb).1 w.heap.size 9 (by simp)).trans (by simp [go_sem]); have c10 : w1.cell? ⟨w.heap.size, 10, none⟩ = some (.slice a len cap) := ((Nr.bcell hb).1 w.heap.size 10 (by simp)).trans (by simp [go_sem]); have Z := Aside0.mk (show w.heap.size < w1.heap.size from Nat.lt_of_lt_of_le (by simp) hb.size); have HB := Aside0.mk (show Below w.heap.size w w1 from below_step (below_alloc (Below.refl _ _) _) hb); clear hb) | (go_at_call 7; with_reducible refine (memNewOk pages 0 false _ p0 (by omega) (by decide) (by decide) HE.out).mono ?_; rintro e w2 ⟨hb, G, B, rfl, hm⟩; have kc := (Nr.bcell hb).1; replace c0 := (kc _ 0 Z.out).trans c0; replace c1 := (kc _ 1 Z.out).trans c1; replace c2 := (kc _ 2 Z.out).trans c2; replace c3 := (kc _ 3 Z.out).trans c3; replace c4 := (kc _ 4 Z.out).trans c4; replace c5 := (kc _ 5 Z.out).trans c5; replace c6 := (kc _ 6 Z.out).trans c6; replace c7 := (kc _ 7 Z.out).trans c7; replace c8 := (kc _ 8 Z.out).trans c8; replace c9 := (kc _ 9 Z.out).trans c9; replace c10 := (kc _ 10 Z.out).trans c10; have N0 : ∀ k, k ≤ w.heap.size → ¬ (w1.heap.size ≤ k) := fun k hk h => absurd (Nat.lt_of_lt_of_le Z.out h) (by omega); have N1 := Aside0.mk hb.size; replace Z := Aside0.mk (Nat.lt_of_lt_of_le Z.out hb.size); replace HB := Aside0.mk (below_step HB.out hb); have HM := Aside0.mk hm; have HF := Aside0.mk (f00); clear hb hm kc) | (go_at_call 8; with_reducible refine (memWriteAny F b l blen bcap _ HM.out (fun k hk => Nat.le_trans N1.out hk) HL.out (by omega) (HSl.out.below HB.out) (fun z e hz => by have hS' := HSl.out; rw [e] at hS'; exact N0 _ (Nat.le_of_lt (hS'.lt (by have := HL.out; omega)))) p0 (by omega) F0 F1).mono ?_; rintro e w3 ⟨rfl, ho, m', hm', hm⟩; have kb0 := ho.block w.heap.size Z.out (N0 _ (Nat.le_refl _)); replace c0 := (World.cell?_of_block (a := ⟨w.heap.size, 0, none⟩) kb0).trans c0; replace c1 := (World.cell?_of_block (a := ⟨w.heap.size, 1, none⟩) kb0).trans c1; replace c2 := (World.cell?_of_block (a := ⟨w.heap.size, 2, none⟩) kb0).trans c2; replace c3 := (World.cell?_of_block (a := ⟨w.heap.size, 3, none⟩) kb0).trans c3; replace c4 := (World.cell?_of_block (a := ⟨w.heap.size, 4, none⟩) kb0).trans c4; replace c5 := (World.cell?_of_block (a := ⟨w.heap.size, 5, none⟩) kb0).trans c5; replace c6 := (World.cell?_of_block (a := ⟨w.heap.size, 6, none⟩) kb0).trans c6; replace c7 := (World.cell?_of_block (a := ⟨w.heap.size, 7, none⟩) kb0).trans c7; replace c8 := (World.cell?_of_block (a := ⟨w.heap.size, 8, none⟩) kb0).trans c8; replace c9 := (World.cell?_of_block (a := ⟨w.heap.size, 9, none⟩) kb0).trans c9; replace c10 := (World.cell?_of_block (a := ⟨w.heap.size, 10, none⟩) kb0).trans c10; replace hm := memIfOk hm HY.out; obtain ⟨f1, hm, hf1⟩ := hm; replace N1 := Aside0.mk (Nat.le_trans N1.out ho.size); replace Z := Aside0.mk (Nat.lt_of_lt_of_le Z.out ho.size); replace HB := Aside0.mk (HB.out.trans (ho.below w.heap.size HB.out.size (fun k h => by have := N0 k; omega))); replace HM := Aside0.mk hm; replace HF := Aside0.mk hf1; clear ho hm hf1 kb0) | (go_at_call 9; have q := HC1; clear q; with_reducible refine (memRead40 F _ HM.out p0 (by omega) F0 F1 HR.out).mono ?_; rintro e w6 ⟨rfl, hb, hz, hc⟩; have kc := (Nr.bcell hb).1; replace c0 := (kc _ 0 Z.out).trans c0; replace c1 := (kc _ 1 Z.out).trans c1; replace c2 := (kc _ 2 Z.out).trans c2; replace c3 := (kc _ 3 Z.out).trans c3; replace c4 := (kc _ 4 Z.out).trans c4; replace c5 := (kc _ 5 Z.out).trans c5; replace c6 := (kc _ 6 Z.out).trans c6; replace c7 := (kc _ 7 Z.out).trans c7; replace c8 := (kc _ 8 Z.out).trans c8; replace c9 := (kc _ 9 Z.out).trans c9; replace c10 := (kc _ 10 Z.out).trans c10; replace HM := Aside0.mk (HM.out.below hb); replace HC1 := Aside0.mk (fun (i : Nat) (hi : i < 40) => (kc _ i Z1.out).trans (HC1.out i hi)); replace Z := Aside0.mk (Nat.lt_of_lt_of_le Z.out hb.size); replace HB := Aside0.mk (below_step HB.out hb); have HC2 := Aside0.mk hc; clear hb hz hc kc) | (go_at_call 9; with_reducible refine (memRead40 F _ HM.out p0 (by omega) F0 F1 HR.out).mono ?_; rintro e w4 ⟨rfl, hb, hz, hc⟩; have kc := (Nr.bcell hb).1; replace c0 := (kc _ 0 Z.out).trans c0; replace c1 := (kc _ 1 Z.out).trans c1; replace c2 := (kc _ 2 Z.out).trans c2; replace c3 := (kc _ 3 Z.out).trans c3; replace c4 := (kc _ 4 Z.out).trans c4; replace c5 := (kc _ 5 Z.out).trans c5; replace c6 := (kc _ 6 Z.out).trans c6; replace c7 := (kc _ 7 Z.out).trans c7; replace c8 := (kc _ 8 Z.out).trans c8; replace c9 := (kc _ 9 Z.out).trans c9; replace c10 := (kc _ 10 Z.out).trans c10; have NR := Aside0.mk (show w.heap.size < w3.heap.size from Z.out); have M1 := Aside0.mk (show w1.heap.size ≤ w3.heap.size from N1.out); replace HM := Aside0.mk ((HM.out.wider (M' := fun k => w1.heap.size ≤ k ∧ k ≠ w3.heap.size) (fun k hk h => ⟨h, Nat.ne_of_lt hk⟩)).below hb); replace N1 := Aside0.mk (Nat.le_trans N1.out hb.size); replace Z := Aside0.mk (Nat.lt_of_lt_of_le Z.out hb.size); replace HB := Aside0.mk (below_step HB.out hb); have HC1 := Aside0.mk hc; have Z1 := Aside0.mk hz; clear hb hz hc kc) | (go_at_call 10; with_reducible refine (memStoreNo (.pointer (some ⟨G, 0, none⟩)) true pages bs of 8 ty sg st x _ HM.out.is p0 (by omega) a0 a1 b0 b1 (by decide) (by decide) HSt.out).mono ?_; rintro e w5 ⟨rfl, hb⟩; have kc := (Nr.bcell hb).1; replace c0 := (kc _ 0 Z.out).trans c0; replace c1 := (kc _ 1 Z.out).trans c1; replace c2 := (kc _ 2 Z.out).trans c2; replace c3 := (kc _ 3 Z.out).trans c3; replace c4 := (kc _ 4 Z.out).trans c4; replace c5 := (kc _ 5 Z.out).trans c5; replace c6 := (kc _ 6 Z.out).trans c6; replace c7 := (kc _ 7 Z.out).trans c7; replace c8 := (kc _ 8 Z.out).trans c8; replace c9 := (kc _ 9 Z.out).trans c9; replace c10 := (kc _ 10 Z.out).trans c10; replace HC1 := Aside0.mk (fun (i : Nat) (hi : i < 40) => (kc _ i Z1.out).trans (HC1.out i hi)); replace Z1 := Aside0.mk (Nat.lt_of_lt_of_le Z1.out hb.size); replace Z := Aside0.mk (Nat.lt_of_lt_of_le Z.out hb.size); replace HB := Aside0.mk (below_step HB.out hb); replace HM := Aside0.mk (HM.out.below hb); clear hb kc) | (go_at_call 11; with_reducible refine (memHolds (.pointer (some ⟨G, 0, none⟩)) true pages (bs + of) 8 _ HM.out.is p0 (by omega) (by omega) (by omega) (by decide) (by decide)).mono ?_; rintro e wp ⟨rfl, hwp⟩; obtain rfl := hwp.symm; rw [HHo.out]))
        go_loopg [127] 40 (fun k v127 w' => ∃ i : Nat, v127 = .int .i64 (i : Int) ∧ Aside0 (k + i = 40) ∧ Aside0 (w'.cell? ⟨w.heap.size, 2, none⟩ = some (.int .u32 bs) ∧ w'.cell? ⟨w.heap.size, 3, none⟩ = some (.int .u32 of) ∧ w'.cell? ⟨w.heap.size, 5, none⟩ = some (.int .i64 8) ∧ w'.cell? ⟨w.heap.size, 8, none⟩ = some (.int .u64 x) ∧ (∀ i : Nat, i < 40 → w'.cell? ⟨w3.heap.size, i, none⟩ = some (.int .u8 (f1 (F.toNat + i)))) ∧ (∀ i : Nat, i < 40 → w'.cell? ⟨w5.heap.size, i, none⟩ = some (.int .u8 (f1 (F.toNat + i)))) ∧ Mem w' (fun k => w1.heap.size ≤ k ∧ k ≠ w3.heap.size) G B m' pages 0 false f1 ∧ w.heap.size < w'.heap.size ∧ Below w.heap.size w w'))
        case atStart => exact ⟨0, rfl, ⟨rfl⟩, ⟨c2, c3, c5, c8, HC1.out, HC2.out, HM.out, Z.out, HB.out⟩⟩
        case round =>
          clear HC1 HC2 HM Z HB c0 c1 c2 c3 c4 c5 c6 c7 c8 c9 c10
          obtain ⟨i, rfl, hk, HI⟩ := hrel
          have hk' := hk.out
          obtain ⟨c2, c3, c5, c8, HC1, HC2, HM, Z, HB⟩ := HI.out
          replace HC1 := Aside0.mk HC1; replace HC2 := Aside0.mk HC2; replace HM := Aside0.mk HM; replace Z := Aside0.mk Z; replace HB := Aside0.mk HB
          obtain _ | kr := gk
          · have c : ¬ (i : Int) < 40 := by omega
            have e2 : ∀ o, (wr.alloc o).cell? ⟨w.heap.size, 2, none⟩ = some (.int .u32 bs) := fun o => (World.cell?_of_block (w := wr) (Below.heap_alloc _ _ _ Z.out)).trans c2; have e3 : ∀ o, (wr.alloc o).cell? ⟨w.heap.size, 3, none⟩ = some (.int .u32 of) := fun o => (World.cell?_of_block (w := wr) (Below.heap_alloc _ _ _ Z.out)).trans c3; have e5 : ∀ o, (wr.alloc o).cell? ⟨w.heap.size, 5, none⟩ = some (.int .i64 8) := fun o => (World.cell?_of_block (w := wr) (Below.heap_alloc _ _ _ Z.out)).trans c5; have e8 : ∀ o, (wr.alloc o).cell? ⟨w.heap.size, 8, none⟩ = some (.int .u64 x) := fun o => (World.cell?_of_block (w := wr) (Below.heap_alloc _ _ _ Z.out)).trans c8
            go_wp2_with (first | (go_at_call 12; with_reducible refine (memLoadNo (.pointer (some ⟨G, 0, none⟩)) true pages bs of 8 126 false false _ (HM.out.is.below (below_alloc (Below.refl _ _) _)) p0 (by omega) a0 a1 b0 b1 (by decide) (by decide) HSt.out).mono ?_; rintro e w7 ⟨rfl, hb⟩; replace HB := Aside0.mk (below_step (below_alloc HB.out _) hb); have g8 := ((Nr.bcell hb).1 w.heap.size 8 (by simp; exact Nat.lt_succ_of_lt Z.out)).trans (e8 _); have g5 := ((Nr.bcell hb).1 w.heap.size 5 (by simp; exact Nat.lt_succ_of_lt Z.out)).trans (e5 _); clear hb))
            all_goals (go_ret; exact ⟨rfl, HB.out⟩)
          · have c : (i : Int) < 40 := by omega
            have i0 : 0 ≤ (i : Int) := by omega
            have d1 := HC1.out i (by omega)
            have d2 := HC2.out i (by omega)
            go_wp2
            go_region
            go_wp2
            go_roundg kr; (case measure => omega); (case rel => exact ⟨i + 1, rfl, ⟨by omega⟩, ⟨c2, c3, c5, c8, HC1.out, HC2.out, Mem.drew HM.out, Z.out, HB.out.drew⟩⟩)
    | false =>
      have HR := Aside0.mk hR
      clear hR
      cases hT : hld true pages (bs + of) 8 with
      | true =>
        have HHo := Aside0.mk hT
        have HSt := Aside0.mk (show (acB 8 && hld true pages (bs + of) 8) = true by rw [hT]; rfl)
        have hvSt := Aside0.mk (show ∀ f : Nat → Int, hv (wrt (byt x) (bs + of).toNat 8 f) (bs + of).toNat 8 8 = x from fun f => (hv_wrt x x0 (bs + of).toNat 8 f).trans (by show x % 18446744073709551616 = x; omega))
        have HSh := Aside0.mk (show (x == IntKind.u64.wrap (x * 1) / 1) = true from beq_iff_eq.mpr (by simp [IntKind.wrap, IntKind.signed, IntKind.bits]; omega))
        clear hT
        go_enter Try.func3, Try.ntmps3
        go_wp2_with (first | (go_at_call 6; with_reducible refine (memAwake _).mono ?_; rintro e w1 ⟨rfl, hb⟩; have c0 : w1.cell? ⟨w.heap.size, 0, none⟩ = some (.int .i64 kd) := ((Nr.bcell hb).1 w.heap.size 0 (by simp)).trans (by simp [go_sem]); have c1 : w1.cell? ⟨w.heap.size, 1, none⟩ = some (.int .i64 n) := ((Nr.bcell hb).1 w.heap.size 1 (by simp)).trans (by simp [go_sem]); have c2 : w1.cell? ⟨w.heap.size, 2, none⟩ = some (.int .u32 bs) := ((Nr.bcell hb).1 w.heap.size 2 (by simp)).trans (by simp [go_sem]); have c3 : w1.cell? ⟨w.heap.size, 3, none⟩ = some (.int .u32 of) := ((Nr.bcell hb).1 w.heap.size 3 (by simp)).trans (by simp [go_sem]); have c4 : w1.cell? ⟨w.heap.size, 4, none⟩ = some (.int .u8 ty) := ((Nr.bcell hb).1 w.heap.size 4 (by simp)).trans (by simp [go_sem]); have c5 : w1.cell? ⟨w.heap.size, 5, none⟩ = some (.int .i64 8) := ((Nr.bcell hb).1 w.heap.size 5 (by simp)).trans (by simp [go_sem]); have c6 : w1.cell? ⟨w.heap.size, 6, none⟩ = some (.bool sg) := ((Nr.bcell hb).1 w.heap.size 6 (by simp)).trans (by simp [go_sem]); have c7 : w1.cell? ⟨w.heap.size, 7, none⟩ = some (.bool st) := ((Nr.bcell hb).1 w.heap.size 7 (by simp)).trans (by simp [go_sem]); have c8 : w1.cell? ⟨w.heap.size, 8, none⟩ = some (.int .u64 x) := ((Nr.bcell hb).1 w.heap.size 8 (by simp)).trans (by simp [go_sem]); have c9 : w1.cell? ⟨w.heap.size, 9, none⟩ = some (.bool may) := ((Nr.bcell hb).1 w.heap.size 9 (by simp)).trans (by simp [go_sem]); have c10 : w1.cell? ⟨w.heap.size, 10, none⟩ = some (.slice a len cap) := ((Nr.bcell hb).1 w.heap.size 10 (by simp)).trans (by simp [go_sem]); have Z := Aside0.mk (show w.heap.size < w1.heap.size from Nat.lt_of_lt_of_le (by simp) hb.size); have HB := Aside0.mk (show Below w.heap.size w w1 from below_step (below_alloc (Below.refl _ _) _) hb); clear hb) | (go_at_call 7; with_reducible refine (memNewOk pages 0 false _ p0 (by omega) (by decide) (by decide) HE.out).mono ?_; rintro e w2 ⟨hb, G, B, rfl, hm⟩; have kc := (Nr.bcell hb).1; replace c0 := (kc _ 0 Z.out).trans c0; replace c1 := (kc _ 1 Z.out).trans c1; replace c2 := (kc _ 2 Z.out).trans c2; replace c3 := (kc _ 3 Z.out).trans c3; replace c4 := (kc _ 4 Z.out).trans c4; replace c5 := (kc _ 5 Z.out).trans c5; replace c6 := (kc _ 6 Z.out).trans c6; replace c7 := (kc _ 7 Z.out).trans c7; replace c8 := (kc _ 8 Z.out).trans c8; replace c9 := (kc _ 9 Z.out).trans c9; replace c10 := (kc _ 10 Z.out).trans c10; have N0 : ∀ k, k ≤ w.heap.size → ¬ (w1.heap.size ≤ k) := fun k hk h => absurd (Nat.lt_of_lt_of_le Z.out h) (by omega); have N1 := Aside0.mk hb.size; replace Z := Aside0.mk (Nat.lt_of_lt_of_le Z.out hb.size); replace HB := Aside0.mk (below_step HB.out hb); have HM := Aside0.mk hm; have HF := Aside0.mk (f00); clear hb hm kc) | (go_at_call 8; with_reducible refine (memWriteAny F b l blen bcap _ HM.out (fun k hk => Nat.le_trans N1.out hk) HL.out (by omega) (HSl.out.below HB.out) (fun z e hz => by have hS' := HSl.out; rw [e] at hS'; exact N0 _ (Nat.le_of_lt (hS'.lt (by have := HL.out; omega)))) p0 (by omega) F0 F1).mono ?_; rintro e w3 ⟨rfl, ho, m', hm', hm⟩; have kb0 := ho.block w.heap.size Z.out (N0 _ (Nat.le_refl _)); replace c0 := (World.cell?_of_block (a := ⟨w.heap.size, 0, none⟩) kb0).trans c0; replace c1 := (World.cell?_of_block (a := ⟨w.heap.size, 1, none⟩) kb0).trans c1; replace c2 := (World.cell?_of_block (a := ⟨w.heap.size, 2, none⟩) kb0).trans c2; replace c3 := (World.cell?_of_block (a := ⟨w.heap.size, 3, none⟩) kb0).trans c3; replace c4 := (World.cell?_of_block (a := ⟨w.heap.size, 4, none⟩) kb0).trans c4; replace c5 := (World.cell?_of_block (a := ⟨w.heap.size, 5, none⟩) kb0).trans c5; replace c6 := (World.cell?_of_block (a := ⟨w.heap.size, 6, none⟩) kb0).trans c6; replace c7 := (World.cell?_of_block (a := ⟨w.heap.size, 7, none⟩) kb0).trans c7; replace c8 := (World.cell?_of_block (a := ⟨w.heap.size, 8, none⟩) kb0).trans c8; replace c9 := (World.cell?_of_block (a := ⟨w.heap.size, 9, none⟩) kb0).trans c9; replace c10 := (World.cell?_of_block (a := ⟨w.heap.size, 10, none⟩) kb0).trans c10; replace hm := memIfOk hm HY.out; obtain ⟨f1, hm, hf1⟩ := hm; replace N1 := Aside0.mk (Nat.le_trans N1.out ho.size); replace Z := Aside0.mk (Nat.lt_of_lt_of_le Z.out ho.size); replace HB := Aside0.mk (HB.out.trans (ho.below w.heap.size HB.out.size (fun k h => by have := N0 k; omega))); replace HM := Aside0.mk hm; replace HF := Aside0.mk hf1; clear ho hm hf1 kb0) | (go_at_call 9; with_reducible refine (memReadNo (.pointer (some ⟨G, 0, none⟩)) true _ F 40 _ HM.out.is p0 (by omega) F0 F1 (by decide) (by decide) HR.out).mono ?_; rintro e w4 ⟨rfl, hwp⟩; obtain rfl := hwp.symm) | (go_at_call 10; with_reducible refine (storeK8 bs of ty sg st x _ HM.out (fun k hk => Nat.le_trans N1.out hk) (by have := HN.out; omega) p0 (by omega) a0 a1 b0 b1 x0 x1 HSt.out).mono ?_; rintro e w5 ⟨rfl, ho, hm⟩; have kb0 := ho.block w.heap.size Z.out (fun h => absurd h (N0 _ (Nat.le_refl _))); replace c0 := (World.cell?_of_block (a := ⟨w.heap.size, 0, none⟩) kb0).trans c0; replace c1 := (World.cell?_of_block (a := ⟨w.heap.size, 1, none⟩) kb0).trans c1; replace c2 := (World.cell?_of_block (a := ⟨w.heap.size, 2, none⟩) kb0).trans c2; replace c3 := (World.cell?_of_block (a := ⟨w.heap.size, 3, none⟩) kb0).trans c3; replace c4 := (World.cell?_of_block (a := ⟨w.heap.size, 4, none⟩) kb0).trans c4; replace c5 := (World.cell?_of_block (a := ⟨w.heap.size, 5, none⟩) kb0).trans c5; replace c6 := (World.cell?_of_block (a := ⟨w.heap.size, 6, none⟩) kb0).trans c6; replace c7 := (World.cell?_of_block (a := ⟨w.heap.size, 7, none⟩) kb0).trans c7; replace c8 := (World.cell?_of_block (a := ⟨w.heap.size, 8, none⟩) kb0).trans c8; replace c9 := (World.cell?_of_block (a := ⟨w.heap.size, 9, none⟩) kb0).trans c9; replace c10 := (World.cell?_of_block (a := ⟨w.heap.size, 10, none⟩) kb0).trans c10; replace Z := Aside0.mk (Nat.lt_of_lt_of_le Z.out ho.size); replace HB := Aside0.mk (HB.out.trans (ho.below w.heap.size HB.out.size (fun k h => by have := N0 k; omega))); replace HM := Aside0.mk hm; replace HF := Aside0.mk (wrt_ok (byt_ok x) HF.out (bs + of).toNat 8); clear ho hm kb0) | (go_at_call 11; with_reducible refine (memHolds (.pointer (some ⟨G, 0, none⟩)) true pages (bs + of) 8 _ HM.out.is p0 (by omega) (by omega) (by omega) (by decide) (by decide)).mono ?_; rintro e wp ⟨rfl, hwp⟩; obtain rfl := hwp.symm; rw [HHo.out]))
        go_loopg [127] 0 (fun k v127 w' => ∃ i : Nat, v127 = .int .i64 (i : Int) ∧ Aside0 (k + i = 0) ∧ Aside0 (w'.cell? ⟨w.heap.size, 2, none⟩ = some (.int .u32 bs) ∧ w'.cell? ⟨w.heap.size, 3, none⟩ = some (.int .u32 of) ∧ w'.cell? ⟨w.heap.size, 5, none⟩ = some (.int .i64 8) ∧ w'.cell? ⟨w.heap.size, 8, none⟩ = some (.int .u64 x) ∧ Mem w' (fun k => w1.heap.size ≤ k) G B (m' + 8) pages 0 false (wrt (byt x) (bs + of).toNat 8 f1) ∧ w.heap.size < w'.heap.size ∧ Below w.heap.size w w'))
        case atStart => exact ⟨0, rfl, ⟨rfl⟩, ⟨c2, c3, c5, c8, HM.out, Z.out, HB.out⟩⟩
        case round =>
          clear  HM Z HB c0 c1 c2 c3 c4 c5 c6 c7 c8 c9 c10
          obtain ⟨i, rfl, hk, HI⟩ := hrel
          have hk' := hk.out
          obtain ⟨c2, c3, c5, c8, HM, Z, HB⟩ := HI.out
          replace HM := Aside0.mk HM; replace Z := Aside0.mk Z; replace HB := Aside0.mk HB
          obtain rfl : gk = 0 := by omega
          obtain rfl : i = 0 := by omega
          have e2 : ∀ o, (wr.alloc o).cell? ⟨w.heap.size, 2, none⟩ = some (.int .u32 bs) := fun o => (World.cell?_of_block (w := wr) (Below.heap_alloc _ _ _ Z.out)).trans c2; have e3 : ∀ o, (wr.alloc o).cell? ⟨w.heap.size, 3, none⟩ = some (.int .u32 of) := fun o => (World.cell?_of_block (w := wr) (Below.heap_alloc _ _ _ Z.out)).trans c3; have e5 : ∀ o, (wr.alloc o).cell? ⟨w.heap.size, 5, none⟩ = some (.int .i64 8) := fun o => (World.cell?_of_block (w := wr) (Below.heap_alloc _ _ _ Z.out)).trans c5; have e8 : ∀ o, (wr.alloc o).cell? ⟨w.heap.size, 8, none⟩ = some (.int .u64 x) := fun o => (World.cell?_of_block (w := wr) (Below.heap_alloc _ _ _ Z.out)).trans c8
          go_wp2_with (first | (go_at_call 12; with_reducible refine (loadK8 bs of _ (HM.out.below (below_alloc (Below.refl _ _) _)) HF.out p0 (by omega) a0 a1 b0 b1 HSt.out).mono ?_; rintro e w7 ⟨rfl, hb⟩; replace HB := Aside0.mk (below_step (below_alloc HB.out _) hb); have g8 := ((Nr.bcell hb).1 w.heap.size 8 (by simp; exact Nat.lt_succ_of_lt Z.out)).trans (e8 _); have g5 := ((Nr.bcell hb).1 w.heap.size 5 (by simp; exact Nat.lt_succ_of_lt Z.out)).trans (e5 _); clear hb; rw [hvSt.out]))
          all_goals go_region
          all_goals go_wp2
          all_goals (go_ret; first | exact ⟨rfl, HB.out⟩ | exact ⟨rfl, HB.out.drew⟩ | (refine ⟨?_, by first | exact HB.out | exact HB.out.drew⟩; exact congrArg (fun z => Ending.returned (Value.bool z)) HSh.out))
      | false =>
        have HHo := Aside0.mk hT
        have HSt := Aside0.mk (show (acB 8 && hld true pages (bs + of) 8) = false by rw [hT]; rfl)
        clear hT
        go_enter Try.func3, Try.ntmps3
        go_wp2_with (first | (go_at_call 6; with_reducible refine (memAwake _).mono ?_; rintro e w1 ⟨rfl, hb⟩; have c0 : w1.cell? ⟨w.heap.size, 0, none⟩ = some (.int .i64 kd) := ((Nr.bcell hb).1 w.heap.size 0 (by simp)).trans (by simp [go_sem]); have c1 : w1.cell? ⟨w.heap.size, 1, none⟩ = some (.int .i64 n) := ((Nr.bcell hb).1 w.heap.size 1 (by simp)).trans (by simp [go_sem]); have c2 : w1.cell? ⟨w.heap.size, 2, none⟩ = some (.int .u32 bs) := ((Nr.bcell hb).1 w.heap.size 2 (by simp)).trans (by simp [go_sem]); have c3 : w1.cell? ⟨w.heap.size, 3, none⟩ = some (.int .u32 of) := ((Nr.bcell hb).1 w.heap.size 3 (by simp)).trans (by simp [go_sem]); have c4 : w1.cell? ⟨w.heap.size, 4, none⟩ = some (.int .u8 ty) := ((Nr.bcell hb).1 w.heap.size 4 (by simp)).trans (by simp [go_sem]); have c5 : w1.cell? ⟨w.heap.size, 5, none⟩ = some (.int .i64 8) := ((Nr.bcell hb).1 w.heap.size 5 (by simp)).trans (by simp [go_sem]); have c6 : w1.cell? ⟨w.heap.size, 6, none⟩ = some (.bool sg) := ((Nr.bcell hb).1 w.heap.size 6 (by simp)).trans (by simp [go_sem]); have c7 : w1.cell? ⟨w.heap.size, 7, none⟩ = some (.bool st) := ((Nr.bcell hb).1 w.heap.size 7 (by simp)).trans (by simp [go_sem]); have c8 : w1.cell? ⟨w.heap.size, 8, none⟩ = some (.int .u64 x) := ((Nr.bcell hb).1 w.heap.size 8 (by simp)).trans (by simp [go_sem]); have c9 : w1.cell? ⟨w.heap.size, 9, none⟩ = some (.bool may) := ((Nr.bcell hb).1 w.heap.size 9 (by simp)).trans (by simp [go_sem]); have c10 : w1.cell? ⟨w.heap.size, 10, none⟩ = some (.slice a len cap) := ((Nr.bcell hb).1 w.heap.size 10 (by simp)).trans (by simp [go_sem]); have Z := Aside0.mk (show w.heap.size < w1.heap.size from Nat.lt_of_lt_of_le (by simp) hb.size); have HB := Aside0.mk (show Below w.heap.size w w1 from below_step (below_alloc (Below.refl _ _) _) hb); clear hb) | (go_at_call 7; with_reducible refine (memNewOk pages 0 false _ p0 (by omega) (by decide) (by decide) HE.out).mono ?_; rintro e w2 ⟨hb, G, B, rfl, hm⟩; have kc := (Nr.bcell hb).1; replace c0 := (kc _ 0 Z.out).trans c0; replace c1 := (kc _ 1 Z.out).trans c1; replace c2 := (kc _ 2 Z.out).trans c2; replace c3 := (kc _ 3 Z.out).trans c3; replace c4 := (kc _ 4 Z.out).trans c4; replace c5 := (kc _ 5 Z.out).trans c5; replace c6 := (kc _ 6 Z.out).trans c6; replace c7 := (kc _ 7 Z.out).trans c7; replace c8 := (kc _ 8 Z.out).trans c8; replace c9 := (kc _ 9 Z.out).trans c9; replace c10 := (kc _ 10 Z.out).trans c10; have N0 : ∀ k, k ≤ w.heap.size → ¬ (w1.heap.size ≤ k) := fun k hk h => absurd (Nat.lt_of_lt_of_le Z.out h) (by omega); have N1 := Aside0.mk hb.size; replace Z := Aside0.mk (Nat.lt_of_lt_of_le Z.out hb.size); replace HB := Aside0.mk (below_step HB.out hb); have HM := Aside0.mk hm; have HF := Aside0.mk (f00); clear hb hm kc) | (go_at_call 8; with_reducible refine (memWriteAny F b l blen bcap _ HM.out (fun k hk => Nat.le_trans N1.out hk) HL.out (by omega) (HSl.out.below HB.out) (fun z e hz => by have hS' := HSl.out; rw [e] at hS'; exact N0 _ (Nat.le_of_lt (hS'.lt (by have := HL.out; omega)))) p0 (by omega) F0 F1).mono ?_; rintro e w3 ⟨rfl, ho, m', hm', hm⟩; have kb0 := ho.block w.heap.size Z.out (N0 _ (Nat.le_refl _)); replace c0 := (World.cell?_of_block (a := ⟨w.heap.size, 0, none⟩) kb0).trans c0; replace c1 := (World.cell?_of_block (a := ⟨w.heap.size, 1, none⟩) kb0).trans c1; replace c2 := (World.cell?_of_block (a := ⟨w.heap.size, 2, none⟩) kb0).trans c2; replace c3 := (World.cell?_of_block (a := ⟨w.heap.size, 3, none⟩) kb0).trans c3; replace c4 := (World.cell?_of_block (a := ⟨w.heap.size, 4, none⟩) kb0).trans c4; replace c5 := (World.cell?_of_block (a := ⟨w.heap.size, 5, none⟩) kb0).trans c5; replace c6 := (World.cell?_of_block (a := ⟨w.heap.size, 6, none⟩) kb0).trans c6; replace c7 := (World.cell?_of_block (a := ⟨w.heap.size, 7, none⟩) kb0).trans c7; replace c8 := (World.cell?_of_block (a := ⟨w.heap.size, 8, none⟩) kb0).trans c8; replace c9 := (World.cell?_of_block (a := ⟨w.heap.size, 9, none⟩) kb0).trans c9; replace c10 := (World.cell?_of_block (a := ⟨w.heap.size, 10, none⟩) kb0).trans c10; replace hm := memIfOk hm HY.out; obtain ⟨f1, hm, hf1⟩ := hm; replace N1 := Aside0.mk (Nat.le_trans N1.out ho.size); replace Z := Aside0.mk (Nat.lt_of_lt_of_le Z.out ho.size); replace HB := Aside0.mk (HB.out.trans (ho.below w.heap.size HB.out.size (fun k h => by have := N0 k; omega))); replace HM := Aside0.mk hm; replace HF := Aside0.mk hf1; clear ho hm hf1 kb0) | (go_at_call 9; with_reducible refine (memReadNo (.pointer (some ⟨G, 0, none⟩)) true _ F 40 _ HM.out.is p0 (by omega) F0 F1 (by decide) (by decide) HR.out).mono ?_; rintro e w4 ⟨rfl, hwp⟩; obtain rfl := hwp.symm) | (go_at_call 10; with_reducible refine (memStoreNo (.pointer (some ⟨G, 0, none⟩)) true pages bs of 8 ty sg st x _ HM.out.is p0 (by omega) a0 a1 b0 b1 (by decide) (by decide) HSt.out).mono ?_; rintro e w5 ⟨rfl, hb⟩; have kc := (Nr.bcell hb).1; replace c0 := (kc _ 0 Z.out).trans c0; replace c1 := (kc _ 1 Z.out).trans c1; replace c2 := (kc _ 2 Z.out).trans c2; replace c3 := (kc _ 3 Z.out).trans c3; replace c4 := (kc _ 4 Z.out).trans c4; replace c5 := (kc _ 5 Z.out).trans c5; replace c6 := (kc _ 6 Z.out).trans c6; replace c7 := (kc _ 7 Z.out).trans c7; replace c8 := (kc _ 8 Z.out).trans c8; replace c9 := (kc _ 9 Z.out).trans c9; replace c10 := (kc _ 10 Z.out).trans c10; replace Z := Aside0.mk (Nat.lt_of_lt_of_le Z.out hb.size); replace HB := Aside0.mk (below_step HB.out hb); replace HM := Aside0.mk (HM.out.below hb); clear hb kc) | (go_at_call 11; with_reducible refine (memHolds (.pointer (some ⟨G, 0, none⟩)) true pages (bs + of) 8 _ HM.out.is p0 (by omega) (by omega) (by omega) (by decide) (by decide)).mono ?_; rintro e wp ⟨rfl, hwp⟩; obtain rfl := hwp.symm; rw [HHo.out]))
        go_loopg [127] 0 (fun k v127 w' => ∃ i : Nat, v127 = .int .i64 (i : Int) ∧ Aside0 (k + i = 0) ∧ Aside0 (w'.cell? ⟨w.heap.size, 2, none⟩ = some (.int .u32 bs) ∧ w'.cell? ⟨w.heap.size, 3, none⟩ = some (.int .u32 of) ∧ w'.cell? ⟨w.heap.size, 5, none⟩ = some (.int .i64 8) ∧ w'.cell? ⟨w.heap.size, 8, none⟩ = some (.int .u64 x) ∧ Mem w' (fun k => w1.heap.size ≤ k) G B m' pages 0 false f1 ∧ w.heap.size < w'.heap.size ∧ Below w.heap.size w w'))
        case atStart => exact ⟨0, rfl, ⟨rfl⟩, ⟨c2, c3, c5, c8, HM.out, Z.out, HB.out⟩⟩
        case round =>
          clear  HM Z HB c0 c1 c2 c3 c4 c5 c6 c7 c8 c9 c10
          obtain ⟨i, rfl, hk, HI⟩ := hrel
          have hk' := hk.out
          obtain ⟨c2, c3, c5, c8, HM, Z, HB⟩ := HI.out
          replace HM := Aside0.mk HM; replace Z := Aside0.mk Z; replace HB := Aside0.mk HB
          obtain rfl : gk = 0 := by omega
          obtain rfl : i = 0 := by omega
          have e2 : ∀ o, (wr.alloc o).cell? ⟨w.heap.size, 2, none⟩ = some (.int .u32 bs) := fun o => (World.cell?_of_block (w := wr) (Below.heap_alloc _ _ _ Z.out)).trans c2; have e3 : ∀ o, (wr.alloc o).cell? ⟨w.heap.size, 3, none⟩ = some (.int .u32 of) := fun o => (World.cell?_of_block (w := wr) (Below.heap_alloc _ _ _ Z.out)).trans c3; have e5 : ∀ o, (wr.alloc o).cell? ⟨w.heap.size, 5, none⟩ = some (.int .i64 8) := fun o => (World.cell?_of_block (w := wr) (Below.heap_alloc _ _ _ Z.out)).trans c5; have e8 : ∀ o, (wr.alloc o).cell? ⟨w.heap.size, 8, none⟩ = some (.int .u64 x) := fun o => (World.cell?_of_block (w := wr) (Below.heap_alloc _ _ _ Z.out)).trans c8
          go_wp2_with (first | (go_at_call 12; with_reducible refine (memLoadNo (.pointer (some ⟨G, 0, none⟩)) true pages bs of 8 126 false false _ (HM.out.is.below (below_alloc (Below.refl _ _) _)) p0 (by omega) a0 a1 b0 b1 (by decide) (by decide) HSt.out).mono ?_; rintro e w7 ⟨rfl, hb⟩; replace HB := Aside0.mk (below_step (below_alloc HB.out _) hb); have g8 := ((Nr.bcell hb).1 w.heap.size 8 (by simp; exact Nat.lt_succ_of_lt Z.out)).trans (e8 _); have g5 := ((Nr.bcell hb).1 w.heap.size 5 (by simp; exact Nat.lt_succ_of_lt Z.out)).trans (e5 _); clear hb))
          all_goals (go_ret; exact ⟨rfl, HB.out⟩)
  · have hT : hld true pages (bs + of) 8 = false := by simp [hld]; omega
    have HHo := Aside0.mk hT
    have HSt := Aside0.mk (show (acB 8 && hld true pages (bs + of) 8) = false by rw [hT]; rfl)
    clear hT hmm MO F0 F2 F
    have F0 : 0 ≤ (bs + of - 20) % 4294967296 := Int.emod_nonneg _ (by decide)
    have F1 : (bs + of - 20) % 4294967296 < 4294967296 := Int.emod_lt_of_pos _ (by decide)
    cases hR : hld true pages ((bs + of - 20) % 4294967296) 40 with
    | true =>
      have HR := Aside0.mk hR
      clear hR
      go_enter Try.func3, Try.ntmps3
      go_wp2_with (first | (go_at_call 6; with_reducible refine (memAwake _).mono ?_; rintro e w1 ⟨rfl, hb⟩; have c0 : w1.cell? ⟨w.heap.size, 0, none⟩ = some (.int .i64 kd) := ((Nr.bcell hb).1 w.heap.size 0 (by simp)).trans (by simp [go_sem]); have c1 : w1.cell? ⟨w.heap.size, 1, none⟩ = some (.int .i64 n) := ((Nr.bcell hb).1 w.heap.size 1 (by simp)).trans (by simp [go_sem]); have c2 : w1.cell? ⟨w.heap.size, 2, none⟩ = some (.int .u32 bs) := ((Nr.bcell hb).1 w.heap.size 2 (by simp)).trans (by simp [go_sem]); have c3 : w1.cell? ⟨w.heap.size, 3, none⟩ = some (.int .u32 of) := ((Nr.bcell hb).1 w.heap.size 3 (by simp)).trans (by simp [go_sem]); have c4 : w1.cell? ⟨w.heap.size, 4, none⟩ = some (.int .u8 ty) := ((Nr.bcell hb).1 w.heap.size 4 (by simp)).trans (by simp [go_sem]); have c5 : w1.cell? ⟨w.heap.size, 5, none⟩ = some (.int .i64 8) := ((Nr.bcell hb).1 w.heap.size 5 (by simp)).trans (by simp [go_sem]); have c6 : w1.cell? ⟨w.heap.size, 6, none⟩ = some (.bool sg) := ((Nr.bcell hb).1 w.heap.size 6 (by simp)).trans (by simp [go_sem]); have c7 : w1.cell? ⟨w.heap.size, 7, none⟩ = some (.bool st) := ((Nr.bcell hb).1 w.heap.size 7 (by simp)).trans (by simp [go_sem]); have c8 : w1.cell? ⟨w.heap.size, 8, none⟩ = some (.int .u64 x) := ((Nr.bcell hb).1 w.heap.size 8 (by simp)).trans (by simp [go_sem]); have c9 : w1.cell? ⟨w.heap.size, 9, none⟩ = some (.bool may) := ((Nr.bcell hb).1 w.heap.size 9 (by simp)).trans (by simp [go_sem]); have c10 : w1.cell? ⟨w.heap.size, 10, none⟩ = some (.slice a len cap) := ((Nr.bcell hb).1 w.heap.size 10 (by simp)).trans (by simp [go_sem]); have Z := Aside0.mk (show w.heap.size < w1.heap.size from Nat.lt_of_lt_of_le (by simp) hb.size); have HB := Aside0.mk (show Below w.heap.size w w1 from below_step (below_alloc (Below.refl _ _) _) hb); clear hb) | (go_at_call 7; with_reducible refine (memNewOk pages 0 false _ p0 (by omega) (by decide) (by decide) HE.out).mono ?_; rintro e w2 ⟨hb, G, B, rfl, hm⟩; have kc := (Nr.bcell hb).1; replace c0 := (kc _ 0 Z.out).trans c0; replace c1 := (kc _ 1 Z.out).trans c1; replace c2 := (kc _ 2 Z.out).trans c2; replace c3 := (kc _ 3 Z.out).trans c3; replace c4 := (kc _ 4 Z.out).trans c4; replace c5 := (kc _ 5 Z.out).trans c5; replace c6 := (kc _ 6 Z.out).trans c6; replace c7 := (kc _ 7 Z.out).trans c7; replace c8 := (kc _ 8 Z.out).trans c8; replace c9 := (kc _ 9 Z.out).trans c9; replace c10 := (kc _ 10 Z.out).trans c10; have N0 : ∀ k, k ≤ w.heap.size → ¬ (w1.heap.size ≤ k) := fun k hk h => absurd (Nat.lt_of_lt_of_le Z.out h) (by omega); have N1 := Aside0.mk hb.size; replace Z := Aside0.mk (Nat.lt_of_lt_of_le Z.out hb.size); replace HB := Aside0.mk (below_step HB.out hb); have HM := Aside0.mk hm; have HF := Aside0.mk (f00); clear hb hm kc) | (go_at_call 9; have q := HC1; clear q; with_reducible refine (memRead40 ((bs + of - 20) % 4294967296) _ HM.out p0 (by omega) F0 F1 HR.out).mono ?_; rintro e w6 ⟨rfl, hb, hz, hc⟩; have kc := (Nr.bcell hb).1; replace c0 := (kc _ 0 Z.out).trans c0; replace c1 := (kc _ 1 Z.out).trans c1; replace c2 := (kc _ 2 Z.out).trans c2; replace c3 := (kc _ 3 Z.out).trans c3; replace c4 := (kc _ 4 Z.out).trans c4; replace c5 := (kc _ 5 Z.out).trans c5; replace c6 := (kc _ 6 Z.out).trans c6; replace c7 := (kc _ 7 Z.out).trans c7; replace c8 := (kc _ 8 Z.out).trans c8; replace c9 := (kc _ 9 Z.out).trans c9; replace c10 := (kc _ 10 Z.out).trans c10; replace HM := Aside0.mk (HM.out.below hb); replace HC1 := Aside0.mk (fun (i : Nat) (hi : i < 40) => (kc _ i Z1.out).trans (HC1.out i hi)); replace Z := Aside0.mk (Nat.lt_of_lt_of_le Z.out hb.size); replace HB := Aside0.mk (below_step HB.out hb); have HC2 := Aside0.mk hc; clear hb hz hc kc) | (go_at_call 9; with_reducible refine (memRead40 ((bs + of - 20) % 4294967296) _ HM.out p0 (by omega) F0 F1 HR.out).mono ?_; rintro e w4 ⟨rfl, hb, hz, hc⟩; have kc := (Nr.bcell hb).1; replace c0 := (kc _ 0 Z.out).trans c0; replace c1 := (kc _ 1 Z.out).trans c1; replace c2 := (kc _ 2 Z.out).trans c2; replace c3 := (kc _ 3 Z.out).trans c3; replace c4 := (kc _ 4 Z.out).trans c4; replace c5 := (kc _ 5 Z.out).trans c5; replace c6 := (kc _ 6 Z.out).trans c6; replace c7 := (kc _ 7 Z.out).trans c7; replace c8 := (kc _ 8 Z.out).trans c8; replace c9 := (kc _ 9 Z.out).trans c9; replace c10 := (kc _ 10 Z.out).trans c10; have NR := Aside0.mk (show w.heap.size < w2.heap.size from Z.out); have M1 := Aside0.mk (show w1.heap.size ≤ w2.heap.size from N1.out); replace HM := Aside0.mk ((HM.out.wider (M' := fun k => w1.heap.size ≤ k ∧ k ≠ w2.heap.size) (fun k hk h => ⟨h, Nat.ne_of_lt hk⟩)).below hb); replace N1 := Aside0.mk (Nat.le_trans N1.out hb.size); replace Z := Aside0.mk (Nat.lt_of_lt_of_le Z.out hb.size); replace HB := Aside0.mk (below_step HB.out hb); have HC1 := Aside0.mk hc; have Z1 := Aside0.mk hz; clear hb hz hc kc) | (go_at_call 10; with_reducible refine (memStoreNo (.pointer (some ⟨G, 0, none⟩)) true pages bs of 8 ty sg st x _ HM.out.is p0 (by omega) a0 a1 b0 b1 (by decide) (by decide) HSt.out).mono ?_; rintro e w5 ⟨rfl, hb⟩; have kc := (Nr.bcell hb).1; replace c0 := (kc _ 0 Z.out).trans c0; replace c1 := (kc _ 1 Z.out).trans c1; replace c2 := (kc _ 2 Z.out).trans c2; replace c3 := (kc _ 3 Z.out).trans c3; replace c4 := (kc _ 4 Z.out).trans c4; replace c5 := (kc _ 5 Z.out).trans c5; replace c6 := (kc _ 6 Z.out).trans c6; replace c7 := (kc _ 7 Z.out).trans c7; replace c8 := (kc _ 8 Z.out).trans c8; replace c9 := (kc _ 9 Z.out).trans c9; replace c10 := (kc _ 10 Z.out).trans c10; replace HC1 := Aside0.mk (fun (i : Nat) (hi : i < 40) => (kc _ i Z1.out).trans (HC1.out i hi)); replace Z1 := Aside0.mk (Nat.lt_of_lt_of_le Z1.out hb.size); replace Z := Aside0.mk (Nat.lt_of_lt_of_le Z.out hb.size); replace HB := Aside0.mk (below_step HB.out hb); replace HM := Aside0.mk (HM.out.below hb); clear hb kc) | (go_at_call 11; with_reducible refine (memHolds (.pointer (some ⟨G, 0, none⟩)) true pages (bs + of) 8 _ HM.out.is p0 (by omega) (by omega) (by omega) (by decide) (by decide)).mono ?_; rintro e wp ⟨rfl, hwp⟩; obtain rfl := hwp.symm; rw [HHo.out]))
      all_goals (go_ret; exact ⟨rfl, HB.out⟩)
    | false =>
      have HR := Aside0.mk hR
      clear hR
      go_enter Try.func3, Try.ntmps3
      go_wp2_with (first | (go_at_call 6; with_reducible refine (memAwake _).mono ?_; rintro e w1 ⟨rfl, hb⟩; have c0 : w1.cell? ⟨w.heap.size, 0, none⟩ = some (.int .i64 kd) := ((Nr.bcell hb).1 w.heap.size 0 (by simp)).trans (by simp [go_sem]); have c1 : w1.cell? ⟨w.heap.size, 1, none⟩ = some (.int .i64 n) := ((Nr.bcell hb).1 w.heap.size 1 (by simp)).trans (by simp [go_sem]); have c2 : w1.cell? ⟨w.heap.size, 2, none⟩ = some (.int .u32 bs) := ((Nr.bcell hb).1 w.heap.size 2 (by simp)).trans (by simp [go_sem]); have c3 : w1.cell? ⟨w.heap.size, 3, none⟩ = some (.int .u32 of) := ((Nr.bcell hb).1 w.heap.size 3 (by simp)).trans (by simp [go_sem]); have c4 : w1.cell? ⟨w.heap.size, 4, none⟩ = some (.int .u8 ty) := ((Nr.bcell hb).1 w.heap.size 4 (by simp)).trans (by simp [go_sem]); have c5 : w1.cell? ⟨w.heap.size, 5, none⟩ = some (.int .i64 8) := ((Nr.bcell hb).1 w.heap.size 5 (by simp)).trans (by simp [go_sem]); have c6 : w1.cell? ⟨w.heap.size, 6, none⟩ = some (.bool sg) := ((Nr.bcell hb).1 w.heap.size 6 (by simp)).trans (by simp [go_sem]); have c7 : w1.cell? ⟨w.heap.size, 7, none⟩ = some (.bool st) := ((Nr.bcell hb).1 w.heap.size 7 (by simp)).trans (by simp [go_sem]); have c8 : w1.cell? ⟨w.heap.size, 8, none⟩ = some (.int .u64 x) := ((Nr.bcell hb).1 w.heap.size 8 (by simp)).trans (by simp [go_sem]); have c9 : w1.cell? ⟨w.heap.size, 9, none⟩ = some (.bool may) := ((Nr.bcell hb).1 w.heap.size 9 (by simp)).trans (by simp [go_sem]); have c10 : w1.cell? ⟨w.heap.size, 10, none⟩ = some (.slice a len cap) := ((Nr.bcell hb).1 w.heap.size 10 (by simp)).trans (by simp [go_sem]); have Z := Aside0.mk (show w.heap.size < w1.heap.size from Nat.lt_of_lt_of_le (by simp) hb.size); have HB := Aside0.mk (show Below w.heap.size w w1 from below_step (below_alloc (Below.refl _ _) _) hb); clear hb) | (go_at_call 7; with_reducible refine (memNewOk pages 0 false _ p0 (by omega) (by decide) (by decide) HE.out).mono ?_; rintro e w2 ⟨hb, G, B, rfl, hm⟩; have kc := (Nr.bcell hb).1; replace c0 := (kc _ 0 Z.out).trans c0; replace c1 := (kc _ 1 Z.out).trans c1; replace c2 := (kc _ 2 Z.out).trans c2; replace c3 := (kc _ 3 Z.out).trans c3; replace c4 := (kc _ 4 Z.out).trans c4; replace c5 := (kc _ 5 Z.out).trans c5; replace c6 := (kc _ 6 Z.out).trans c6; replace c7 := (kc _ 7 Z.out).trans c7; replace c8 := (kc _ 8 Z.out).trans c8; replace c9 := (kc _ 9 Z.out).trans c9; replace c10 := (kc _ 10 Z.out).trans c10; have N0 : ∀ k, k ≤ w.heap.size → ¬ (w1.heap.size ≤ k) := fun k hk h => absurd (Nat.lt_of_lt_of_le Z.out h) (by omega); have N1 := Aside0.mk hb.size; replace Z := Aside0.mk (Nat.lt_of_lt_of_le Z.out hb.size); replace HB := Aside0.mk (below_step HB.out hb); have HM := Aside0.mk hm; have HF := Aside0.mk (f00); clear hb hm kc) | (go_at_call 9; with_reducible refine (memReadNo (.pointer (some ⟨G, 0, none⟩)) true _ ((bs + of - 20) % 4294967296) 40 _ HM.out.is p0 (by omega) F0 F1 (by decide) (by decide) HR.out).mono ?_; rintro e w4 ⟨rfl, hwp⟩; obtain rfl := hwp.symm) | (go_at_call 10; with_reducible refine (memStoreNo (.pointer (some ⟨G, 0, none⟩)) true pages bs of 8 ty sg st x _ HM.out.is p0 (by omega) a0 a1 b0 b1 (by decide) (by decide) HSt.out).mono ?_; rintro e w5 ⟨rfl, hb⟩; have kc := (Nr.bcell hb).1; replace c0 := (kc _ 0 Z.out).trans c0; replace c1 := (kc _ 1 Z.out).trans c1; replace c2 := (kc _ 2 Z.out).trans c2; replace c3 := (kc _ 3 Z.out).trans c3; replace c4 := (kc _ 4 Z.out).trans c4; replace c5 := (kc _ 5 Z.out).trans c5; replace c6 := (kc _ 6 Z.out).trans c6; replace c7 := (kc _ 7 Z.out).trans c7; replace c8 := (kc _ 8 Z.out).trans c8; replace c9 := (kc _ 9 Z.out).trans c9; replace c10 := (kc _ 10 Z.out).trans c10; replace Z := Aside0.mk (Nat.lt_of_lt_of_le Z.out hb.size); replace HB := Aside0.mk (below_step HB.out hb); replace HM := Aside0.mk (HM.out.below hb); clear hb kc) | (go_at_call 11; with_reducible refine (memHolds (.pointer (some ⟨G, 0, none⟩)) true pages (bs + of) 8 _ HM.out.is p0 (by omega) (by omega) (by omega) (by decide) (by decide)).mono ?_; rintro e wp ⟨rfl, hwp⟩; obtain rfl := hwp.symm; rw [HHo.out]))
      all_goals (go_ret; exact ⟨rfl, HB.out⟩)
end Go.Proofs.Ytiiimpcdhgegmaa.PA
/- memory: the rows' own words: a struct that comes in. -/
namespace Go.Proofs.Ytiiimpcdhgegmaa.PA
open Go.RowKit Go.Proofs.YtiiimpcdhgegmaaW.PrintWords Go.Proofs.YtiiimpcdhgegmaaW.PrintLast Go.Proofs.YtiiimpcdhgegmaaW.PrintMore
attribute [local go_sem] max2_int min2_int max_two min_two max_three min_three max_four min_four   -- for this text's walks alone
set_option linter.unusedVariables false
set_option linter.unusedSimpArgs false
open Go.ChangeShapes Go.WideShapes Go.ChangeAt
section
variable {H : Type} {enc : TypeId × Value → H} {w : World} {base : Nat} {held : Bool}
theorem openLim {r : Reach} {b0 : Nat} {v : Value} {d : DataW H} {p : List MemPlace} (hv : Value.okWide Try.prog w r b0 35 v) (h : DataW.Trod enc Try.prog w base (fun _ => true) held 35 v d p) :
    ∃ (mn mx : Int) (hs : Bool), v = .agg #[.int .u32 mn, .int .u32 mx, .bool hs] ∧ (Lit.int .u32 mn).wf = true ∧ (Lit.int .u32 mx).wf = true := by
  obtain ⟨cs, rfl, hsz⟩ := okWide_struct Try.underlying35 hv
  have hC : Try.prog.cellsOf 35 = 3 := by kernel_rfl
  have k22 : Try.prog.cellsOf 22 = 1 := by kernel_rfl
  have k4 : Try.prog.cellsOf 4 = 1 := by kernel_rfl
  obtain ⟨l⟩ := cs
  match l, hsz.trans hC with
  | [c0, c1, c2], _ =>
    obtain ⟨fuel, hf⟩ := h
    obtain ⟨xs, n, _, hx, _, hlen, hg⟩ := DataW.trod_struct Try.underlying35 hf
    match xs, hlen with
    | [y0, y1, y2], _ =>
      have g0 := hg 0 _ rfl
      have g1 := hg 1 _ rfl
      have g2 := hg 2 _ rfl
      simp [Value.cells, k22, k4] at g0 g1 g2
      obtain ⟨a0, e0, _, w0⟩ := DataW.trod_int Try.underlying22 g0
      obtain ⟨a1, e1, _, w1⟩ := DataW.trod_int Try.underlying22 g1
      obtain ⟨a2, e2, _⟩ := DataW.trod_bool Try.underlying4 g2
      simp at e0 e1 e2
      subst e0 e1 e2
      exact ⟨a0, a1, a2, rfl, w0, w1⟩
theorem openOp {r : Reach} {b0 : Nat} {v : Value} {d : DataW H} {p : List MemPlace} (hv : Value.okWide Try.prog w r b0 28 v) (h : DataW.Trod enc Try.prog w base (fun _ => true) held 28 v d p) :
    ∃ (kd n bs of ty nb : Int) (sg st : Bool) (x : Int) (may : Bool) (a : Option Addr) (len cap : Nat) (zs : List Int),
      v = .agg #[.int .i64 kd, .int .i64 n, .int .u32 bs, .int .u32 of, .int .u8 ty, .int .i64 nb, .bool sg, .bool st, .int .u64 x, .bool may, .slice a len cap] ∧
      (Lit.int .i64 n).wf = true ∧ (Lit.int .u32 bs).wf = true ∧ (Lit.int .u32 of).wf = true ∧ (Lit.int .u8 ty).wf = true ∧ (Lit.int .i64 nb).wf = true ∧ (Lit.int .u64 x).wf = true ∧
      len ≤ cap ∧ cap ≤ maxLen ∧ zs.length = cap ∧ (∀ z ∈ zs, (Lit.int .u8 z).wf = true) ∧ ∀ i, i < zs.length → ∃ y, a = some y ∧ w.cell? (y.add i) = some (.int .u8 (zs.getD i 0)) := by
  obtain ⟨cs, rfl, hsz⟩ := okWide_struct Try.underlying28 hv
  have hC : Try.prog.cellsOf 28 = 11 := by kernel_rfl
  have k3 : Try.prog.cellsOf 3 = 1 := by kernel_rfl
  have k22 : Try.prog.cellsOf 22 = 1 := by kernel_rfl
  have k25 : Try.prog.cellsOf 25 = 1 := by kernel_rfl
  have k4 : Try.prog.cellsOf 4 = 1 := by kernel_rfl
  have k5 : Try.prog.cellsOf 5 = 1 := by kernel_rfl
  have k24 : Try.prog.cellsOf 24 = 4 := by kernel_rfl
  have k26 : Try.prog.cellsOf 26 = 1 := by kernel_rfl
  obtain ⟨l⟩ := cs
  match l, hsz.trans hC with
  | [c0, c1, c2, c3, c4, c5, c6, c7, c8, c9, c10], _ =>
    obtain ⟨fuel, hf⟩ := h
    obtain ⟨xs, n, _, hx, _, hlen, hg⟩ := DataW.trod_struct Try.underlying28 hf
    match xs, hlen with
    | [y0, y1, y2, y3, y4, y5, y6, y7], _ =>
      have g0 := hg 0 _ rfl
      have g1 := hg 1 _ rfl
      have g2 := hg 2 _ rfl
      have g3 := hg 3 _ rfl
      have g4 := hg 4 _ rfl
      have g5 := hg 5 _ rfl
      have g6 := hg 6 _ rfl
      have g7 := hg 7 _ rfl
      simp [Value.cells, k3, k22, k25, k4, k24, k26] at g0 g1 g2 g3 g4 g5 g6 g7
      obtain ⟨zs, m, _, _, _, hlen2, hg2⟩ := DataW.trod_struct Try.underlying24 g4
      match zs, hlen2 with
      | [z0, z1, z2, z3], _ =>
        have q0 := hg2 0 _ rfl
        have q1 := hg2 1 _ rfl
        have q2 := hg2 2 _ rfl
        have q3 := hg2 3 _ rfl
        simp [k3, k4, k5] at q0 q1 q2 q3
        obtain ⟨a0, e0, _, w0⟩ := DataW.trod_int Try.underlying3 g0
        obtain ⟨a1, e1, _, w1⟩ := DataW.trod_int Try.underlying3 g1
        obtain ⟨a2, e2, _, w2⟩ := DataW.trod_int Try.underlying22 g2
        obtain ⟨a3, e3, _, w3⟩ := DataW.trod_int Try.underlying22 g3
        obtain ⟨a4, e4, _, w4⟩ := DataW.trod_int Try.underlying5 q0
        obtain ⟨a5, e5, _, w5⟩ := DataW.trod_int Try.underlying3 q1
        obtain ⟨a6, e6, _⟩ := DataW.trod_bool Try.underlying4 q2
        obtain ⟨a7, e7, _⟩ := DataW.trod_bool Try.underlying4 q3
        obtain ⟨a8, e8, _, w8⟩ := DataW.trod_int Try.underlying25 g5
        obtain ⟨a9, e9, _⟩ := DataW.trod_bool Try.underlying4 g6
        simp at e0 e1 e2 e3 e4 e5 e6 e7 e8 e9
        subst e0 e1 e2 e3 e4 e5 e6 e7 e8 e9
        rcases open_ints Try.underlying26 Try.underlying5 k5 g7 with ⟨hcs, _⟩ | ⟨y, len, cap, ws, hcs, _, hl, hm, hz, _, hcell, hwz⟩
        · simp at hcs
          subst hcs
          exact ⟨a0, a1, a2, a3, a4, a5, a6, a7, a8, a9, none, 0, 0, [], rfl, w1, w2, w3, w4, w5, w8, Nat.le_refl _, Nat.zero_le _, rfl, (fun _ h => absurd h (by simp)), (fun i hi => absurd hi (by simp))⟩
        · simp at hcs
          subst hcs
          exact ⟨a0, a1, a2, a3, a4, a5, a6, a7, a8, a9, some y, len, cap, ws, rfl, w1, w2, w3, w4, w5, w8, hl, hm, by simpa using hz, hwz, fun i hi => ⟨y, rfl, hcell i hi⟩⟩
end
theorem slTake {w : World} {a : Option Addr} {zs : List Int} {len : Nat} (h : ∀ i, i < zs.length → ∃ y, a = some y ∧ w.cell? (y.add i) = some (.int .u8 (zs.getD i 0))) (hl : len ≤ zs.length) : Sl w a (zs.take len) := fun i hi => by
  rw [List.length_take] at hi
  obtain ⟨y, e, hc⟩ := h i (by omega)
  refine ⟨y, e, hc.trans ?_⟩
  rw [List.getD_eq_getElem?_getD, List.getD_eq_getElem?_getD, List.getElem?_take_of_lt (by omega)]
end Go.Proofs.Ytiiimpcdhgegmaa.PA
/- memory: MemoryKeeps' walk, for every input. -/
namespace Go.Proofs.Ytiiimpcdhgegmaa.PA
open Go.RowKit Go.Proofs.YtiiimpcdhgegmaaW.PrintWords Go.Proofs.YtiiimpcdhgegmaaW.PrintLast Go.Proofs.YtiiimpcdhgegmaaW.PrintMore
attribute [local go_sem] max2_int min2_int max_two min_two max_three min_three max_four min_four   -- for this text's walks alone
set_option linter.unusedVariables false
set_option linter.unusedSimpArgs false
theorem takeOk (zs : List Int) (n : Nat) (h : ∀ z ∈ zs, (Lit.int .u8 z).wf = true) (j : Nat) : 0 ≤ (zs.take n).getD j 0 ∧ (zs.take n).getD j 0 < 256 := by
  rw [List.getD_eq_getElem?_getD]
  cases e : (zs.take n)[j]? with
  | none => exact ⟨Int.le_refl _, show (0 : Int) < 256 by decide⟩
  | some z =>
    have hz := h z (List.mem_of_mem_take (List.mem_of_getElem? e))
    have : 0 ≤ z ∧ z ≤ 255 := by simpa [Lit.wf, IntKind.min, IntKind.max, IntKind.signed, IntKind.bits] using hz
    show 0 ≤ z ∧ z < 256
    omega
section
variable {H : Type} {enc : TypeId × Value → H} {w : World} {base : Nat} {held : Bool}
theorem openBytes {r : Reach} {b0 : Nat} {v : Value} {d : DataW H} {p : List MemPlace} (hv : Value.okWide Try.prog w r b0 26 v) (h : DataW.Trod enc Try.prog w base (fun _ => true) held 26 v d p) :
    ∃ (a : Option Addr) (len cap : Nat) (zs : List Int), v = .slice a len cap ∧ len ≤ cap ∧ cap ≤ maxLen ∧ zs.length = cap ∧ (∀ z ∈ zs, (Lit.int .u8 z).wf = true) ∧ ∀ i, i < zs.length → ∃ y, a = some y ∧ w.cell? (y.add i) = some (.int .u8 (zs.getD i 0)) := by
  obtain ⟨a, len, cap, rfl⟩ := Go.WideShapes.okWide_slice Try.underlying26 hv
  obtain ⟨fuel, hf⟩ := h
  rcases Go.ChangeShapes.open_ints Try.underlying26 Try.underlying5 (by kernel_rfl) hf with ⟨hcs, _⟩ | ⟨y, l, c, ws, hcs, _, hl, hm, hz, _, hcell, hwz⟩
  · simp [Value.cells] at hcs
    obtain ⟨rfl, rfl, rfl⟩ := hcs
    exact ⟨none, 0, 0, [], rfl, Nat.le_refl _, Nat.zero_le _, rfl, (fun _ h => absurd h (by simp)), (fun i hi => absurd hi (by simp))⟩
  · simp [Value.cells] at hcs
    obtain ⟨rfl, rfl, rfl⟩ := hcs
    exact ⟨some y, _, _, ws, rfl, hl, hm, by simpa using hz, hwz, fun i hi => ⟨y, rfl, hcell i hi⟩⟩
end
set_option maxHeartbeats 16000000 in
set_option maxRecDepth 100000 in
theorem memKeepsNo (pages kd n bs of ty nb : Int) (sg st : Bool) (x : Int) (may : Bool) (a : Option Addr) (len cap : Nat) (b : Option Addr) (blen bcap : Nat) (w : World)
    (h : 16 < pages ∨ 100 < (blen : Int) ∨ ¬ (nb = 1 ∨ nb = 2 ∨ nb = 4 ∨ nb = 8)) :
    Calls Try.prog 3 #[.int .u32 pages, .agg #[.int .i64 kd, .int .i64 n, .int .u32 bs, .int .u32 of, .int .u8 ty, .int .i64 nb, .bool sg, .bool st, .int .u64 x, .bool may, .slice a len cap], .slice b blen bcap] w fun e w' => e = .returned (.bool true) ∧ Below w.heap.size w w' := by
  have hu2 := Try.underlying28
  have hu3 := Try.underlying24
  by_cases k0 : 16 < pages
  · clear h
    go_enter Try.func3, Try.ntmps3
    go_wp2_with (first | (go_at_call 6; with_reducible refine (memAwake _).mono ?_; rintro e w1 ⟨rfl, hb⟩; have c0 : w1.cell? ⟨w.heap.size, 0, none⟩ = some (.int .i64 kd) := ((Nr.bcell hb).1 w.heap.size 0 (by simp)).trans (by simp [go_sem]); have c1 : w1.cell? ⟨w.heap.size, 1, none⟩ = some (.int .i64 n) := ((Nr.bcell hb).1 w.heap.size 1 (by simp)).trans (by simp [go_sem]); have c2 : w1.cell? ⟨w.heap.size, 2, none⟩ = some (.int .u32 bs) := ((Nr.bcell hb).1 w.heap.size 2 (by simp)).trans (by simp [go_sem]); have c3 : w1.cell? ⟨w.heap.size, 3, none⟩ = some (.int .u32 of) := ((Nr.bcell hb).1 w.heap.size 3 (by simp)).trans (by simp [go_sem]); have c4 : w1.cell? ⟨w.heap.size, 4, none⟩ = some (.int .u8 ty) := ((Nr.bcell hb).1 w.heap.size 4 (by simp)).trans (by simp [go_sem]); have c5 : w1.cell? ⟨w.heap.size, 5, none⟩ = some (.int .i64 nb) := ((Nr.bcell hb).1 w.heap.size 5 (by simp)).trans (by simp [go_sem]); have c6 : w1.cell? ⟨w.heap.size, 6, none⟩ = some (.bool sg) := ((Nr.bcell hb).1 w.heap.size 6 (by simp)).trans (by simp [go_sem]); have c7 : w1.cell? ⟨w.heap.size, 7, none⟩ = some (.bool st) := ((Nr.bcell hb).1 w.heap.size 7 (by simp)).trans (by simp [go_sem]); have c8 : w1.cell? ⟨w.heap.size, 8, none⟩ = some (.int .u64 x) := ((Nr.bcell hb).1 w.heap.size 8 (by simp)).trans (by simp [go_sem]); have c9 : w1.cell? ⟨w.heap.size, 9, none⟩ = some (.bool may) := ((Nr.bcell hb).1 w.heap.size 9 (by simp)).trans (by simp [go_sem]); have c10 : w1.cell? ⟨w.heap.size, 10, none⟩ = some (.slice a len cap) := ((Nr.bcell hb).1 w.heap.size 10 (by simp)).trans (by simp [go_sem]); have HB := Aside0.mk (show Below w.heap.size w w1 from below_step (below_alloc (Below.refl _ _) _) hb); clear hb))
    all_goals (go_ret; exact ⟨rfl, HB.out⟩)
  · by_cases k1 : 100 < (blen : Int)
    · clear h
      go_enter Try.func3, Try.ntmps3
      go_wp2_with (first | (go_at_call 6; with_reducible refine (memAwake _).mono ?_; rintro e w1 ⟨rfl, hb⟩; have c0 : w1.cell? ⟨w.heap.size, 0, none⟩ = some (.int .i64 kd) := ((Nr.bcell hb).1 w.heap.size 0 (by simp)).trans (by simp [go_sem]); have c1 : w1.cell? ⟨w.heap.size, 1, none⟩ = some (.int .i64 n) := ((Nr.bcell hb).1 w.heap.size 1 (by simp)).trans (by simp [go_sem]); have c2 : w1.cell? ⟨w.heap.size, 2, none⟩ = some (.int .u32 bs) := ((Nr.bcell hb).1 w.heap.size 2 (by simp)).trans (by simp [go_sem]); have c3 : w1.cell? ⟨w.heap.size, 3, none⟩ = some (.int .u32 of) := ((Nr.bcell hb).1 w.heap.size 3 (by simp)).trans (by simp [go_sem]); have c4 : w1.cell? ⟨w.heap.size, 4, none⟩ = some (.int .u8 ty) := ((Nr.bcell hb).1 w.heap.size 4 (by simp)).trans (by simp [go_sem]); have c5 : w1.cell? ⟨w.heap.size, 5, none⟩ = some (.int .i64 nb) := ((Nr.bcell hb).1 w.heap.size 5 (by simp)).trans (by simp [go_sem]); have c6 : w1.cell? ⟨w.heap.size, 6, none⟩ = some (.bool sg) := ((Nr.bcell hb).1 w.heap.size 6 (by simp)).trans (by simp [go_sem]); have c7 : w1.cell? ⟨w.heap.size, 7, none⟩ = some (.bool st) := ((Nr.bcell hb).1 w.heap.size 7 (by simp)).trans (by simp [go_sem]); have c8 : w1.cell? ⟨w.heap.size, 8, none⟩ = some (.int .u64 x) := ((Nr.bcell hb).1 w.heap.size 8 (by simp)).trans (by simp [go_sem]); have c9 : w1.cell? ⟨w.heap.size, 9, none⟩ = some (.bool may) := ((Nr.bcell hb).1 w.heap.size 9 (by simp)).trans (by simp [go_sem]); have c10 : w1.cell? ⟨w.heap.size, 10, none⟩ = some (.slice a len cap) := ((Nr.bcell hb).1 w.heap.size 10 (by simp)).trans (by simp [go_sem]); have HB := Aside0.mk (show Below w.heap.size w w1 from below_step (below_alloc (Below.refl _ _) _) hb); clear hb))
      all_goals (go_ret; exact ⟨rfl, HB.out⟩)
    · have d1 : (nb != 1) = true := bne_iff_ne.mpr (by omega)
      have d2 : (nb != 2) = true := bne_iff_ne.mpr (by omega)
      have d4 : (nb != 4) = true := bne_iff_ne.mpr (by omega)
      have d8 : (nb != 8) = true := bne_iff_ne.mpr (by omega)
      clear h
      go_enter Try.func3, Try.ntmps3
      go_wp2_with (first | (go_at_call 6; with_reducible refine (memAwake _).mono ?_; rintro e w1 ⟨rfl, hb⟩; have c0 : w1.cell? ⟨w.heap.size, 0, none⟩ = some (.int .i64 kd) := ((Nr.bcell hb).1 w.heap.size 0 (by simp)).trans (by simp [go_sem]); have c1 : w1.cell? ⟨w.heap.size, 1, none⟩ = some (.int .i64 n) := ((Nr.bcell hb).1 w.heap.size 1 (by simp)).trans (by simp [go_sem]); have c2 : w1.cell? ⟨w.heap.size, 2, none⟩ = some (.int .u32 bs) := ((Nr.bcell hb).1 w.heap.size 2 (by simp)).trans (by simp [go_sem]); have c3 : w1.cell? ⟨w.heap.size, 3, none⟩ = some (.int .u32 of) := ((Nr.bcell hb).1 w.heap.size 3 (by simp)).trans (by simp [go_sem]); have c4 : w1.cell? ⟨w.heap.size, 4, none⟩ = some (.int .u8 ty) := ((Nr.bcell hb).1 w.heap.size 4 (by simp)).trans (by simp [go_sem]); have c5 : w1.cell? ⟨w.heap.size, 5, none⟩ = some (.int .i64 nb) := ((Nr.bcell hb).1 w.heap.size 5 (by simp)).trans (by simp [go_sem]); have c6 : w1.cell? ⟨w.heap.size, 6, none⟩ = some (.bool sg) := ((Nr.bcell hb).1 w.heap.size 6 (by simp)).trans (by simp [go_sem]); have c7 : w1.cell? ⟨w.heap.size, 7, none⟩ = some (.bool st) := ((Nr.bcell hb).1 w.heap.size 7 (by simp)).trans (by simp [go_sem]); have c8 : w1.cell? ⟨w.heap.size, 8, none⟩ = some (.int .u64 x) := ((Nr.bcell hb).1 w.heap.size 8 (by simp)).trans (by simp [go_sem]); have c9 : w1.cell? ⟨w.heap.size, 9, none⟩ = some (.bool may) := ((Nr.bcell hb).1 w.heap.size 9 (by simp)).trans (by simp [go_sem]); have c10 : w1.cell? ⟨w.heap.size, 10, none⟩ = some (.slice a len cap) := ((Nr.bcell hb).1 w.heap.size 10 (by simp)).trans (by simp [go_sem]); have HB := Aside0.mk (show Below w.heap.size w w1 from below_step (below_alloc (Below.refl _ _) _) hb); clear hb))
      all_goals (go_ret; exact ⟨rfl, HB.out⟩)
theorem memKeeps (pages kd n bs of ty nb : Int) (sg st : Bool) (x : Int) (may : Bool) (a : Option Addr) (len cap : Nat) (b : Option Addr) (blen bcap : Nat) (l : List Int) (w : World)
    (p0 : 0 ≤ pages) (a0 : 0 ≤ bs) (a1 : bs < 4294967296) (b0 : 0 ≤ of) (b1 : of < 4294967296) (x0 : 0 ≤ x) (x1 : x < 18446744073709551616) (hl : l.length = blen) (hS : Sl w b l) (hY : ∀ j, 0 ≤ l.getD j 0 ∧ l.getD j 0 < 256) :
    Calls Try.prog 3 #[.int .u32 pages, .agg #[.int .i64 kd, .int .i64 n, .int .u32 bs, .int .u32 of, .int .u8 ty, .int .i64 nb, .bool sg, .bool st, .int .u64 x, .bool may, .slice a len cap], .slice b blen bcap] w fun e w' => e = .returned (.bool true) ∧ Below w.heap.size w w' := by
  by_cases h : 16 < pages ∨ 100 < (blen : Int) ∨ ¬ (nb = 1 ∨ nb = 2 ∨ nb = 4 ∨ nb = 8)
  · exact memKeepsNo pages kd n bs of ty nb sg st x may a len cap b blen bcap w h
  · have p1 : pages ≤ 16 := by omega
    have hlen : blen ≤ 100 := by omega
    have hn : nb = 1 ∨ nb = 2 ∨ nb = 4 ∨ nb = 8 := by omega
    rcases hn with rfl | rfl | rfl | rfl
    · exact memKeeps1 pages kd n bs of ty sg st x may a len cap b blen bcap l w p0 p1 a0 a1 b0 b1 x0 x1 hl hS hY hlen
    · exact memKeeps2 pages kd n bs of ty sg st x may a len cap b blen bcap l w p0 p1 a0 a1 b0 b1 x0 x1 hl hS hY hlen
    · exact memKeeps4 pages kd n bs of ty sg st x may a len cap b blen bcap l w p0 p1 a0 a1 b0 b1 x0 x1 hl hS hY hlen
    · exact memKeeps8 pages kd n bs of ty sg st x may a len cap b blen bcap l w p0 p1 a0 a1 b0 b1 x0 x1 hl hS hY hlen
end Go.Proofs.Ytiiimpcdhgegmaa.PA
