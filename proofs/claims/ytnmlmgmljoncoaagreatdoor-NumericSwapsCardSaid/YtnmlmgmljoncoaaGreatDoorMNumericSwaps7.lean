/- What the Go functions that the statement NumericSwaps reaches compute, and the mathematics on it, in the order in which one leans on the other; for every input. -/
import Derived.Test.YtnmlmgmljoncoaaGreatDoorVNumericSwaps0
import Derived.Test.YtnmlmgmljoncoaaGreatDoorMNumericSwaps0
import Derived.Deep.RegionHeld3
import Derived.Shelf.Spec.BitsCarry
import Derived.Test.YtnmlmgmljoncoaaGreatDoorMNumericSwaps3
import Derived.Deep.DeepCutAuto
import Derived.Test.YtnmlmgmljoncoaaGreatDoorMNumericSwaps6
import Derived.Test.YtnmlmgmljoncoaaGreatDoorMNumericSwaps5
import Derived.Test.YtnmlmgmljoncoaaGreatDoorMNumericSwaps2
import Derived.Test.YtnmlmgmljoncoaaGreatDoorMNumericSwaps4
import Derived.Test.YtnmlmgmljoncoaaGreatDoorMNumericSwaps1
namespace Go.Proofs.YtnmlmgmljoncoaaGreatDoor.PA
open Go.RowKit Go.Proofs.YtnmlmgmljoncoaaGreatDoorW.PrintWords Go.Proofs.YtnmlmgmljoncoaaGreatDoorW.PrintLast Go.Proofs.YtnmlmgmljoncoaaGreatDoorW.PrintMore
attribute [local go_sem] max2_int min2_int max_two min_two max_three min_three max_four min_four   -- for this text's walks alone
set_option linter.unusedVariables false
set_option linter.unusedSimpArgs false
set_option maxHeartbeats 8000000
set_option maxRecDepth 100000
-- IMPORT Derived.Deep.RegionHeld3
-- IMPORT Derived.Shelf.Spec.BitsCarry
-- IMPORT Derived.Test.YtnmlmgmljoncoaaGreatDoorNr
-- IMPORT Derived.Deep.DeepCutAuto
def wide_Sub.f (a0_0 : Int) (a0_1 : Int) (a1_0 : Int) (a1_1 : Int) : Option (Int × Int) :=
 if (0 ≤ a0_0 ∧ a0_0 < 18446744073709551616) ∧ (0 ≤ a0_1 ∧ a0_1 < 18446744073709551616) ∧ (0 ≤ a1_0 ∧ a1_0 < 18446744073709551616) ∧ (0 ≤ a1_1 ∧ a1_1 < 18446744073709551616) then
  some ((a0_0 - a1_0 - (if a0_1 < a1_1 then 1 else 0)) % 18446744073709551616, (a0_1 - a1_1) % 18446744073709551616) else none
theorem wide_Sub.sub64 (x y c : Int) (hx : 0 ≤ x) (hy : 0 ≤ y) (hy2 : y < 18446744073709551616) (hc0 : 0 ≤ c) (hc : c ≤ 1) (w : World) : (callFunc 261 #[.int .u64 x, .int .u64 y, .int .u64 c]).run Tryz.prog w =
  .ok (.value (.tuple #[.int .u64 ((x - y - c) % 18446744073709551616), .int .u64 (if x < y + c then 1 else 0)])) w := by
 obtain ⟨x, rfl⟩ := Int.eq_ofNat_of_zero_le hx
 obtain ⟨y, rfl⟩ := Int.eq_ofNat_of_zero_le hy
 obtain ⟨c, rfl⟩ := Int.eq_ofNat_of_zero_le hc0
 rw [run_callFunc_extern Tryz.func261 (by kernel_rfl) (by kernel_rfl) (by kernel_rfl) (e := sub64Entry) (by kernel_rfl), run_sub64 x y c (by omega)]
 simp only [Result.andThen]
 have e1 : (((x + 18446744073709551616 - y - c) % 18446744073709551616 : Nat) : Int) = ((x : Int) - (y : Int) - (c : Int)) % 18446744073709551616 := by omega
 have e2 : (((if x < y + c then 1 else 0 : Nat)) : Int) = if (x : Int) < (y : Int) + (c : Int) then 1 else 0 := by
  by_cases h : x < y + c
  ·rw [if_pos h, if_pos (by omega)]; rfl
  ·rw [if_neg h, if_neg (by omega)]; rfl
 rw [e1, e2]
theorem wide_Sub.sub64_0 (x y : Int) (hx : 0 ≤ x) (hy : 0 ≤ y) (hy2 : y < 18446744073709551616) (w : World) : (callFunc 261 #[.int .u64 x, .int .u64 y, .int .u64 0]).run Tryz.prog w =
  .ok (.value (.tuple #[.int .u64 ((x - y) % 18446744073709551616), .int .u64 (if x < y then 1 else 0)])) w := by
 simpa using wide_Sub.sub64 x y 0 hx hy hy2 (Int.le_refl 0) (by decide) w
theorem wide_Sub.words (a0 a1 : Int) (w : World) : Calls Tryz.prog 255 #[.agg #[.int .u64 a0, .int .u64 a1]] w fun e w' => e = .returned (.agg #[.int .u64 a1, .int .u64 a0]) ∧ ∃ o1 o2 : Obj, w' = (w.alloc o1).alloc o2 := by
 have hu40 := Tryz.underlying166
 go_enter Tryz.func255, Tryz.ntmps255
 go_wp2
 exact bodyPost_ret (v := .agg #[.int .u64 a1, .int .u64 a0]) (by simp [results, Tryz.results255, go_sem]) rfl ⟨rfl, _, _, rfl⟩
theorem wide_Sub.calls (a0_0 : Int) (a0_1 : Int) (a1_0 : Int) (a1_1 : Int) (r1 : Int) (r2 : Int) (w : World) (h : wide_Sub.f a0_0 a0_1 a1_0 a1_1 = some (r1, r2)) :
  Calls Tryz.prog 248 #[.agg #[.int .u64 a0_0, .int .u64 a0_1], .agg #[.int .u64 a1_0, .int .u64 a1_1]] w fun e w' => e = .returned (.agg #[.int .u64 r1, .int .u64 r2]) ∧ Below w.heap.size w w' := by
 unfold wide_Sub.f at h
 split at h
 rotate_left
 ·cases h
 rename_i hr
 obtain ⟨⟨p1, p2⟩, ⟨p3, p4⟩, ⟨p5, p6⟩, ⟨p7, p8⟩⟩ := hr
 simp only [Option.some.injEq, Prod.mk.injEq] at h
 obtain ⟨hs1, hs0⟩ := h
 have k0 : (0 : Int) ≤ (if a0_1 < a1_1 then 1 else 0) := by split <;> omega
 have k1 : (if a0_1 < a1_1 then (1 : Int) else 0) ≤ 1 := by split <;> omega
 obtain ⟨c1, hc1⟩ : ∃ c, (if a0_1 < a1_1 then (1 : Int) else 0) = c := ⟨_, rfl⟩
 rw [hc1] at k0 k1 hs1
 have A0 := A_ (fun w => wide_Sub.sub64_0 a0_1 a1_1 p3 p7 p8 w)
 have A1 := A_ (fun w => wide_Sub.sub64 a0_0 a1_0 c1 p1 p5 p6 k0 k1 w)
 rw [hs0, hc1] at A0
 rw [hs1] at A1
 obtain ⟨c2, hc2⟩ : ∃ c, (if a0_0 < a1_0 + c1 then (1 : Int) else 0) = c := ⟨_, rfl⟩
 rw [hc2] at A1
 clear p1 p2 p3 p4 p5 p6 p7 p8 k0 k1 hs0 hs1 hc1 hc2
 have hu40 := Tryz.underlying166
 go_enter Tryz.func248, Tryz.ntmps248
 go_upto_region 1 with fail
 go_cut [5, 6] (fun s5 s6 wx => ∃ g h : Nat, s5 = .pointer (some ⟨g, 0, none⟩) ∧ s6 = .pointer (some ⟨h, 0, none⟩) ∧ w.heap.size + 2 < g ∧ w.heap.size + 2 < h ∧ g ≠ h ∧ wx.cell? ⟨g, 0, none⟩ = some (.int .u64 a0_1) ∧ wx.cell? ⟨g, 1, none⟩ = some (.int .u64 a0_0) ∧ wx.cell? ⟨h, 0, none⟩ = some (.int .u64 a1_1) ∧ wx.cell? ⟨h, 1, none⟩ = some (.int .u64 a1_0) ∧ wx.cell? ⟨w.heap.size + 2, 0, none⟩ = some (.int .u64 0) ∧ wx.cell? ⟨w.heap.size + 2, 1, none⟩ = some (.int .u64 0) ∧ wx.frozen? ⟨g, 0, none⟩ = false ∧ wx.frozen? ⟨g, 1, none⟩ = false ∧ wx.frozen? ⟨w.heap.size + 2, 0, none⟩ = false ∧ wx.frozen? ⟨w.heap.size + 2, 1, none⟩ = false ∧ Below w.heap.size w wx)
 case first =>
  go_region_held3 (fun w' => w'.cell? ⟨w.heap.size, 0, none⟩ = some (.int .u64 a0_0) ∧ w'.cell? ⟨w.heap.size, 1, none⟩ = some (.int .u64 a0_1) ∧ w'.cell? ⟨w.heap.size + 1, 0, none⟩ = some (.int .u64 a1_0) ∧ w'.cell? ⟨w.heap.size + 1, 1, none⟩ = some (.int .u64 a1_1))
   (simp [go_sem, World.cell?_alloc_past])
   ((first | (go_at_call 255; refine (wide_Sub.words a0_0 a0_1 _).mono ?_; rintro e w1 ⟨rfl, o1, o2, rfl⟩) | (go_at_call 255; refine (wide_Sub.words a1_0 a1_1 _).mono ?_; rintro e w2 ⟨rfl, o3, o4, rfl⟩)))
  all_goals (go_wp2_with fail; go_meet)
  all_goals (
   refine ⟨_, _, rfl, rfl, by omega, by omega, by omega, ?_, ?_, ?_, ?_, ?_, ?_, ?_, ?_, ?_, ?_, ?_⟩
   all_goals first | (simp [go_sem, World.cell?_alloc_past]; done) | (repeat (first | assumption | exact Below.refl _ _ | apply below_drew1 | apply below_alloc | (refine below_set ?_ (by omega)))))
 case rest =>
  obtain ⟨g, h, rfl, rfl, hg, hh, hgh, x0, x1, y0, y1, z0, z1, f0, f1, f2, f3, bl⟩ := hcut
  go_step
  go_wp2
  go_loopg [7, 13] 2 (fun k v7 v13 w' => ∃ (j c u0 u1 : Int), v7 = .int .u64 c ∧ v13 = .int .i64 j ∧ Aside0 ((k = 2 ∧ j = 0 ∧ c = 0 ∧ u0 = a0_1 ∧ u1 = a0_0) ∨ (k = 1 ∧ j = 1 ∧ c = c1 ∧ u0 = r2 ∧ u1 = a0_0) ∨ (k = 0 ∧ j = 2 ∧ u0 = r2 ∧ u1 = r1)) ∧ w'.cell? ⟨g, 0, none⟩ = some (.int .u64 u0) ∧ w'.cell? ⟨g, 1, none⟩ = some (.int .u64 u1) ∧ w'.cell? ⟨h, 0, none⟩ = some (.int .u64 a1_1) ∧ w'.cell? ⟨h, 1, none⟩ = some (.int .u64 a1_0) ∧ w'.cell? ⟨w.heap.size + 2, 0, none⟩ = some (.int .u64 0) ∧ w'.cell? ⟨w.heap.size + 2, 1, none⟩ = some (.int .u64 0) ∧ w'.frozen? ⟨g, 0, none⟩ = false ∧ w'.frozen? ⟨g, 1, none⟩ = false ∧ w'.frozen? ⟨w.heap.size + 2, 0, none⟩ = false ∧ w'.frozen? ⟨w.heap.size + 2, 1, none⟩ = false ∧ Aside0 (Below w.heap.size w w'))
  case atStart => exact ⟨0, 0, a0_1, a0_0, rfl, rfl, ⟨.inl ⟨rfl, rfl, rfl, rfl, rfl⟩⟩, x0, x1, y0, y1, z0, z1, f0, f1, f2, f3, ⟨bl⟩⟩
  case round =>
   clear x0 x1 y0 y1 z0 z1 f0 f1 f2 f3 bl
   obtain ⟨j, c, u0, u1, rfl, rfl, hj, x0, x1, y0, y1, z0, z1, f0, f1, f2, f3, bl⟩ := hrel
   rcases hj.out with ⟨rfl, rfl, rfl, rfl, rfl⟩ | ⟨rfl, rfl, rfl, rfl, rfl⟩ | ⟨rfl, rfl, rfl, rfl⟩
   ·clear hj
    go_wp2
    have A := A0.out
    go_region
    all_goals go_wp2
    go_roundg 1
    case measure => omega
    case rel =>
     refine ⟨1, c1, r2, u1, rfl, rfl, ⟨.inr (.inl ⟨rfl, rfl, rfl, rfl, rfl⟩)⟩, ?_, ?_, ?_, ?_, ?_, ?_, ?_, ?_, ?_, ?_, ?_⟩
     all_goals first
      | exact World.cell?_setCell_same _ _ _ x0
      | exact World.cell?_setCell_same _ _ _ x1
      | exact (World.cell?_setCell_far _ _ _ _ (fun e => by have e' : g = h := e; exact hgh e')).trans (by assumption)
      | exact (World.cell?_setCell_far _ _ _ _ (fun e => by have e' : g = w.heap.size + 2 := e; omega)).trans (by assumption)
      | exact (World.frozen?_setCell _ _ _ _).trans (by assumption)
      | (refine Eq.trans (World.cell?_setCell_other _ _ _ _ ?_) (by assumption); intro e; cases e)
      | exact ⟨below_drew1 (below_set bl.out (by omega))⟩
   ·clear hj
    go_wp2
    have A := A1.out
    go_region
    all_goals go_wp2
    go_roundg 0
    case measure => omega
    case rel =>
     refine ⟨2, _, u0, r1, rfl, rfl, ⟨.inr (.inr ⟨rfl, rfl, rfl, rfl⟩)⟩, ?_, ?_, ?_, ?_, ?_, ?_, ?_, ?_, ?_, ?_, ?_⟩
     all_goals first
      | exact World.cell?_setCell_same _ _ _ x0
      | exact World.cell?_setCell_same _ _ _ x1
      | exact (World.cell?_setCell_far _ _ _ _ (fun e => by have e' : g = h := e; exact hgh e')).trans (by assumption)
      | exact (World.cell?_setCell_far _ _ _ _ (fun e => by have e' : g = w.heap.size + 2 := e; omega)).trans (by assumption)
      | exact (World.frozen?_setCell _ _ _ _).trans (by assumption)
      | (refine Eq.trans (World.cell?_setCell_other _ _ _ _ ?_) (by assumption); intro e; cases e)
      | exact ⟨below_drew1 (below_set bl.out (by omega))⟩
   ·clear hj
    go_wp2_with (first | (go_at_call 257; refine (wide_of.calls u0 u1 u1 u0 _ rfl).mono ?_; rintro e w1 ⟨rfl, hb⟩; obtain ⟨hc, hf⟩ := Nr.bcell hb; have hs := hb.size; have e0 := (hc _ 0 (World.block_lt_of_cell? wr _ z0)).trans z0; have e1 := (hc _ 1 (World.block_lt_of_cell? wr _ z0)).trans z1; have e2 := (hf _ 0 (World.block_lt_of_cell? wr _ z0)).trans f2; have e3 := (hf _ 1 (World.block_lt_of_cell? wr _ z0)).trans f3; replace bl := A_ (below_step bl.out hb); clear hc hf hb hs))
    exact bodyPost_ret (v := .agg #[.int .u64 u1, .int .u64 u0]) (by simp [results, Tryz.results248, go_sem, e0, e1]) rfl ⟨rfl, below_set (below_set bl.out (by omega)) (by omega)⟩
end Go.Proofs.YtnmlmgmljoncoaaGreatDoor.PA
section
set_option linter.unusedVariables false
set_option linter.unusedSimpArgs false
namespace Go.Proofs.YtnmlmgmljoncoaaGreatDoor.Th
open Go.RowKit Go.Proofs.YtnmlmgmljoncoaaGreatDoorW.PrintWords Go.Proofs.YtnmlmgmljoncoaaGreatDoorW.PrintLast Go.Proofs.YtnmlmgmljoncoaaGreatDoorW.PrintMore Go.Proofs.YtnmlmgmljoncoaaGreatDoor.PA Bit Dig
theorem addW (a b c d : Nat) (ha : a < 18446744073709551616) (hb : b < 18446744073709551616) (hc : c < 18446744073709551616) (hd : d < 18446744073709551616) :
    wide_Add.f a b c d = some ((((wn a b + wn c d) % 340282366920938463463374607431768211456 / 18446744073709551616 : Nat) : Int), (((wn a b + wn c d) % 340282366920938463463374607431768211456 % 18446744073709551616 : Nat) : Int)) := by
  unfold wide_Add.f wn
  rw [if_pos (by omega)]
  have e1 : ((a : Int) + (c : Int) + ((b : Int) + (d : Int)) / 18446744073709551616) % 18446744073709551616 = (((a * 18446744073709551616 + b + (c * 18446744073709551616 + d)) % 340282366920938463463374607431768211456 / 18446744073709551616 : Nat) : Int) := by omega
  have e2 : ((b : Int) + (d : Int)) % 18446744073709551616 = (((a * 18446744073709551616 + b + (c * 18446744073709551616 + d)) % 340282366920938463463374607431768211456 % 18446744073709551616 : Nat) : Int) := by omega
  rw [e1, e2]
theorem subW (a b c d : Nat) (ha : a < 18446744073709551616) (hb : b < 18446744073709551616) (hc : c < 18446744073709551616) (hd : d < 18446744073709551616) :
    wide_Sub.f a b c d = some ((((wn a b + (340282366920938463463374607431768211456 - wn c d)) % 340282366920938463463374607431768211456 / 18446744073709551616 : Nat) : Int), (((wn a b + (340282366920938463463374607431768211456 - wn c d)) % 340282366920938463463374607431768211456 % 18446744073709551616 : Nat) : Int)) := by
  unfold wide_Sub.f wn
  rw [if_pos (by omega)]
  have e1 : ((a : Int) - (c : Int) - (if (b : Int) < (d : Int) then 1 else 0)) % 18446744073709551616 = (((a * 18446744073709551616 + b + (340282366920938463463374607431768211456 - (c * 18446744073709551616 + d))) % 340282366920938463463374607431768211456 / 18446744073709551616 : Nat) : Int) := by split <;> omega
  have e2 : ((b : Int) - (d : Int)) % 18446744073709551616 = (((a * 18446744073709551616 + b + (340282366920938463463374607431768211456 - (c * 18446744073709551616 + d))) % 340282366920938463463374607431768211456 % 18446744073709551616 : Nat) : Int) := by omega
  rw [e1, e2]
end Go.Proofs.YtnmlmgmljoncoaaGreatDoor.Th
end
section
set_option linter.unusedVariables false
set_option linter.unusedSimpArgs false
namespace Go.Proofs.YtnmlmgmljoncoaaGreatDoor.Th
open Go.RowKit Go.Proofs.YtnmlmgmljoncoaaGreatDoorW.PrintWords Go.Proofs.YtnmlmgmljoncoaaGreatDoorW.PrintLast Go.Proofs.YtnmlmgmljoncoaaGreatDoorW.PrintMore Go.Proofs.YtnmlmgmljoncoaaGreatDoor.PA Bit Flo
theorem fmt_bd' (w : Int) : (fmt w).f ≤ 52 ∧ (-5000 < (fmt w).low ∧ (fmt w).low < 0) ∧ (fmt w).top < 5000 ∧ 2 ≤ (fmt w).top := by
  unfold fmt; split <;> decide
def wH (V : Nat) : Int := ((V / 18446744073709551616 : Nat) : Int)
def wL (V : Nat) : Int := ((V % 18446744073709551616 : Nat) : Int)
theorem wHL (h l : Nat) (hl : l < 18446744073709551616) : wH (wn h l) = h ∧ wL (wn h l) = l := by unfold wH wL; rw [wn_hi hl, wn_lo hl]; exact ⟨rfl, rfl⟩
theorem hi64 {V : Nat} (h : V < 340282366920938463463374607431768211456) : V / 18446744073709551616 < 18446744073709551616 := by omega
theorem lo64 (V : Nat) : V % 18446744073709551616 < 18446744073709551616 := Nat.mod_lt _ (by decide)
theorem wLen {V : Nat} (h : V < 340282366920938463463374607431768211456) : wide_Len.f (wH V) (wL V) = some ((bl V : Nat) : Int) := by
  have := lenW (V / 18446744073709551616) (V % 18446744073709551616) (hi64 h) (lo64 V)
  rwa [wn_div] at this
theorem wLeft {V : Nat} (h : V < 340282366920938463463374607431768211456) (n : Nat) (hn : n < 1000) (hV : V * 2 ^ n < 340282366920938463463374607431768211456) : wide_Left.f (wH V) (wL V) n = some (wH (V * 2 ^ n), wL (V * 2 ^ n)) := by
  have := leftW (V / 18446744073709551616) (V % 18446744073709551616) n (hi64 h) (lo64 V) (by omega)
  rwa [wn_div, lfV, Int.toNat_natCast, Nat.mod_eq_of_lt hV] at this
theorem wRight {V : Nat} (h : V < 340282366920938463463374607431768211456) (n : Nat) (hn : n < 1099511627776) : wide_Right.f (wH V) (wL V) n = some (wH (V / 2 ^ n), wL (V / 2 ^ n), decide (V % 2 ^ n ≠ 0)) := by
  have := rightW (V / 18446744073709551616) (V % 18446744073709551616) n (hi64 h) (lo64 V) (by omega)
  rwa [wn_div, rgV, Int.toNat_natCast] at this
theorem wAdd1 {V : Nat} (h : V + 1 < 340282366920938463463374607431768211456) : wide_Add.f (wH V) (wL V) 0 1 = some (wH (V + 1), wL (V + 1)) := by
  have := addW (V / 18446744073709551616) (V % 18446744073709551616) 0 1 (hi64 (by omega)) (lo64 V) (by decide) (by decide)
  rw [wn_div, show wn 0 1 = 1 by decide, Nat.mod_eq_of_lt h] at this
  exact this
theorem wAnd1 (V : Nat) : (Go.bits .and .u64 (wL V) 1 == 1) = decide (V % 2 = 1) := by
  unfold wL
  rw [show (1 : Int) = ((1 : Nat) : Int) from rfl, u64_and_nat _ 1 (lo64 V) (by decide)]
  have h1 := and_low (V % 18446744073709551616) 1
  rw [show (2 : Nat) ^ 1 - 1 = 1 by decide, show (2 : Nat) ^ 1 = 2 by decide] at h1
  rw [h1, Bool.eq_iff_iff]; simp; omega
theorem wSmall {V : Nat} (h : V < 18446744073709551616) : wH V = 0 ∧ wL V = V := by unfold wH wL; omega
theorem shZ (w : Int) (hw : w = 32 ∨ w = 64) (s : Bool) : shape_Zero.f w s = some ((mkN w 0 s : Nat) : Int) := by rcases hw with rfl | rfl; exact shZero32 s; exact shZero64 s
theorem shI (w : Int) (hw : w = 32 ∨ w = 64) (s : Bool) : shape_Inf.f w s = some ((mkN w (fmt w).inf s : Nat) : Int) := by rcases hw with rfl | rfl; exact shInf32 s; exact shInf64 s
theorem clo (w : Int) (hw : w = 32 ∨ w = 64) (s : Bool) (m : Nat) (h0 : 0 < m) (hm : m < (fmt w).inf) : ∃ k z, shape_Close.f k w s 1 ((fmt w).ex m) ((fmt w).sg m : Nat) = some (((mkN w m s : Nat) : Int), z) := by
  rcases hw with rfl | rfl
  · obtain ⟨k, hk⟩ := (close32 s m h0 hm).rounds; exact ⟨k, 0, hk⟩
  · obtain ⟨k, hk⟩ := (close64 s m h0 hm).rounds; exact ⟨k, 0, hk⟩
end Go.Proofs.YtnmlmgmljoncoaaGreatDoor.Th
end
/- round.Pack answers the nearest float, for every number in the range of exponents that it looks at. -/
namespace Go.Proofs.YtnmlmgmljoncoaaGreatDoor.PA
open Go.RowKit Go.Proofs.YtnmlmgmljoncoaaGreatDoorW.PrintWords Go.Proofs.YtnmlmgmljoncoaaGreatDoorW.PrintLast Go.Proofs.YtnmlmgmljoncoaaGreatDoorW.PrintMore
attribute [local go_sem] max2_int min2_int max_two min_two max_three min_three max_four min_four   -- for this text's walks alone
set_option linter.unusedVariables false
set_option linter.unusedSimpArgs false
open Go.Proofs.YtnmlmgmljoncoaaGreatDoor.Th Flo
theorem rp_fin (W : Int) (hw : W = 32 ∨ W = 64) (ng : Bool) (t2 t1 hi : Int) (h2 : t2 = ((2 ^ ((fmt W).f + 1) : Nat) : Int)) (h1 : t1 = ((2 ^ (fmt W).f : Nat) : Int)) (hh : hi = (fmt W).low + (fmt W).top - 2) (q R : Nat) (e3 : Int) (he : e3 = q + (fmt W).low)
    (hR : R ≤ 2 ^ ((fmt W).f + 1)) (hl : 0 < q → 2 ^ (fmt W).f ≤ R) :
    (hi < e3 ∧ shape_Inf.f W ng = some ((mkN W ((fmt W).fin q R) ng : Nat) : Int)) ∨ (e3 ≤ hi ∧ ∃ l4 e4, (((R : Int) = t2 ∧ t1 = l4 ∧ e3 + 1 = e4) ∨ ((R : Int) ≠ t2 ∧ (R : Int) = l4 ∧ e3 = e4)) ∧
      ((l4 = 0 ∧ shape_Zero.f W ng = some ((mkN W ((fmt W).fin q R) ng : Nat) : Int)) ∨ (l4 ≠ 0 ∧ hi < e4 ∧ shape_Inf.f W ng = some ((mkN W ((fmt W).fin q R) ng : Nat) : Int)) ∨ (l4 ≠ 0 ∧ e4 ≤ hi ∧ ∃ k z, shape_Close.f k W ng 1 e4 l4 = some (((mkN W ((fmt W).fin q R) ng : Nat) : Int), z)))) := by
  have hz := shZ W hw ng
  have hi_ := shI W hw ng
  have hc := clo W hw ng
  generalize fmt W = F at *
  have hp := F.pow_pos
  have ht := F.ht
  have e1 : 2 ^ (F.f + 1) = 2 ^ F.f * 2 := Nat.pow_succ ..
  by_cases c1 : F.top < q + 2
  · left
    refine ⟨by omega, ?_⟩
    have : F.fin q R = F.inf := by
      unfold Fmt.fin
      split
      · first | rfl | rw [if_pos (by omega)]
      · first | rfl | rw [if_pos c1]
    rw [this]; exact hi_
  · right
    refine ⟨by omega, ?_⟩
    by_cases c2 : R = 2 ^ (F.f + 1)
    · refine ⟨t1, e3 + 1, .inl ⟨by rw [c2, h2], rfl, rfl⟩, ?_⟩
      by_cases c3 : F.top < q + 3
      · refine .inr (.inl ⟨by rw [h1]; omega, by omega, ?_⟩)
        have : F.fin q R = F.inf := by unfold Fmt.fin; rw [if_pos c2, if_pos c3]
        rw [this]; exact hi_
      · refine .inr (.inr ⟨by rw [h1]; omega, by omega, ?_⟩)
        have e5 : F.fin q R = (q + 1) * 2 ^ F.f + 2 ^ F.f := by unfold Fmt.fin; rw [if_pos c2, if_neg c3, Nat.add_mul, Nat.add_mul]; omega
        have hm : F.fin q R < F.inf := by
          rw [e5]
          unfold Fmt.inf
          have := Nat.mul_le_mul_right (2 ^ F.f) (show q + 3 ≤ F.top by omega)
          rw [Nat.add_mul] at this ⊢
          omega
        obtain ⟨h3, h4⟩ := F.sg_mk (q + 1) (2 ^ F.f) (by omega) (fun _ => Nat.le_refl _)
        have := hc (F.fin q R) (by rw [e5]; omega) hm
        rw [e5, h3, h4, ← e5, show (((q + 1 : Nat) : Int) + F.low) = e3 + 1 by omega, ← h1] at this
        exact this
    · refine ⟨(R : Int), e3, .inr ⟨by rw [h2]; intro k; exact c2 (by exact_mod_cast k), rfl, rfl⟩, ?_⟩
      by_cases c3 : R = 0
      · left
        have hq : q = 0 := by rcases Nat.eq_zero_or_pos q with h | h; exact h; have := hl h; omega
        have : F.fin q R = 0 := by unfold Fmt.fin; rw [if_neg c2, if_neg c1, if_pos (by omega)]; exact c3
        exact ⟨by omega, by rw [this]; exact hz⟩
      · refine .inr (.inr ⟨by omega, by omega, ?_⟩)
        have e5 : F.fin q R = q * 2 ^ F.f + R := by
          unfold Fmt.fin
          rw [if_neg c2, if_neg c1]
          split
          · rcases Nat.eq_zero_or_pos q with h | h
            · rw [h]; omega
            · have := hl h; omega
          · rw [Nat.add_mul]; omega
        have hm : F.fin q R < F.inf := by
          rw [e5]
          unfold Fmt.inf
          have := Nat.mul_le_mul_right (2 ^ F.f) (show q + 2 ≤ F.top by omega)
          rw [Nat.add_mul] at this
          omega
        obtain ⟨h3, h4⟩ := F.sg_mk q R (by omega) hl
        have := hc (F.fin q R) (by rw [e5]; omega) hm
        rw [e5, h3, h4, ← e5, ← he] at this
        exact this
theorem rp_main (W f t2 t1 lo hi : Int) (hW : (W = 32 ∧ f = 23 ∧ t2 = 16777216 ∧ t1 = 8388608) ∨ (W = 64 ∧ f = 52 ∧ t2 = 9007199254740992 ∧ t1 = 4503599627370496)) (hlo : lo = (fmt W).low) (hhi : hi = (fmt W).low + (fmt W).top - 2)
    (AIM : ∀ ng h l e m, round_aim.f W ng h l e m = some (h, l, e, m, W, f, lo, hi, ng, true)) (S : Nat) (hS : S < 340282366920938463463374607431768211456) (e : Int) (m ng : Bool) (Z : S ≠ 0 ∨ m = true) (E1 : e ≤ 1048576) (E2 : -1048576 ≤ e) (w : World) :
    Calls Tryz.prog 214 #[.int .i64 W, .bool ng, .agg #[.int .u64 (wH S), .int .u64 (wL S)], .int .i64 e, .bool m] w fun en w' => en = .returned (.int .u64 ((mkN W (pkm (fmt W) S e m) ng : Nat) : Int)) ∧ Below w.heap.size w w' := by
  have hw : W = 32 ∨ W = 64 := by rcases hW with ⟨h, _⟩ | ⟨h, _⟩; exact .inl h; exact .inr h
  have hf : f = ((fmt W).f : Int) ∧ t2 = ((2 ^ ((fmt W).f + 1) : Nat) : Int) ∧ t1 = ((2 ^ (fmt W).f : Nat) : Int) := by
    rcases hW with ⟨rfl, rfl, rfl, rfl⟩ | ⟨rfl, rfl, rfl, rfl⟩ <;> decide
  have hbd := fmt_bd' W
  obtain ⟨hf, h2, h1⟩ := hf
  -- the number whose last bits go
  obtain ⟨S1, e1, m1, hS1, hpos, hm1, hk, hT⟩ : ∃ (S1 : Nat) (e1 : Int) (m1 : Bool), S1 < 340282366920938463463374607431768211456 ∧ 0 < S1 ∧ (m1 = true → 127 ≤ bl S1) ∧ pkm (fmt W) S e m = pkc (fmt W) S1 e1 (if m1 then 1 else 0) ∧
      ((m = true ∧ (∃ n0, wide_Len.f (wH S) (wL S) = some n0 ∧ n0 < 127) ∧ (∃ x0 x1, wide_Left.f (wH S) (wL S) 1 = some (x0, x1) ∧ wide_Add.f x0 x1 0 1 = some (wH S1, wL S1)) ∧ e - 1 = e1 ∧ m1 = false) ∨ ((m = false ∨ ∃ n0, wide_Len.f (wH S) (wL S) = some n0 ∧ 127 ≤ n0) ∧ wH S1 = wH S ∧ wL S1 = wL S ∧ e1 = e ∧ m1 = m)) := by
    have hk : pkm (fmt W) S e m = if m = true ∧ bl S < 127 then pkc (fmt W) (2 * S + 1) (e - 1) 0 else pkc (fmt W) S e (if m then 1 else 0) := by
      unfold pkm
      rw [if_neg (by rintro ⟨h1, h2⟩; rcases Z with h | h; exact h h1; rw [h2] at h; cases h), if_neg (by omega), if_neg (by omega)]
    by_cases c : m = true ∧ bl S < 127
    · rw [if_pos c] at hk
      have hlt := bl_le.1 (Nat.le_of_lt_succ (show bl S < 126 + 1 from c.2))
      rw [show (2 : Nat) ^ 126 = 85070591730234615865843651857942052864 by decide] at hlt
      have hl := wLeft hS 1 (by decide) (by omega)
      refine ⟨2 * S + 1, e - 1, false, by omega, by omega, fun h => (by cases h), (by rw [hk]; rfl), .inl ⟨c.1, ⟨_, wLen hS, by omega⟩, ⟨_, _, hl, ?_⟩, rfl, rfl⟩⟩
      rw [wAdd1 (by omega)]
      rw [show S * 2 ^ 1 + 1 = 2 * S + 1 by omega]
    · rw [if_neg c] at hk
      refine ⟨S, e, m, hS, ?_, fun h => ?_, hk, .inr ⟨?_, rfl, rfl, rfl, rfl⟩⟩
      · rcases Z with h | h
        · omega
        · have : 127 ≤ bl S := by
            rcases Nat.lt_or_ge (bl S) 127 with h3 | h3
            · exact absurd ⟨h, h3⟩ c
            · exact h3
          exact bl_pos.1 (by omega)
      · rcases Nat.lt_or_ge (bl S) 127 with h3 | h3
        · exact absurd ⟨h, h3⟩ c
        · exact h3
      · cases hm : m
        · exact .inl rfl
        · right
          refine ⟨_, wLen hS, ?_⟩
          rcases Nat.lt_or_ge (bl S) 127 with h3 | h3
          · exact absurd ⟨hm, h3⟩ c
          · omega
  have b128 := bl_128 hS1
  have he1 : -1048578 < e1 ∧ e1 < 1048578 := by rcases hT with ⟨_, _, _, h, _⟩ | ⟨_, _, _, h, _⟩ <;> omega
  rw [hk]
  have mx_ : ∀ a b : Int, mx a b = max a b := fun a b => by unfold mx; split <;> omega
  have mn_ : ∀ a b : Int, mn a b = min a b := fun a b => by unfold mn; split <;> omega
  have p54 : 2 ^ ((fmt W).f + 1) ≤ 9007199254740992 := by
    rw [show (9007199254740992 : Nat) = 2 ^ 53 by decide]; exact Nat.pow_le_pow_right (by decide) (by omega)
  by_cases c : (bl S1 : Int) - (fmt W).f - 1 ≤ 0 ∧ (fmt W).low - e1 ≤ 0
  · obtain rfl : m1 = false := by
      cases m1
      · rfl
      · have := hm1 rfl; omega
    obtain ⟨q, u, hu, hq, e5, _, hR, hl⟩ := pkc_up (fmt W) hpos c
    have e6 : pkc (fmt W) S1 e1 (if false = true then 1 else 0) = (fmt W).fin q (S1 * 2 ^ u) := e5
    rw [e6]
    have FX := rp_fin W hw ng t2 t1 hi h2 h1 hhi q (S1 * 2 ^ u) (e1 - u) (by omega) hR hl
    have hs := wSmall (V := S1 * 2 ^ u) (by omega)
    refine rp_pack W f t2 t1 lo hi hW (by omega) (wH S) (wL S) e (wH S1) (wL S1) e1 (bl S1) (max ((bl S1 : Int) - f - 1) (lo - e1)) (wH S1) (wL S1) e1 (bl S1) u (wH (S1 * 2 ^ u)) (wL (S1 * 2 ^ u)) (e1 - u) _ m false ng w (AIM _ _ _ _ _) ?_ E1 E2 hT (wLen hS1) (by omega) (mx_ _ _) (.inl ⟨by omega, rfl, rfl, rfl, rfl⟩) (wLen hS1) (by omega) ?_ ?_ ?_
    · rcases Z with h | h
      · left
        rw [Bool.and_eq_false_iff]
        by_cases h3 : S / 18446744073709551616 = 0
        · right; unfold wL; rw [beq_eq_false_iff_ne]; omega
        · left; unfold wH; rw [beq_eq_false_iff_ne]; omega
      · exact .inr h
    · rw [mn_, hf, hlo]; exact hu.symm
    · rcases Nat.eq_zero_or_pos u with h | h
      · right; subst h; exact ⟨by omega, by rw [Nat.pow_zero, Nat.mul_one], by rw [Nat.pow_zero, Nat.mul_one], by omega⟩
      · left; exact ⟨by omega, wLeft hS1 u (by omega) (by omega), rfl⟩
    · rw [hs.1, hs.2]
      rcases FX with h | ⟨h, h'⟩
      · exact .inl h
      · exact .inr ⟨h, rfl, h'⟩
  · obtain ⟨q, n, j, hj, hq, hn, e5, _, hR, hl⟩ := pkc_dn (fmt W) (S := S1) (m := if m1 then 1 else 0) (e := e1) (by cases m1 <;> decide) hpos c
    rw [e5]
    have FX := rp_fin W hw ng t2 t1 hi h2 h1 hhi q n (e1 + ((j + 1 : Nat) : Int)) (by omega) hR hl
    have hs := wSmall (V := n) (by omega)
    have hn128 : n < 340282366920938463463374607431768211456 := by omega
    have hj40 : j < 1099511627775 := by omega
    have r1 := wRight hS1 j (by omega)
    have hk1 : S1 / 2 ^ j < 340282366920938463463374607431768211456 := Nat.lt_of_le_of_lt (Nat.div_le_self _ _) hS1
    have r2 := wRight hk1 1 (by decide)
    have rb := rne_bits S1 j (if m1 then 1 else 0) (by cases m1 <;> decide)
    rw [← hn] at rb
    have hn2 := bl_128 hn128
    have hlen : (fmt W).f + 1 ≤ bl n ∨ q = 0 := by
      rcases Nat.eq_zero_or_pos q with h | h
      · exact .inr h
      · left
        have := hl h
        exact lt_bl.2 this
    refine rp_pack W f t2 t1 lo hi hW (by omega) (wH S) (wL S) e (wH S1) (wL S1) e1 (bl S1) ((j + 1 : Nat) : Int) (wH n) (wL n) (e1 + ((j + 1 : Nat) : Int)) (bl n) (min (f + 1 - bl n) (e1 + ((j + 1 : Nat) : Int) - lo)) (wH n) (wL n) (e1 + ((j + 1 : Nat) : Int)) _ m m1 ng w (AIM _ _ _ _ _) ?_ E1 E2 hT (wLen hS1) (by omega) ?_ (.inr ⟨by omega, rfl, wH (S1 / 2 ^ j), wL (S1 / 2 ^ j), wH (S1 / 2 ^ j / 2), wL (S1 / 2 ^ j / 2), decide (S1 % 2 ^ j ≠ 0), _, decide (S1 / 2 ^ j % 2 = 1 ∧ (S1 % 2 ^ j ≠ 0 ∨ (if m1 then 1 else 0) = 1 ∨ S1 / 2 ^ j / 2 % 2 = 1)), ?_, r2, ?_, ?_, ?_⟩) (wLen hn128) (by omega) (mn_ _ _) (.inr ⟨by omega, rfl, rfl, rfl⟩) ?_
    · rcases Z with h | h
      · left
        rw [Bool.and_eq_false_iff]
        by_cases h3 : S / 18446744073709551616 = 0
        · right; unfold wL; rw [beq_eq_false_iff_ne]; omega
        · left; unfold wH; rw [beq_eq_false_iff_ne]; omega
      · exact .inr h
    · rw [mx_, hf, hlo]; rw [← hj]; rfl
    · rw [show (((j + 1 : Nat) : Int) - 1) = (j : Int) by omega]; exact r1
    · rw [wAnd1, wAnd1, Bool.eq_iff_iff]
      cases m1 <;> simp
    · intro h
      rw [decide_eq_true_eq] at h
      rw [if_pos h] at rb
      rw [rb]
      exact wAdd1 (by omega)
    · intro h
      rw [decide_eq_false_iff_not] at h
      rw [if_neg h] at rb
      rw [rb]; exact ⟨rfl, rfl⟩
    · rw [hs.1, hs.2]
      rcases FX with h | ⟨h, h'⟩
      · exact .inl h
      · exact .inr ⟨h, rfl, h'⟩
end Go.Proofs.YtnmlmgmljoncoaaGreatDoor.PA
/- round.Pack's short ways: no width; nought; an exponent that is too great or too small. -/
namespace Go.Proofs.YtnmlmgmljoncoaaGreatDoor.PA
open Go.RowKit Go.Proofs.YtnmlmgmljoncoaaGreatDoorW.PrintWords Go.Proofs.YtnmlmgmljoncoaaGreatDoorW.PrintLast Go.Proofs.YtnmlmgmljoncoaaGreatDoorW.PrintMore
attribute [local go_sem] max2_int min2_int max_two min_two max_three min_three max_four min_four   -- for this text's walks alone
set_option linter.unusedVariables false
set_option linter.unusedSimpArgs false
attribute [local go_sem high] eqA166
open Go.Proofs.YtnmlmgmljoncoaaGreatDoor.Th Flo
set_option maxHeartbeats 8000000 in
set_option maxRecDepth 100000 in
theorem rp_none (W : Int) (h l e : Int) (m ng : Bool) (w : World) (AIM : round_aim.f W ng h l e m = some (0, 0, 0, false, 0, 0, 0, 0, false, false)) :
    Calls Tryz.prog 214 #[.int .i64 W, .bool ng, .agg #[.int .u64 h, .int .u64 l], .int .i64 e, .bool m] w fun en w' => en = .returned (.int .u64 0) ∧ Below w.heap.size w w' := by
  have hu41 := Tryz.underlying166
  have hu95 := Tryz.underlying191
  have hu97 := Tryz.underlying193
  have A_ := Aside0.mk AIM
  clear AIM
  go_enter Tryz.func214, Tryz.ntmps214
  go_wp2_with (first | (go_at_call 239; (with_reducible refine (round_aim.calls W ng h l e m 0 0 0 false 0 0 0 0 false false _ A_.out).mono ?_); rintro en w1 ⟨rfl, hb⟩))
  go_ret
  exact ⟨rfl, below_alloc (below_step (below_alloc (Below.refl _ w) _) hb) _⟩
set_option maxHeartbeats 8000000 in
set_option maxRecDepth 100000 in
theorem rp_short (W f lo hi : Int) (h l e r : Int) (m ng : Bool) (w : World) (AIM : round_aim.f W ng h l e m = some (h, l, e, m, W, f, lo, hi, ng, true))
    (C : (h = 0 ∧ l = 0 ∧ m = false ∧ shape_Zero.f W ng = some r) ∨ (((h == 0) && (l == 0) && !m) = false ∧ ((1048576 < e ∧ shape_Inf.f W ng = some r) ∨ (e < -1048576 ∧ shape_Zero.f W ng = some r)))) :
    Calls Tryz.prog 214 #[.int .i64 W, .bool ng, .agg #[.int .u64 h, .int .u64 l], .int .i64 e, .bool m] w fun en w' => en = .returned (.int .u64 r) ∧ Below w.heap.size w w' := by
  have hu41 := Tryz.underlying166
  have hu95 := Tryz.underlying191
  have hu97 := Tryz.underlying193
  have A_ := Aside0.mk AIM
  clear AIM
  obtain ⟨bh, hh⟩ : ∃ y, (h == 0) = y := ⟨_, rfl⟩
  obtain ⟨bl_, hl⟩ : ∃ y, (l == 0) = y := ⟨_, rfl⟩
  rw [hh, hl] at C
  rcases C with ⟨rfl, rfl, rfl, B_⟩ | ⟨Z, C⟩
  · have B := Aside0.mk B_
    clear B_ hh hl
    go_enter Tryz.func214, Tryz.ntmps214
    go_wp2_with (first
      | (go_at_call 239; (with_reducible refine (round_aim.calls W ng 0 0 e false 0 0 e false W f lo hi ng true _ A_.out).mono ?_); rintro en w1 ⟨rfl, hb⟩; have sa := ((Nr.bcell hb).1 w.heap.size 0 (by simp)).trans (show _ = some (Value.int .u64 0) by simp [go_sem]); have sb := ((Nr.bcell hb).1 w.heap.size 1 (by simp)).trans (show _ = some (Value.int .u64 0) by simp [go_sem]); have hz := Nat.lt_of_lt_of_le (show w.heap.size < (w.alloc (.cells #[.int .u64 0, .int .u64 0] 166 (0, 0))).heap.size by simp) hb.size; have H1 := Aside0.mk (below_step (below_alloc (Below.refl _ w) _) hb); clear hb)
      | (go_at_call 145; (with_reducible refine (shape_Zero.calls W ng r _ B.out).mono ?_); rintro en w2 ⟨rfl, hb⟩))
    go_ret
    exact ⟨rfl, below_step (below_alloc H1.out _) hb⟩
  · have key : Aside0 ((decide (1048576 < e) = true ∧ shape_Inf.f W ng = some r) ∨ (decide (1048576 < e) = false ∧ decide (e < -1048576) = true ∧ shape_Zero.f W ng = some r)) := ⟨by
      rcases C with ⟨h1, h2⟩ | ⟨h1, h2⟩
      · exact .inl ⟨decide_eq_true h1, h2⟩
      · exact .inr ⟨decide_eq_false (by omega), decide_eq_true h1, h2⟩⟩
    clear C
    cases bh <;> cases bl_ <;> cases m <;> first
      | (exfalso; simp at Z; done)
      | (clear Z
         rcases key.out with ⟨d, B_⟩ | ⟨d, d2, B_⟩
         all_goals
          have B := Aside0.mk B_
          clear B_ key
          go_enter Tryz.func214, Tryz.ntmps214
          go_wp2_with (first
            | (go_at_call 239; (with_reducible refine (round_aim.calls W ng h l e _ h l e _ W f lo hi ng true _ A_.out).mono ?_); rintro en w1 ⟨rfl, hb⟩; have sa := ((Nr.bcell hb).1 w.heap.size 0 (by simp)).trans (show _ = some (Value.int .u64 h) by simp [go_sem]); have sb := ((Nr.bcell hb).1 w.heap.size 1 (by simp)).trans (show _ = some (Value.int .u64 l) by simp [go_sem]); have hz := Nat.lt_of_lt_of_le (show w.heap.size < (w.alloc (.cells #[.int .u64 h, .int .u64 l] 166 (0, 0))).heap.size by simp) hb.size; have H1 := Aside0.mk (below_step (below_alloc (Below.refl _ w) _) hb); clear hb)
            | (go_at_call 145; (with_reducible refine (shape_Zero.calls W ng r _ B.out).mono ?_); rintro en w2 ⟨rfl, hb⟩)
            | (go_at_call 147; (with_reducible refine (shape_Inf.calls W ng r _ B.out).mono ?_); rintro en w2 ⟨rfl, hb⟩))
          go_ret
          exact ⟨rfl, below_step (below_alloc H1.out _) hb⟩)
end Go.Proofs.YtnmlmgmljoncoaaGreatDoor.PA
namespace Go.Proofs.YtnmlmgmljoncoaaGreatDoor.PA
open Go.RowKit Go.Proofs.YtnmlmgmljoncoaaGreatDoorW.PrintWords Go.Proofs.YtnmlmgmljoncoaaGreatDoorW.PrintLast Go.Proofs.YtnmlmgmljoncoaaGreatDoorW.PrintMore
attribute [local go_sem] max2_int min2_int max_two min_two max_three min_three max_four min_four   -- for this text's walks alone
set_option linter.unusedVariables false
set_option linter.unusedSimpArgs false
set_option maxHeartbeats 8000000
set_option maxRecDepth 100000
-- IMPORT Derived.Test.YtnmlmgmljoncoaaGreatDoorHRpF
def round_Pack.f (a0 : Int) (a1 : Bool) (a2_0 : Int) (a2_1 : Int) (a3 : Int) (a4 : Bool) : Option (Int) :=
 if (0 ≤ a2_0 ∧ a2_0 < 18446744073709551616) ∧ (0 ≤ a2_1 ∧ a2_1 < 18446744073709551616) then
  some (if a0 = 32 ∨ a0 = 64 then ((Th.mkN a0 (Th.pkm (Th.fmt a0) (Th.wn a2_0.toNat a2_1.toNat) a3 a4) a1 : Nat) : Int) else 0) else none
theorem round_Pack.calls (a0 : Int) (a1 : Bool) (a2_0 : Int) (a2_1 : Int) (a3 : Int) (a4 : Bool) (r : Int) (w : World) (h : round_Pack.f a0 a1 a2_0 a2_1 a3 a4 = some r) :
  Calls Tryz.prog 214 #[.int .i64 a0, .bool a1, .agg #[.int .u64 a2_0, .int .u64 a2_1], .int .i64 a3, .bool a4] w fun e w' => e = .returned (.int .u64 r) ∧ Below w.heap.size w w' := by
 unfold round_Pack.f at h
 split at h
 rotate_left
 ·cases h
 rename_i hr
 obtain ⟨⟨p1, p2⟩, p3, p4⟩ := hr
 obtain rfl := Option.some.inj h
 obtain ⟨H, rfl⟩ := Int.eq_ofNat_of_zero_le p1
 obtain ⟨L, rfl⟩ := Int.eq_ofNat_of_zero_le p3
 rw [Int.toNat_natCast, Int.toNat_natCast]
 have hL : L < 18446744073709551616 := by omega
 have hS := Th.wn_lt (show H < 18446744073709551616 by omega) hL
 obtain ⟨e1, e2⟩ := Th.wHL H L hL
 have hz : Th.wn H L = 0 ↔ H = 0 ∧ L = 0 := by unfold Th.wn; omega
 by_cases hw : a0 = 32 ∨ a0 = 64
 ·rw [if_pos hw]
  have key : ∀ (f lo hi t2 t1 : Int), ((a0 = 32 ∧ f = 23 ∧ t2 = 16777216 ∧ t1 = 8388608) ∨ (a0 = 64 ∧ f = 52 ∧ t2 = 9007199254740992 ∧ t1 = 4503599627370496)) → lo = (Th.fmt a0).low → hi = (Th.fmt a0).low + (Th.fmt a0).top - 2 →
    (∀ ng h l e m, round_aim.f a0 ng h l e m = some (h, l, e, m, a0, f, lo, hi, ng, true)) → Calls Tryz.prog 214 #[.int .i64 a0, .bool a1, .agg #[.int .u64 (H : Int), .int .u64 (L : Int)], .int .i64 a3, .bool a4] w fun e w' => e = .returned (.int .u64 ((Th.mkN a0 (Th.pkm (Th.fmt a0) (Th.wn H L) a3 a4) a1 : Nat) : Int)) ∧ Below w.heap.size w w' := by
   intro f lo hi t2 t1 hW h1 h2 AIM
   by_cases c1 : Th.wn H L = 0 ∧ a4 = false
   ·refine rp_short a0 f lo hi H L a3 _ a4 a1 w (AIM _ _ _ _ _) (.inl ⟨by have := hz.1 c1.1; omega, by have := hz.1 c1.1; omega, c1.2, ?_⟩)
    unfold Th.pkm
    rw [if_pos c1]
    exact Th.shZ a0 hw a1
   ·have hb : (((H : Int) == 0) && ((L : Int) == 0) && !a4) = false := by
     cases a4
     ·have : ¬ (H = 0 ∧ L = 0) := fun h => c1 ⟨hz.2 h, rfl⟩
      rw [Bool.not_false, Bool.and_true, Bool.and_eq_false_iff, beq_eq_false_iff_ne, beq_eq_false_iff_ne]
      omega
     ·simp
    by_cases c2 : 1048576 < a3
    ·refine rp_short a0 f lo hi H L a3 _ a4 a1 w (AIM _ _ _ _ _) (.inr ⟨hb, .inl ⟨c2, ?_⟩⟩)
     unfold Th.pkm
     rw [if_neg c1, if_pos c2]
     exact Th.shI a0 hw a1
    ·by_cases c3 : a3 < -1048576
     ·refine rp_short a0 f lo hi H L a3 _ a4 a1 w (AIM _ _ _ _ _) (.inr ⟨hb, .inr ⟨c3, ?_⟩⟩)
      unfold Th.pkm
      rw [if_neg c1, if_neg c2, if_pos c3]
      exact Th.shZ a0 hw a1
     ·have := rp_main a0 f t2 t1 lo hi hW h1 h2 AIM (Th.wn H L) hS a3 a4 a1 (by
       cases a4
       ·exact .inl fun h => c1 ⟨h, rfl⟩
       ·exact .inr rfl) (by omega) (by omega) w
      rw [e1, e2] at this
      exact this
  rcases hw with rfl | rfl
  ·exact key 23 (-149) 104 16777216 8388608 (.inl ⟨rfl, rfl, rfl, rfl⟩) (by decide) (by decide) (fun ng h l e m => by
    unfold round_aim.f; rw [show shape_Fields.f 32 = some (8, 23) by decide, Option.bind_some, if_neg (by decide), if_pos (by decide +kernel), if_pos (by decide)]
    rw [show wrap64 ((wrap64 (2 - (shl .i64 1 (wrap64 ((8 : Int) - 1))))) - 23) = -149 by decide +kernel, show wrap64 ((wrap64 ((-149 : Int) + (shl .i64 1 8))) - 3) = 104 by decide +kernel])
  ·exact key 52 (-1074) 971 9007199254740992 4503599627370496 (.inr ⟨rfl, rfl, rfl, rfl⟩) (by decide) (by decide) (fun ng h l e m => by
    unfold round_aim.f; rw [show shape_Fields.f 64 = some (11, 52) by decide, Option.bind_some, if_neg (by decide), if_pos (by decide +kernel), if_pos (by decide)]
    rw [show wrap64 ((wrap64 (2 - (shl .i64 1 (wrap64 ((11 : Int) - 1))))) - 52) = -1074 by decide +kernel, show wrap64 ((wrap64 ((-1074 : Int) + (shl .i64 1 11))) - 3) = 971 by decide +kernel])
 ·rw [if_neg hw]
  refine rp_none a0 H L a3 a4 a1 w ?_
  unfold round_aim.f shape_Fields.f shape_of.f
  rw [if_neg (by omega), if_neg (by omega)]
  rfl
mutual
def product_parts.j0 : Nat → Int → Bool → Bool → Bool → Int → Int → Int → Bool → Int → Int → Int → Option (Int)
 | 0, _, _, _, _, _, _, _, _, _, _, _ => none
 | k + 1, x0, x7, x8, x461000, x461001, x461002, x461003, x462000, x462001, x462002, x462003 => if x461001 = 2 then (product_parts.j1 k x0 x7 x8 true x461000 x461001 x461002 x461003 x462000 x462001 x462002 x462003) else (product_parts.j1 k x0 x7 x8 (x462001 == 2) x461000 x461001 x461002 x461003 x462000 x462001 x462002 x462003)
def product_parts.j1 : Nat → Int → Bool → Bool → Bool → Bool → Int → Int → Int → Bool → Int → Int → Int → Option (Int)
 | 0, _, _, _, _, _, _, _, _, _, _, _, _ => none
 | k + 1, x0, x7, x8, x9, x461000, x461001, x461002, x461003, x462000, x462001, x462002, x462003 => if x461001 = 3 then (product_parts.j2 k x0 x7 x8 x9 true x461000 x461001 x461002 x461003 x462000 x462001 x462002 x462003) else (if x462001 = 3 then (product_parts.j2 k x0 x7 x8 x9 true x461000 x461001 x461002 x461003 x462000 x462001 x462002 x462003) else (if x8 = true then (product_parts.j2 k x0 x7 x8 x9 x9 x461000 x461001 x461002 x461003 x462000 x462001 x462002 x462003) else (product_parts.j2 k x0 x7 x8 x9 false x461000 x461001 x461002 x461003 x462000 x462001 x462002 x462003)))
def product_parts.j2 : Nat → Int → Bool → Bool → Bool → Bool → Bool → Int → Int → Int → Bool → Int → Int → Int → Option (Int)
 | 0, _, _, _, _, _, _, _, _, _, _, _, _, _ => none
 | k + 1, x0, x7, x8, x9, x31, x461000, x461001, x461002, x461003, x462000, x462001, x462002, x462003 => if x31 = true then ((shape_Nan.f x0).bind fun t462 => (some t462)) else (if x9 = true then ((shape_Inf.f x0 x7).bind fun t463 => (some t463)) else (if x8 = true then ((shape_Zero.f x0 x7).bind fun t464 => (some t464)) else ((wide_Mul.f x461003 x462003).bind fun bt465 => ((round_Pack.f x0 x7 bt465.1 bt465.2 (wrap64 (x461002 + x462002)) false).bind fun t467 => (some t467)))))
end
def product_parts.f (k : Nat) (a0 : Int) (a1_0 : Bool) (a1_1 : Int) (a1_2 : Int) (a1_3 : Int) (a2_0 : Bool) (a2_1 : Int) (a2_2 : Int) (a2_3 : Int) : Option (Int) := if a1_1 = 0 then (product_parts.j0 k a0 (a1_0 != a2_0) true a1_0 a1_1 a1_2 a1_3 a2_0 a2_1 a2_2 a2_3) else (product_parts.j0 k a0 (a1_0 != a2_0) (a2_1 == 0) a1_0 a1_1 a1_2 a1_3 a2_0 a2_1 a2_2 a2_3)
theorem product_parts.mono_l : ∀ k, (∀ y0 y1 y2 y3 y4 y5 y6 y7 y8 y9 y10, LeO (product_parts.j0 k y0 y1 y2 y3 y4 y5 y6 y7 y8 y9 y10) (product_parts.j0 (k + 1) y0 y1 y2 y3 y4 y5 y6 y7 y8 y9 y10)) ∧ (∀ y0 y1 y2 y3 y4 y5 y6 y7 y8 y9 y10 y11, LeO (product_parts.j1 k y0 y1 y2 y3 y4 y5 y6 y7 y8 y9 y10 y11) (product_parts.j1 (k + 1) y0 y1 y2 y3 y4 y5 y6 y7 y8 y9 y10 y11)) ∧ (∀ y0 y1 y2 y3 y4 y5 y6 y7 y8 y9 y10 y11 y12, LeO (product_parts.j2 k y0 y1 y2 y3 y4 y5 y6 y7 y8 y9 y10 y11 y12) (product_parts.j2 (k + 1) y0 y1 y2 y3 y4 y5 y6 y7 y8 y9 y10 y11 y12))
 | 0 => ⟨fun _ _ _ _ _ _ _ _ _ _ _ r h => by simp [product_parts.j0] at h, fun _ _ _ _ _ _ _ _ _ _ _ _ r h => by simp [product_parts.j1] at h, fun _ _ _ _ _ _ _ _ _ _ _ _ _ r h => by simp [product_parts.j2] at h⟩
 | k + 1 => by
  obtain ⟨ih0, ih1, ih2⟩ := product_parts.mono_l k
  refine ⟨?_, ?_, ?_⟩
  ·intro y0 y1 y2 y3 y4 y5 y6 y7 y8 y9 y10
   unfold product_parts.j0
   repeat' first
   | (with_reducible exact ih0 _ _ _ _ _ _ _ _ _ _ _)
   | (with_reducible exact ih1 _ _ _ _ _ _ _ _ _ _ _ _)
   | (with_reducible exact ih2 _ _ _ _ _ _ _ _ _ _ _ _ _)
   | (with_reducible exact LeO.refl _)
   | (with_reducible exact LeO.none _)
   | (with_reducible refine LeO.ite ?_ ?_)
   | (with_reducible refine LeO.bind ?_ (fun _ => ?_))
   | exact ih0 _ _ _ _ _ _ _ _ _ _ _
   | exact ih1 _ _ _ _ _ _ _ _ _ _ _ _
   | exact ih2 _ _ _ _ _ _ _ _ _ _ _ _ _
   | exact LeO.none _
   | refine LeO.ite ?_ ?_
   | refine LeO.bind ?_ (fun _ => ?_)
  ·intro y0 y1 y2 y3 y4 y5 y6 y7 y8 y9 y10 y11
   unfold product_parts.j1
   repeat' first
   | (with_reducible exact ih0 _ _ _ _ _ _ _ _ _ _ _)
   | (with_reducible exact ih1 _ _ _ _ _ _ _ _ _ _ _ _)
   | (with_reducible exact ih2 _ _ _ _ _ _ _ _ _ _ _ _ _)
   | (with_reducible exact LeO.refl _)
   | (with_reducible exact LeO.none _)
   | (with_reducible refine LeO.ite ?_ ?_)
   | (with_reducible refine LeO.bind ?_ (fun _ => ?_))
   | exact ih0 _ _ _ _ _ _ _ _ _ _ _
   | exact ih1 _ _ _ _ _ _ _ _ _ _ _ _
   | exact ih2 _ _ _ _ _ _ _ _ _ _ _ _ _
   | exact LeO.none _
   | refine LeO.ite ?_ ?_
   | refine LeO.bind ?_ (fun _ => ?_)
  ·intro y0 y1 y2 y3 y4 y5 y6 y7 y8 y9 y10 y11 y12
   unfold product_parts.j2
   repeat' first
   | (with_reducible exact ih0 _ _ _ _ _ _ _ _ _ _ _)
   | (with_reducible exact ih1 _ _ _ _ _ _ _ _ _ _ _ _)
   | (with_reducible exact ih2 _ _ _ _ _ _ _ _ _ _ _ _ _)
   | (with_reducible exact LeO.refl _)
   | (with_reducible exact LeO.none _)
   | (with_reducible refine LeO.ite ?_ ?_)
   | (with_reducible refine LeO.bind ?_ (fun _ => ?_))
   | exact ih0 _ _ _ _ _ _ _ _ _ _ _
   | exact ih1 _ _ _ _ _ _ _ _ _ _ _ _
   | exact ih2 _ _ _ _ _ _ _ _ _ _ _ _ _
   | exact LeO.none _
   | refine LeO.ite ?_ ?_
   | refine LeO.bind ?_ (fun _ => ?_)
theorem product_parts.mono : ∀ a0 a1 a2 a3 a4 a5 a6 a7 a8 k, LeO (product_parts.f k a0 a1 a2 a3 a4 a5 a6 a7 a8) (product_parts.f (k + 1) a0 a1 a2 a3 a4 a5 a6 a7 a8) := by
 intro a0 a1 a2 a3 a4 a5 a6 a7 a8 k
 obtain ⟨ih0, ih1, ih2⟩ := product_parts.mono_l k
 unfold product_parts.f
 repeat' first
   | (with_reducible exact ih0 _ _ _ _ _ _ _ _ _ _ _)
   | (with_reducible exact ih1 _ _ _ _ _ _ _ _ _ _ _ _)
   | (with_reducible exact ih2 _ _ _ _ _ _ _ _ _ _ _ _ _)
   | (with_reducible exact LeO.refl _)
   | (with_reducible exact LeO.none _)
   | (with_reducible refine LeO.ite ?_ ?_)
   | (with_reducible refine LeO.bind ?_ (fun _ => ?_))
   | exact ih0 _ _ _ _ _ _ _ _ _ _ _
   | exact ih1 _ _ _ _ _ _ _ _ _ _ _ _
   | exact ih2 _ _ _ _ _ _ _ _ _ _ _ _ _
   | exact LeO.none _
   | refine LeO.ite ?_ ?_
   | refine LeO.bind ?_ (fun _ => ?_)
def product_parts.T10 : Bool × List (List Nat × List Nat) := (true, [([], []), ([], []), ([], []), ([2], [2]), ([], []), ([4], [4]), ([3, 5], [3, 5]), ([], []), ([7], [7]), ([], []), ([9], [9]), ([8, 10], [8, 10]), ([0, 1, 6, 11, 6], [0, 1, 6, 11]), ([12, 12, 0, 1, 2, 3, 4, 5, 6, 7, 8, 9, 10, 11, 12], [12])])
def product_parts.B10 : List Nat := [0, 0, 0, 4, 0, 16, 60, 0, 128, 0, 512, 1920, 4095, 8191]
theorem product_parts.tab10 : rtab .any (opsOf Tryz.f152 10) = product_parts.T10 := by kernel_rfl
theorem product_parts.bits10 : waitsOk product_parts.T10.2 product_parts.B10 = true := by kernel_rfl
theorem product_parts.calls (k : Nat) (a0 : Int) (a1_0 : Bool) (a1_1 : Int) (a1_2 : Int) (a1_3 : Int) (a2_0 : Bool) (a2_1 : Int) (a2_2 : Int) (a2_3 : Int) (r : Int) (w : World) (h : product_parts.f k a0 a1_0 a1_1 a1_2 a1_3 a2_0 a2_1 a2_2 a2_3 = some r) :
  Calls Tryz.prog 152 #[.int .i64 a0, .agg #[.bool a1_0, .int .i64 a1_1, .int .i64 a1_2, .int .u64 a1_3], .agg #[.bool a2_0, .int .i64 a2_1, .int .i64 a2_2, .int .u64 a2_3]] w fun e w' => e = .returned (.int .u64 r) ∧ Below w.heap.size w w' := by
 have hu27 := Tryz.underlying27
 have HB := A_ (Below.refl w.heap.size w)
 have H : (if a1_1 = 0 then (product_parts.j0 k a0 (a1_0 != a2_0) true a1_0 a1_1 a1_2 a1_3 a2_0 a2_1 a2_2 a2_3) else (product_parts.j0 k a0 (a1_0 != a2_0) (a2_1 == 0) a1_0 a1_1 a1_2 a1_3 a2_0 a2_1 a2_2 a2_3)) = some r := h
 clear h;have HC4 := A_ H;clear H
 go_enter Tryz.func152, Tryz.ntmps152
 go_upto_region 2 with (first | ((with_reducible refine gate_dst (N := 4) rfl ?_); refine be_ 4 #[.bool a1_0, .int .i64 a1_1, .int .i64 a1_2, .int .u64 a1_3] 27 ?_; intro gb460 hg w5 hbox hb; have BK460 := A_ (hbox); have GW460 := A_ (sz_ hg (hb_ HB.out)); have GE460 := A_ (sz_ hg (hb_ HB.out)); replace HB := A_ (below_step (hb_ HB.out) hb); clear hb hbox hg) | ((with_reducible refine gate_dst (N := 5) rfl ?_); refine be_ 5 #[.bool a2_0, .int .i64 a2_1, .int .i64 a2_2, .int .u64 a2_3] 27 ?_; intro gb461 hg w6 hbox hb; have BK461 := A_ (hbox); have GW461 := A_ (sz_ hg (hb1_ HB.out GE460.out)); have GE461 := A_ (sz_ hg (hb1_ HB.out GE460.out)); have NB460_461 := A_ (nl_ hg BK460.out); have NB461_460 := A_ (ng_ hg BK460.out); replace BK460 := A_ (bb_ BK460.out hb); replace HB := A_ (below_step (hb1_ HB.out GE460.out) hb); clear hb hbox hg; have hnb7 := NB460_461.out; have hnc7 := NB461_460.out; have hcz8_0 := bv_ BK460.out 0; have hcz8_1 := bv_ BK460.out 1; have hcz8_2 := bv_ BK460.out 2; have hcz8_3 := bv_ BK460.out 3; have hfz8_0 := blk_frozen BK460.out 0; have hfz8_1 := blk_frozen BK460.out 1; have hfz8_2 := blk_frozen BK460.out 2; have hfz8_3 := blk_frozen BK460.out 3; have hcz9_0 := bv_ BK461.out 0; have hcz9_1 := bv_ BK461.out 1; have hcz9_2 := bv_ BK461.out 2; have hcz9_3 := bv_ BK461.out 3; have hfz9_0 := blk_frozen BK461.out 0; have hfz9_1 := blk_frozen BK461.out 1; have hfz9_2 := blk_frozen BK461.out 2; have hfz9_3 := blk_frozen BK461.out 3))
 (try simp only [Act.put, lI_, l0_, lS_])
 go_cut [8] (fun v8 wc => ∃ (kq : Nat) (x8_3 : Bool), v8 = .bool x8_3 ∧ Aside0 (product_parts.j0 kq a0 (a1_0 != a2_0) x8_3 a1_0 a1_1 a1_2 a1_3 a2_0 a2_1 a2_2 a2_3 = some r) ∧ Aside0 (kq ≤ k) ∧ Aside0 (wc.heap[gb460]? = some (.cells #[.bool a1_0, .int .i64 a1_1, .int .i64 a1_2, .int .u64 a1_3] 27 (0, 0))) ∧ Aside0 (wc.heap[gb461]? = some (.cells #[.bool a2_0, .int .i64 a2_1, .int .i64 a2_2, .int .u64 a2_3] 27 (0, 0))) ∧ Aside0 (Below w.heap.size w wc))
 case first =>
  have H := HC4.out
  clear HC4
  by_cases c10 : a1_1 = 0
  ·rw [if_pos c10] at H
   have c10b0 : (a1_1 == 0) = true := beq_iff_eq.mpr c10
   have c10b1 : (a1_1 != 0) = false := bne_eq_false_iff_eq.mpr c10
   clear c10
   (first | rw [c10b0] | (simp only [i64_w, i32_w]; rw [c10b0]) | skip)
   have H' := A_ H
   clear H
   have hnb11 := NB460_461.out
   have hnc11 := NB461_460.out
   have hcz12_0 := bv_ BK460.out 0
   have hcz12_1 := bv_ BK460.out 1
   have hcz12_2 := bv_ BK460.out 2
   have hcz12_3 := bv_ BK460.out 3
   have hfz12_0 := blk_frozen BK460.out 0
   have hfz12_1 := blk_frozen BK460.out 1
   have hfz12_2 := blk_frozen BK460.out 2
   have hfz12_3 := blk_frozen BK460.out 3
   go_wp2
   go_meet
   case rel => exact ⟨_, (true), sm_, H', ⟨by first | omega | exact Nat.le_refl _⟩, ⟨bk_ BK460.out⟩, ⟨bk_ BK461.out⟩, ⟨hb2_ HB.out GE460.out GE461.out⟩⟩
  ·rw [if_neg c10] at H
   have c10b0 : (a1_1 == 0) = false := beq_eq_false_iff_ne.mpr c10
   have c10b1 : (a1_1 != 0) = true := bne_iff_ne.mpr c10
   (first | rw [c10b0] | (simp only [i64_w, i32_w]; rw [c10b0]) | skip)
   have H' := A_ H
   clear H
   have hnb13 := NB460_461.out
   have hnc13 := NB461_460.out
   have hcz14_0 := bv_ BK460.out 0
   have hcz14_1 := bv_ BK460.out 1
   have hcz14_2 := bv_ BK460.out 2
   have hcz14_3 := bv_ BK460.out 3
   have hfz14_0 := blk_frozen BK460.out 0
   have hfz14_1 := blk_frozen BK460.out 1
   have hfz14_2 := blk_frozen BK460.out 2
   have hfz14_3 := blk_frozen BK460.out 3
   have hcz15_0 := bv_ BK461.out 0
   have hcz15_1 := bv_ BK461.out 1
   have hcz15_2 := bv_ BK461.out 2
   have hcz15_3 := bv_ BK461.out 3
   have hfz15_0 := blk_frozen BK461.out 0
   have hfz15_1 := blk_frozen BK461.out 1
   have hfz15_2 := blk_frozen BK461.out 2
   have hfz15_3 := blk_frozen BK461.out 3
   go_wp2
   go_meet
   case rel => exact ⟨_, ((a2_1 == 0)), sm_, H', ⟨by first | omega | exact Nat.le_refl _⟩, ⟨bk_ BK460.out⟩, ⟨bk_ BK461.out⟩, ⟨hb2_ HB.out GE460.out GE461.out⟩⟩
 case rest =>
  clear HC4
  try clear c1
  try clear p2
  try clear c7
  try clear c10
  try clear c10b0
  try clear c10b1
  try clear c11
  try clear c13
  try clear c15
  try clear hcz12_0
  try clear hcz12_1
  try clear hcz12_2
  try clear hcz12_3
  try clear hcz14_0
  try clear hcz14_1
  try clear hcz14_2
  try clear hcz14_3
  try clear hcz15_0
  try clear hcz15_1
  try clear hcz15_2
  try clear hcz15_3
  try clear hcz8_0
  try clear hcz8_1
  try clear hcz8_2
  try clear hcz8_3
  try clear hcz9_0
  try clear hcz9_1
  try clear hcz9_2
  try clear hcz9_3
  try clear hfz12_0
  try clear hfz12_1
  try clear hfz12_2
  try clear hfz12_3
  try clear hfz14_0
  try clear hfz14_1
  try clear hfz14_2
  try clear hfz14_3
  try clear hfz15_0
  try clear hfz15_1
  try clear hfz15_2
  try clear hfz15_3
  try clear hfz8_0
  try clear hfz8_1
  try clear hfz8_2
  try clear hfz8_3
  try clear hfz9_0
  try clear hfz9_1
  try clear hfz9_2
  try clear hfz9_3
  obtain ⟨kq, x8_3, rfl, HA, HJ3, BK460, BK461, HB⟩ := hcut
  cases kq with
  | zero => exact absurd HA.out (by simp [product_parts.j0])
  | succ kj3 =>
   have H := HA.out
   clear HA
   simp only [product_parts.j0] at H
   have HC16 := A_ H;clear H
   go_upto_region 3 with (fail)
   go_cut [9] (fun v9 wc => ∃ (kq : Nat) (x9_15 : Bool), v9 = .bool x9_15 ∧ Aside0 (product_parts.j1 kq a0 (a1_0 != a2_0) x8_3 x9_15 a1_0 a1_1 a1_2 a1_3 a2_0 a2_1 a2_2 a2_3 = some r) ∧ Aside0 (kq ≤ kj3) ∧ Aside0 (wc.heap[gb460]? = some (.cells #[.bool a1_0, .int .i64 a1_1, .int .i64 a1_2, .int .u64 a1_3] 27 (0, 0))) ∧ Aside0 (wc.heap[gb461]? = some (.cells #[.bool a2_0, .int .i64 a2_1, .int .i64 a2_2, .int .u64 a2_3] 27 (0, 0))) ∧ Aside0 (Below w.heap.size w wc))
   case first =>
    have H := HC16.out
    clear HC16
    by_cases c17 : a1_1 = 2
    ·rw [if_pos c17] at H
     have c17b0 : (a1_1 == 2) = true := beq_iff_eq.mpr c17
     have c17b1 : (a1_1 != 2) = false := bne_eq_false_iff_eq.mpr c17
     clear c17
     (first | rw [c17b0] | (simp only [i64_w, i32_w]; rw [c17b0]) | skip)
     have H' := A_ H
     clear H
     have hnb18 := NB460_461.out
     have hnc18 := NB461_460.out
     have hcz19_0 := bv_ BK460.out 0
     have hcz19_1 := bv_ BK460.out 1
     have hcz19_2 := bv_ BK460.out 2
     have hcz19_3 := bv_ BK460.out 3
     have hfz19_0 := blk_frozen BK460.out 0
     have hfz19_1 := blk_frozen BK460.out 1
     have hfz19_2 := blk_frozen BK460.out 2
     have hfz19_3 := blk_frozen BK460.out 3
     go_wp2
     go_meet
     case rel => exact ⟨_, (true), sm_, H', ⟨by have := HJ3.out; first | omega | exact Nat.le_refl _⟩, ⟨bk_ BK460.out⟩, ⟨bk_ BK461.out⟩, ⟨hb2_ HB.out GE460.out GE461.out⟩⟩
    ·rw [if_neg c17] at H
     have c17b0 : (a1_1 == 2) = false := beq_eq_false_iff_ne.mpr c17
     have c17b1 : (a1_1 != 2) = true := bne_iff_ne.mpr c17
     (first | rw [c17b0] | (simp only [i64_w, i32_w]; rw [c17b0]) | skip)
     have H' := A_ H
     clear H
     have hnb20 := NB460_461.out
     have hnc20 := NB461_460.out
     have hcz21_0 := bv_ BK460.out 0
     have hcz21_1 := bv_ BK460.out 1
     have hcz21_2 := bv_ BK460.out 2
     have hcz21_3 := bv_ BK460.out 3
     have hfz21_0 := blk_frozen BK460.out 0
     have hfz21_1 := blk_frozen BK460.out 1
     have hfz21_2 := blk_frozen BK460.out 2
     have hfz21_3 := blk_frozen BK460.out 3
     have hcz22_0 := bv_ BK461.out 0
     have hcz22_1 := bv_ BK461.out 1
     have hcz22_2 := bv_ BK461.out 2
     have hcz22_3 := bv_ BK461.out 3
     have hfz22_0 := blk_frozen BK461.out 0
     have hfz22_1 := blk_frozen BK461.out 1
     have hfz22_2 := blk_frozen BK461.out 2
     have hfz22_3 := blk_frozen BK461.out 3
     go_wp2
     go_meet
     case rel => exact ⟨_, ((a2_1 == 2)), sm_, H', ⟨by have := HJ3.out; first | omega | exact Nat.le_refl _⟩, ⟨bk_ BK460.out⟩, ⟨bk_ BK461.out⟩, ⟨hb2_ HB.out GE460.out GE461.out⟩⟩
   case rest =>
    clear HC16
    try clear c1
    try clear c2
    try clear p2
    try clear c7
    try clear c10
    try clear c10b0
    try clear c10b1
    try clear c11
    try clear c13
    try clear c15
    try clear c17
    try clear c17b0
    try clear c17b1
    try clear c18
    try clear c20
    try clear hcz12_0
    try clear hcz12_1
    try clear hcz12_2
    try clear hcz12_3
    try clear hcz14_0
    try clear hcz14_1
    try clear hcz14_2
    try clear hcz14_3
    try clear hcz15_0
    try clear hcz15_1
    try clear hcz15_2
    try clear hcz15_3
    try clear hcz19_0
    try clear hcz19_1
    try clear hcz19_2
    try clear hcz19_3
    try clear hcz21_0
    try clear hcz21_1
    try clear hcz21_2
    try clear hcz21_3
    try clear hcz22_0
    try clear hcz22_1
    try clear hcz22_2
    try clear hcz22_3
    try clear hcz8_0
    try clear hcz8_1
    try clear hcz8_2
    try clear hcz8_3
    try clear hcz9_0
    try clear hcz9_1
    try clear hcz9_2
    try clear hcz9_3
    try clear hfz12_0
    try clear hfz12_1
    try clear hfz12_2
    try clear hfz12_3
    try clear hfz14_0
    try clear hfz14_1
    try clear hfz14_2
    try clear hfz14_3
    try clear hfz15_0
    try clear hfz15_1
    try clear hfz15_2
    try clear hfz15_3
    try clear hfz19_0
    try clear hfz19_1
    try clear hfz19_2
    try clear hfz19_3
    try clear hfz21_0
    try clear hfz21_1
    try clear hfz21_2
    try clear hfz21_3
    try clear hfz22_0
    try clear hfz22_1
    try clear hfz22_2
    try clear hfz22_3
    try clear hfz8_0
    try clear hfz8_1
    try clear hfz8_2
    try clear hfz8_3
    try clear hfz9_0
    try clear hfz9_1
    try clear hfz9_2
    try clear hfz9_3
    try clear p2
    obtain ⟨kq, x9_15, rfl, HA, HJ15, BK460, BK461, HB⟩ := hcut
    cases kq with
    | zero => exact absurd HA.out (by simp [product_parts.j1])
    | succ kj15 =>
     have H := HA.out
     clear HA
     simp only [product_parts.j1] at H
     have HC23 := A_ H;clear H
     go_upto_region 4 with (fail)
     go_cut [31] (fun v31 wc => ∃ (kq : Nat) (x31_22 : Bool), v31 = .bool x31_22 ∧ Aside0 (product_parts.j2 kq a0 (a1_0 != a2_0) x8_3 x9_15 x31_22 a1_0 a1_1 a1_2 a1_3 a2_0 a2_1 a2_2 a2_3 = some r) ∧ Aside0 (kq ≤ kj15) ∧ Aside0 (wc.heap[gb460]? = some (.cells #[.bool a1_0, .int .i64 a1_1, .int .i64 a1_2, .int .u64 a1_3] 27 (0, 0))) ∧ Aside0 (wc.heap[gb461]? = some (.cells #[.bool a2_0, .int .i64 a2_1, .int .i64 a2_2, .int .u64 a2_3] 27 (0, 0))) ∧ Aside0 (Below w.heap.size w wc))
     case first =>
      have H := HC23.out
      clear HC23
      by_cases c24 : a1_1 = 3
      ·rw [if_pos c24] at H
       have c24b0 : (a1_1 == 3) = true := beq_iff_eq.mpr c24
       have c24b1 : (a1_1 != 3) = false := bne_eq_false_iff_eq.mpr c24
       clear c24
       (first | rw [c24b0] | (simp only [i64_w, i32_w]; rw [c24b0]) | skip)
       have H' := A_ H
       clear H
       have hnb25 := NB460_461.out
       have hnc25 := NB461_460.out
       have hcz26_0 := bv_ BK460.out 0
       have hcz26_1 := bv_ BK460.out 1
       have hcz26_2 := bv_ BK460.out 2
       have hcz26_3 := bv_ BK460.out 3
       have hfz26_0 := blk_frozen BK460.out 0
       have hfz26_1 := blk_frozen BK460.out 1
       have hfz26_2 := blk_frozen BK460.out 2
       have hfz26_3 := blk_frozen BK460.out 3
       go_wp2
       go_meet
       case rel => exact ⟨_, (true), sm_, H', ⟨by have := HJ3.out; have := HJ15.out; first | omega | exact Nat.le_refl _⟩, ⟨bk_ BK460.out⟩, ⟨bk_ BK461.out⟩, ⟨hb2_ HB.out GE460.out GE461.out⟩⟩
      ·rw [if_neg c24] at H
       have c24b0 : (a1_1 == 3) = false := beq_eq_false_iff_ne.mpr c24
       have c24b1 : (a1_1 != 3) = true := bne_iff_ne.mpr c24
       (first | rw [c24b0] | (simp only [i64_w, i32_w]; rw [c24b0]) | skip)
       by_cases c27 : a2_1 = 3
       ·rw [if_pos c27] at H
        have c27b0 : (a2_1 == 3) = true := beq_iff_eq.mpr c27
        have c27b1 : (a2_1 != 3) = false := bne_eq_false_iff_eq.mpr c27
        clear c27
        have H' := A_ H
        clear H
        have hnb28 := NB460_461.out
        have hnc28 := NB461_460.out
        have hcz29_0 := bv_ BK460.out 0
        have hcz29_1 := bv_ BK460.out 1
        have hcz29_2 := bv_ BK460.out 2
        have hcz29_3 := bv_ BK460.out 3
        have hfz29_0 := blk_frozen BK460.out 0
        have hfz29_1 := blk_frozen BK460.out 1
        have hfz29_2 := blk_frozen BK460.out 2
        have hfz29_3 := blk_frozen BK460.out 3
        have hcz30_0 := bv_ BK461.out 0
        have hcz30_1 := bv_ BK461.out 1
        have hcz30_2 := bv_ BK461.out 2
        have hcz30_3 := bv_ BK461.out 3
        have hfz30_0 := blk_frozen BK461.out 0
        have hfz30_1 := blk_frozen BK461.out 1
        have hfz30_2 := blk_frozen BK461.out 2
        have hfz30_3 := blk_frozen BK461.out 3
        go_wp2
        go_meet
        case rel => exact ⟨_, (true), sm_, H', ⟨by have := HJ3.out; have := HJ15.out; first | omega | exact Nat.le_refl _⟩, ⟨bk_ BK460.out⟩, ⟨bk_ BK461.out⟩, ⟨hb2_ HB.out GE460.out GE461.out⟩⟩
       ·rw [if_neg c27] at H
        have c27b0 : (a2_1 == 3) = false := beq_eq_false_iff_ne.mpr c27
        have c27b1 : (a2_1 != 3) = true := bne_iff_ne.mpr c27
        by_cases c31 : x8_3 = true
        ·subst c31
         have H1 : (product_parts.j2 kj15 a0 (a1_0 != a2_0) true x9_15 x9_15 a1_0 a1_1 a1_2 a1_3 a2_0 a2_1 a2_2 a2_3) = some r := by rw [if_pos rfl] at H; exact H
         clear H;have H := H1;clear H1
         have H' := A_ H
         clear H
         have hnb32 := NB460_461.out
         have hnc32 := NB461_460.out
         have hcz33_0 := bv_ BK460.out 0
         have hcz33_1 := bv_ BK460.out 1
         have hcz33_2 := bv_ BK460.out 2
         have hcz33_3 := bv_ BK460.out 3
         have hfz33_0 := blk_frozen BK460.out 0
         have hfz33_1 := blk_frozen BK460.out 1
         have hfz33_2 := blk_frozen BK460.out 2
         have hfz33_3 := blk_frozen BK460.out 3
         have hcz34_0 := bv_ BK461.out 0
         have hcz34_1 := bv_ BK461.out 1
         have hcz34_2 := bv_ BK461.out 2
         have hcz34_3 := bv_ BK461.out 3
         have hfz34_0 := blk_frozen BK461.out 0
         have hfz34_1 := blk_frozen BK461.out 1
         have hfz34_2 := blk_frozen BK461.out 2
         have hfz34_3 := blk_frozen BK461.out 3
         go_wp2
         go_meet
         case rel => exact ⟨_, (x9_15), sm_, H', ⟨by have := HJ3.out; have := HJ15.out; first | omega | exact Nat.le_refl _⟩, ⟨bk_ BK460.out⟩, ⟨bk_ BK461.out⟩, ⟨hb2_ HB.out GE460.out GE461.out⟩⟩
        ·replace c31 := Bool.eq_false_iff.mpr c31
         subst c31
         have H1 : (product_parts.j2 kj15 a0 (a1_0 != a2_0) false x9_15 false a1_0 a1_1 a1_2 a1_3 a2_0 a2_1 a2_2 a2_3) = some r := by rw [if_neg (show ¬ (false = true) by decide)] at H; exact H
         clear H;have H := H1;clear H1
         have H' := A_ H
         clear H
         have hnb35 := NB460_461.out
         have hnc35 := NB461_460.out
         have hcz36_0 := bv_ BK460.out 0
         have hcz36_1 := bv_ BK460.out 1
         have hcz36_2 := bv_ BK460.out 2
         have hcz36_3 := bv_ BK460.out 3
         have hfz36_0 := blk_frozen BK460.out 0
         have hfz36_1 := blk_frozen BK460.out 1
         have hfz36_2 := blk_frozen BK460.out 2
         have hfz36_3 := blk_frozen BK460.out 3
         have hcz37_0 := bv_ BK461.out 0
         have hcz37_1 := bv_ BK461.out 1
         have hcz37_2 := bv_ BK461.out 2
         have hcz37_3 := bv_ BK461.out 3
         have hfz37_0 := blk_frozen BK461.out 0
         have hfz37_1 := blk_frozen BK461.out 1
         have hfz37_2 := blk_frozen BK461.out 2
         have hfz37_3 := blk_frozen BK461.out 3
         go_wp2
         go_meet
         case rel => exact ⟨_, (false), sm_, H', ⟨by have := HJ3.out; have := HJ15.out; first | omega | exact Nat.le_refl _⟩, ⟨bk_ BK460.out⟩, ⟨bk_ BK461.out⟩, ⟨hb2_ HB.out GE460.out GE461.out⟩⟩
     case rest =>
      clear HC23
      try clear c1
      try clear c2
      try clear p2
      try clear c3
      try clear c7
      try clear c10
      try clear c10b0
      try clear c10b1
      try clear c11
      try clear c13
      try clear c15
      try clear c17
      try clear c17b0
      try clear c17b1
      try clear c18
      try clear c20
      try clear c24
      try clear c24b0
      try clear c24b1
      try clear c25
      try clear c27
      try clear c27b0
      try clear c27b1
      try clear c28
      try clear c31
      try clear c32
      try clear c35
      try clear hcz12_0
      try clear hcz12_1
      try clear hcz12_2
      try clear hcz12_3
      try clear hcz14_0
      try clear hcz14_1
      try clear hcz14_2
      try clear hcz14_3
      try clear hcz15_0
      try clear hcz15_1
      try clear hcz15_2
      try clear hcz15_3
      try clear hcz19_0
      try clear hcz19_1
      try clear hcz19_2
      try clear hcz19_3
      try clear hcz21_0
      try clear hcz21_1
      try clear hcz21_2
      try clear hcz21_3
      try clear hcz22_0
      try clear hcz22_1
      try clear hcz22_2
      try clear hcz22_3
      try clear hcz26_0
      try clear hcz26_1
      try clear hcz26_2
      try clear hcz26_3
      try clear hcz29_0
      try clear hcz29_1
      try clear hcz29_2
      try clear hcz29_3
      try clear hcz30_0
      try clear hcz30_1
      try clear hcz30_2
      try clear hcz30_3
      try clear hcz33_0
      try clear hcz33_1
      try clear hcz33_2
      try clear hcz33_3
      try clear hcz34_0
      try clear hcz34_1
      try clear hcz34_2
      try clear hcz34_3
      try clear hcz36_0
      try clear hcz36_1
      try clear hcz36_2
      try clear hcz36_3
      try clear hcz37_0
      try clear hcz37_1
      try clear hcz37_2
      try clear hcz37_3
      try clear hcz8_0
      try clear hcz8_1
      try clear hcz8_2
      try clear hcz8_3
      try clear hcz9_0
      try clear hcz9_1
      try clear hcz9_2
      try clear hcz9_3
      try clear hfz12_0
      try clear hfz12_1
      try clear hfz12_2
      try clear hfz12_3
      try clear hfz14_0
      try clear hfz14_1
      try clear hfz14_2
      try clear hfz14_3
      try clear hfz15_0
      try clear hfz15_1
      try clear hfz15_2
      try clear hfz15_3
      try clear hfz19_0
      try clear hfz19_1
      try clear hfz19_2
      try clear hfz19_3
      try clear hfz21_0
      try clear hfz21_1
      try clear hfz21_2
      try clear hfz21_3
      try clear hfz22_0
      try clear hfz22_1
      try clear hfz22_2
      try clear hfz22_3
      try clear hfz26_0
      try clear hfz26_1
      try clear hfz26_2
      try clear hfz26_3
      try clear hfz29_0
      try clear hfz29_1
      try clear hfz29_2
      try clear hfz29_3
      try clear hfz30_0
      try clear hfz30_1
      try clear hfz30_2
      try clear hfz30_3
      try clear hfz33_0
      try clear hfz33_1
      try clear hfz33_2
      try clear hfz33_3
      try clear hfz34_0
      try clear hfz34_1
      try clear hfz34_2
      try clear hfz34_3
      try clear hfz36_0
      try clear hfz36_1
      try clear hfz36_2
      try clear hfz36_3
      try clear hfz37_0
      try clear hfz37_1
      try clear hfz37_2
      try clear hfz37_3
      try clear hfz8_0
      try clear hfz8_1
      try clear hfz8_2
      try clear hfz8_3
      try clear hfz9_0
      try clear hfz9_1
      try clear hfz9_2
      try clear hfz9_3
      try clear p2
      obtain ⟨kq, x31_22, rfl, HA, HJ22, BK460, BK461, HB⟩ := hcut
      cases kq with
      | zero => exact absurd HA.out (by simp [product_parts.j2])
      | succ kj22 =>
       have H := HA.out
       clear HA
       simp only [product_parts.j2] at H
       by_cases c38 : x31_22 = true
       ·subst c38
        have H1 : ((shape_Nan.f a0).bind fun t462 => (some t462)) = some r := by rw [if_pos rfl] at H; exact H
        clear H;have H := H1;clear H1
        replace H := ob_ H
        obtain ⟨t462, A390, H⟩ := H
        replace H : (some t462) = some r := H
        have A39 := A_ A390;clear A390
        obtain rfl := Option.some.inj H
        go_wp2_with (first | ((with_reducible refine gate_callee (f := 146) rfl ?_); refine goesL_ (some 47) rfl rfl Tryz.func146 (by kernel_rfl) rfl #[.int .i64 a0] rfl mp_ ?_; (with_reducible refine (shape_Nan.calls a0 t462 _ A39.out).mono ?_); rintro e w40 ⟨rfl, hb⟩; refine ⟨_, rfl, ?_⟩; replace BK460 := A_ (bb_ BK460.out hb); replace BK461 := A_ (bb_ BK461.out hb); replace HB := A_ (below_step (hb2_ HB.out GE460.out GE461.out) hb); (try clear hb); (try clear hb2); (try clear hk); (try clear hi)))
        go_ret
        exact ⟨er_, hb2_ HB.out GE460.out GE461.out⟩
       ·replace c38 := Bool.eq_false_iff.mpr c38
        subst c38
        have H1 : (if x9_15 = true then ((shape_Inf.f a0 (a1_0 != a2_0)).bind fun t463 => (some t463)) else (if x8_3 = true then ((shape_Zero.f a0 (a1_0 != a2_0)).bind fun t464 => (some t464)) else ((wide_Mul.f a1_3 a2_3).bind fun bt465 => ((round_Pack.f a0 (a1_0 != a2_0) bt465.1 bt465.2 (wrap64 (a1_2 + a2_2)) false).bind fun t467 => (some t467))))) = some r := by rw [if_neg (show ¬ (false = true) by decide)] at H; exact H
        clear H;have H := H1;clear H1
        by_cases c41 : x9_15 = true
        ·subst c41
         have H1 : ((shape_Inf.f a0 (a1_0 != a2_0)).bind fun t463 => (some t463)) = some r := by rw [if_pos rfl] at H; exact H
         clear H;have H := H1;clear H1
         replace H := ob_ H
         obtain ⟨t463, A420, H⟩ := H
         replace H : (some t463) = some r := H
         have A42 := A_ A420;clear A420
         obtain rfl := Option.some.inj H
         go_wp2_with (first | ((with_reducible refine gate_callee (f := 147) rfl ?_); refine goesL_ (some 52) rfl rfl Tryz.func147 (by kernel_rfl) rfl #[.int .i64 a0, .bool (a1_0 != a2_0)] rfl mp_ ?_; (with_reducible refine (shape_Inf.calls a0 (a1_0 != a2_0) t463 _ A42.out).mono ?_); rintro e w43 ⟨rfl, hb⟩; refine ⟨_, rfl, ?_⟩; replace BK460 := A_ (bb_ BK460.out hb); replace BK461 := A_ (bb_ BK461.out hb); replace HB := A_ (below_step (hb2_ HB.out GE460.out GE461.out) hb); (try clear hb); (try clear hb2); (try clear hk); (try clear hi)))
         go_ret
         exact ⟨er_, hb2_ HB.out GE460.out GE461.out⟩
        ·replace c41 := Bool.eq_false_iff.mpr c41
         subst c41
         have H1 : (if x8_3 = true then ((shape_Zero.f a0 (a1_0 != a2_0)).bind fun t464 => (some t464)) else ((wide_Mul.f a1_3 a2_3).bind fun bt465 => ((round_Pack.f a0 (a1_0 != a2_0) bt465.1 bt465.2 (wrap64 (a1_2 + a2_2)) false).bind fun t467 => (some t467)))) = some r := by rw [if_neg (show ¬ (false = true) by decide)] at H; exact H
         clear H;have H := H1;clear H1
         by_cases c44 : x8_3 = true
         ·subst c44
          have H1 : ((shape_Zero.f a0 (a1_0 != a2_0)).bind fun t464 => (some t464)) = some r := by rw [if_pos rfl] at H; exact H
          clear H;have H := H1;clear H1
          replace H := ob_ H
          obtain ⟨t464, A450, H⟩ := H
          replace H : (some t464) = some r := H
          have A45 := A_ A450;clear A450
          obtain rfl := Option.some.inj H
          go_wp2_with (first | ((with_reducible refine gate_callee (f := 145) rfl ?_); refine goesL_ (some 57) rfl rfl Tryz.func145 (by kernel_rfl) rfl #[.int .i64 a0, .bool (a1_0 != a2_0)] rfl mp_ ?_; (with_reducible refine (shape_Zero.calls a0 (a1_0 != a2_0) t464 _ A45.out).mono ?_); rintro e w46 ⟨rfl, hb⟩; refine ⟨_, rfl, ?_⟩; replace BK460 := A_ (bb_ BK460.out hb); replace BK461 := A_ (bb_ BK461.out hb); replace HB := A_ (below_step (hb2_ HB.out GE460.out GE461.out) hb); (try clear hb); (try clear hb2); (try clear hk); (try clear hi)))
          go_ret
          exact ⟨er_, hb2_ HB.out GE460.out GE461.out⟩
         ·replace c44 := Bool.eq_false_iff.mpr c44
          subst c44
          have H1 : ((wide_Mul.f a1_3 a2_3).bind fun bt465 => ((round_Pack.f a0 (a1_0 != a2_0) bt465.1 bt465.2 (wrap64 (a1_2 + a2_2)) false).bind fun t467 => (some t467))) = some r := by rw [if_neg (show ¬ (false = true) by decide)] at H; exact H
          clear H;have H := H1;clear H1
          replace H := ob_ H
          obtain ⟨⟨t465, t466⟩, A470, H⟩ := H
          replace H : ((round_Pack.f a0 (a1_0 != a2_0) t465 t466 (wrap64 (a1_2 + a2_2)) false).bind fun t467 => (some t467)) = some r := H
          have A47 := A_ A470;clear A470
          replace H := ob_ H
          obtain ⟨t467, A480, H⟩ := H
          replace H : (some t467) = some r := H
          have A48 := A_ A480;clear A480
          obtain rfl := Option.some.inj H
          try go_wp2
          replace BK460 := A_ (blk_drew BK460.out)
          replace BK461 := A_ (blk_drew BK461.out)
          replace HB := A_ (below_drew1 HB.out)
          refine start_ (n := 14) (S := fun w' => w'.cell? ⟨gb460, 0, none⟩ = some (.bool a1_0) ∧ w'.cell? ⟨gb460, 1, none⟩ = some (.int .i64 a1_1) ∧ w'.cell? ⟨gb460, 2, none⟩ = some (.int .i64 a1_2) ∧ w'.cell? ⟨gb460, 3, none⟩ = some (.int .u64 a1_3) ∧ w'.cell? ⟨gb461, 0, none⟩ = some (.bool a2_0) ∧ w'.cell? ⟨gb461, 1, none⟩ = some (.int .i64 a2_1) ∧ w'.cell? ⟨gb461, 2, none⟩ = some (.int .i64 a2_2) ∧ w'.cell? ⟨gb461, 3, none⟩ = some (.int .u64 a2_3)) (ds := []) #[false, false, false, false, false, false, false, false, false, false, false, false, false, false] (by kernel_rfl) rfl rfl ⟨bc_ BK460.out 0, bc_ BK460.out 1, bc_ BK460.out 2, bc_ BK460.out 3, bc_ BK461.out 0, bc_ BK461.out 1, bc_ BK461.out 2, bc_ BK461.out 3⟩ (fun hHeld => ?_); refine with_tabW product_parts.tab10 product_parts.bits10 (fun HT_ HW_ => ?_)
          generalize wc.drew = w49 at BK460 BK461 HB hHeld ⊢
          refine pu_ 0 (some 58) #[true, false, false, false, false, false, false, false, false, false, false, false, false, false] rfl rfl (any_of HT_.out (by kernel_rfl)) ?_
          refine pu_ 1 (some 59) #[true, true, false, false, false, false, false, false, false, false, false, false, false, false] rfl rfl (any_of HT_.out (by kernel_rfl)) ?_
          refine pu_ 2 (some 60) #[true, true, true, false, false, false, false, false, false, false, false, false, false, false] rfl rfl (any_of HT_.out (by kernel_rfl)) ?_
          refine pu_ 4 (some 62) #[true, true, true, false, true, false, false, false, false, false, false, false, false, false] rfl rfl (any_of HT_.out (by kernel_rfl)) ?_
          refine pu_ 7 (some 65) #[true, true, true, false, true, false, false, true, false, false, false, false, false, false] rfl rfl (any_of HT_.out (by kernel_rfl)) ?_
          refine pu_ 9 (some 67) #[true, true, true, false, true, false, false, true, false, true, false, false, false, false] rfl rfl (any_of HT_.out (by kernel_rfl)) ?_
          refine tk8_ 3 (some 61) #[true, true, true, true, true, false, false, true, false, true, false, false, false, false] rfl rfl (take_ofW HT_.out HW_.out (by kernel_rfl)) hHeld ?_
          refine tk8_ 5 (some 63) #[true, true, true, true, true, true, false, true, false, true, false, false, false, false] rfl rfl (take_ofW HT_.out HW_.out (by kernel_rfl)) hHeld ?_
          refine tk8_ 8 (some 66) #[true, true, true, true, true, true, false, true, true, true, false, false, false, false] rfl rfl (take_ofW HT_.out HW_.out (by kernel_rfl)) hHeld ?_
          refine tk8_ 10 (some 68) #[true, true, true, true, true, true, false, true, true, true, true, false, false, false] rfl rfl (take_ofW HT_.out HW_.out (by kernel_rfl)) hHeld ?_
          refine pu_ 11 (some 69) #[true, true, true, true, true, true, false, true, true, true, true, true, false, false] rfl rfl (any_of HT_.out (by kernel_rfl)) ?_
          refine one_ (i := 6) (N := some 64) #[true, true, true, true, true, true, true, true, true, true, true, true, false, false] rfl rfl (one_of HT_.out (by kernel_rfl)) (by decide) (fun K hK => ?_)
          refine goes_ Tryz.func220 (by kernel_rfl) rfl #[.int .u64 a1_3, .int .u64 a2_3] (by rfl) rfl rfl mp_ ?_
          with_reducible refine (wide_Mul.calls a1_3 a2_3 t465 t466 _ A47.out).mono ?_
          rintro e w50 ⟨rfl, hb⟩
          refine ⟨_, rfl, ?_⟩
          replace BK460 := A_ (bb_ BK460.out hb)
          replace BK461 := A_ (bb_ BK461.out hb)
          replace HB := A_ (below_step (hb2_ HB.out GE460.out GE461.out) hb);(try clear hb);(try clear hb2);(try clear hk);(try clear hi)
          refine hK.out _ _ ⟨bc_ BK460.out 0, bc_ BK460.out 1, bc_ BK460.out 2, bc_ BK460.out 3, bc_ BK461.out 0, bc_ BK461.out 1, bc_ BK461.out 2, bc_ BK461.out 3⟩ (fun hHeld => ?_)
          clear hK K
          refine norm_ (a' := ?_) ?_ ?_
          rotate_left
          ·show Act.put _ (some 64) _ = _
           simp only [Act.put, lI_, l0_, lS_, i64_w, i32_w]
           rfl
          refine one_ (i := 12) (N := some 70) #[true, true, true, true, true, true, true, true, true, true, true, true, true, false] rfl rfl (one_of HT_.out (by kernel_rfl)) (by decide) (fun K hK => ?_)
          refine goes_ Tryz.func214 (by kernel_rfl) rfl #[.int .i64 a0, .bool (a1_0 != a2_0), .agg #[.int .u64 t465, .int .u64 t466], .int .i64 (wrap64 (a1_2 + a2_2)), .bool false] (by rfl) rfl rfl mp_ ?_
          with_reducible refine (round_Pack.calls a0 (a1_0 != a2_0) t465 t466 (wrap64 (a1_2 + a2_2)) false t467 _ A48.out).mono ?_
          rintro e w51 ⟨rfl, hb⟩
          refine ⟨_, rfl, ?_⟩
          replace BK460 := A_ (bb_ BK460.out hb)
          replace BK461 := A_ (bb_ BK461.out hb)
          replace HB := A_ (below_step (hb2_ HB.out GE460.out GE461.out) hb);(try clear hb);(try clear hb2);(try clear hk);(try clear hi)
          refine hK.out _ _ ⟨bc_ BK460.out 0, bc_ BK460.out 1, bc_ BK460.out 2, bc_ BK460.out 3, bc_ BK461.out 0, bc_ BK461.out 1, bc_ BK461.out 2, bc_ BK461.out 3⟩ (fun hHeld => ?_)
          clear hK K
          refine norm_ (a' := ?_) ?_ ?_
          rotate_left
          ·show Act.put _ (some 70) _ = _
           simp only [Act.put, lI_, l0_, lS_, i64_w, i32_w]
           rfl
          refine pu_ 13 (some 6) #[true, true, true, true, true, true, true, true, true, true, true, true, true, true] rfl rfl (any_of HT_.out (by kernel_rfl)) ?_
          refine done_ (done_of HT_.out (by kernel_rfl)) ?_
          try go_wp2
          go_ret
          exact ⟨er_, hb2_ HB.out GE460.out GE461.out⟩
def product_Mul.f (k : Nat) (a0 : Int) (a1 : Int) (a2 : Int) : Option (Int) := (product_known.f a0).bind fun t468 => (if t468 = true then ((shape_Open.f k a0 a1).bind fun bt469 => ((shape_Open.f k a0 a2).bind fun bt473 => ((product_parts.f k a0 bt469.1 bt469.2.1 bt469.2.2.1 bt469.2.2.2 bt473.1 bt473.2.1 bt473.2.2.1 bt473.2.2.2).bind fun t477 => (some t477)))) else (some 0))
theorem product_Mul.mono : ∀ a0 a1 a2 k, LeO (product_Mul.f k a0 a1 a2) (product_Mul.f (k + 1) a0 a1 a2) := by
 intro a0 a1 a2 k
 unfold product_Mul.f
 repeat' first
   | (with_reducible exact product_parts.mono _ _ _ _ _ _ _ _ _ _)
   | (with_reducible exact shape_Open.mono _ _ _)
   | (with_reducible exact LeO.refl _)
   | (with_reducible exact LeO.none _)
   | (with_reducible refine LeO.ite ?_ ?_)
   | (with_reducible refine LeO.bind ?_ (fun _ => ?_))
   | exact product_parts.mono _ _ _ _ _ _ _ _ _ _
   | exact shape_Open.mono _ _ _
   | exact LeO.none _
   | refine LeO.ite ?_ ?_
   | refine LeO.bind ?_ (fun _ => ?_)
theorem product_Mul.calls (k : Nat) (a0 : Int) (a1 : Int) (a2 : Int) (r : Int) (w : World) (h : product_Mul.f k a0 a1 a2 = some r) :
  Calls Tryz.prog 85 #[.int .i64 a0, .int .u64 a1, .int .u64 a2] w fun e w' => e = .returned (.int .u64 r) ∧ Below w.heap.size w w' := by
 have HB := A_ (Below.refl w.heap.size w)
 have H : ((product_known.f a0).bind fun t468 => (if t468 = true then ((shape_Open.f k a0 a1).bind fun bt469 => ((shape_Open.f k a0 a2).bind fun bt473 => ((product_parts.f k a0 bt469.1 bt469.2.1 bt469.2.2.1 bt469.2.2.2 bt473.1 bt473.2.1 bt473.2.2.1 bt473.2.2.2).bind fun t477 => (some t477)))) else (some 0))) = some r := h
 clear h
 replace H := ob_ H
 obtain ⟨t468, A40, H⟩ := H
 replace H : (if t468 = true then ((shape_Open.f k a0 a1).bind fun bt469 => ((shape_Open.f k a0 a2).bind fun bt473 => ((product_parts.f k a0 bt469.1 bt469.2.1 bt469.2.2.1 bt469.2.2.2 bt473.1 bt473.2.1 bt473.2.2.1 bt473.2.2.2).bind fun t477 => (some t477)))) else (some 0)) = some r := H
 have A4 := A_ A40;clear A40
 by_cases c5 : t468 = true
 ·subst c5
  have H1 : ((shape_Open.f k a0 a1).bind fun bt469 => ((shape_Open.f k a0 a2).bind fun bt473 => ((product_parts.f k a0 bt469.1 bt469.2.1 bt469.2.2.1 bt469.2.2.2 bt473.1 bt473.2.1 bt473.2.2.1 bt473.2.2.2).bind fun t477 => (some t477)))) = some r := by rw [if_pos rfl] at H; exact H
  clear H;have H := H1;clear H1
  replace H := ob_ H
  obtain ⟨⟨t469, t470, t471, t472⟩, A60, H⟩ := H
  replace H : ((shape_Open.f k a0 a2).bind fun bt473 => ((product_parts.f k a0 t469 t470 t471 t472 bt473.1 bt473.2.1 bt473.2.2.1 bt473.2.2.2).bind fun t477 => (some t477))) = some r := H
  have A6 := A_ A60;clear A60
  replace H := ob_ H
  obtain ⟨⟨t473, t474, t475, t476⟩, A70, H⟩ := H
  replace H : ((product_parts.f k a0 t469 t470 t471 t472 t473 t474 t475 t476).bind fun t477 => (some t477)) = some r := H
  have A7 := A_ A70;clear A70
  replace H := ob_ H
  obtain ⟨t477, A80, H⟩ := H
  replace H : (some t477) = some r := H
  have A8 := A_ A80;clear A80
  obtain rfl := Option.some.inj H
  go_enter Tryz.func85, Tryz.ntmps85
  go_wp2_with (first | ((with_reducible refine gate_callee (f := 151) rfl ?_); refine goesL_ (some 8) rfl rfl Tryz.func151 (by kernel_rfl) rfl #[.int .i64 a0] rfl mp_ ?_; (with_reducible refine (product_known.calls a0 true _ A4.out).mono ?_); rintro e w' ⟨rfl, ⟨nd, rfl⟩⟩; refine ⟨_, rfl, ?_⟩) | ((with_reducible refine gate_callee (f := 10) rfl ?_); refine goesL_ (some 13) rfl rfl Tryz.func10 (by kernel_rfl) rfl #[.int .i64 a0, .int .u64 a1] rfl mp_ ?_; (with_reducible refine (shape_Open.calls k a0 a1 t469 t470 t471 t472 _ A6.out).mono ?_); rintro e w9 ⟨rfl, hb⟩; refine ⟨_, rfl, ?_⟩; replace HB := A_ (below_step (hb_ HB.out) hb); (try clear hb); (try clear hb2); (try clear hk); (try clear hi)) | ((with_reducible refine gate_callee (f := 10) rfl ?_); refine goesL_ (some 16) rfl rfl Tryz.func10 (by kernel_rfl) rfl #[.int .i64 a0, .int .u64 a2] rfl mp_ ?_; (with_reducible refine (shape_Open.calls k a0 a2 t473 t474 t475 t476 _ A7.out).mono ?_); rintro e w10 ⟨rfl, hb⟩; refine ⟨_, rfl, ?_⟩; replace HB := A_ (below_step (hb_ HB.out) hb); (try clear hb); (try clear hb2); (try clear hk); (try clear hi)) | ((with_reducible refine gate_callee (f := 152) rfl ?_); refine goesL_ (some 17) rfl rfl Tryz.func152 (by kernel_rfl) rfl #[.int .i64 a0, .agg #[.bool t469, .int .i64 t470, .int .i64 t471, .int .u64 t472], .agg #[.bool t473, .int .i64 t474, .int .i64 t475, .int .u64 t476]] rfl mp_ ?_; (with_reducible refine (product_parts.calls k a0 t469 t470 t471 t472 t473 t474 t475 t476 t477 _ A8.out).mono ?_); rintro e w11 ⟨rfl, hb⟩; refine ⟨_, rfl, ?_⟩; replace HB := A_ (below_step (hb_ HB.out) hb); (try clear hb); (try clear hb2); (try clear hk); (try clear hi)))
  go_ret
  exact ⟨er_, hb_ HB.out⟩
 ·replace c5 := Bool.eq_false_iff.mpr c5
  subst c5
  have H1 : (some 0) = some r := by rw [if_neg (show ¬ (false = true) by decide)] at H; exact H
  clear H;have H := H1;clear H1
  obtain rfl := Option.some.inj H
  go_enter Tryz.func85, Tryz.ntmps85
  go_wp2_with (first | ((with_reducible refine gate_callee (f := 151) rfl ?_); refine goesL_ (some 8) rfl rfl Tryz.func151 (by kernel_rfl) rfl #[.int .i64 a0] rfl mp_ ?_; (with_reducible refine (product_known.calls a0 false _ A4.out).mono ?_); rintro e w' ⟨rfl, ⟨nd, rfl⟩⟩; refine ⟨_, rfl, ?_⟩))
  go_ret
  exact ⟨er_, hb_ HB.out⟩
def quotient_Div.f (k : Nat) (a0 : Int) (a1 : Int) (a2 : Int) : Option (Int) := none
theorem quotient_Div.mono : ∀ a0 a1 a2 k, LeO (quotient_Div.f k a0 a1 a2) (quotient_Div.f (k + 1) a0 a1 a2) := fun _ _ _ _ => LeO.none _
theorem quotient_Div.calls (k : Nat) (a0 : Int) (a1 : Int) (a2 : Int) (r : Int) (w : World) (h : quotient_Div.f k a0 a1 a2 = some r) :
  Calls Tryz.prog 86 #[.int .i64 a0, .int .u64 a1, .int .u64 a2] w fun e w' => e = .returned (.int .u64 r) ∧ Below w.heap.size w w' := by
 cases h
def sum_known.f (a0 : Int) : Option (Bool) := if a0 = 32 then (some true) else (some (a0 == 64))
theorem sum_known.calls (a0 : Int) (r : Bool) (w : World) (h : sum_known.f a0 = some r) :
  Calls Tryz.prog 149 #[.int .i64 a0] w fun e w' => e = .returned (.bool r) ∧ Drawn0 w w' := by
 have H : (if a0 = 32 then (some true) else (some (a0 == 64))) = some r := h
 clear h
 by_cases c2 : a0 = 32
 ·rw [if_pos c2] at H
  have c2b0 : (a0 == 32) = true := beq_iff_eq.mpr c2
  have c2b1 : (a0 != 32) = false := bne_eq_false_iff_eq.mpr c2
  clear c2
  obtain rfl := Option.some.inj H
  go_enter Tryz.func149, Tryz.ntmps149
  go_wp2
  go_ret
  exact ⟨sm_, by repeat (first | exact Drawn0.refl _ | apply Drawn0.step)⟩
 ·rw [if_neg c2] at H
  have c2b0 : (a0 == 32) = false := beq_eq_false_iff_ne.mpr c2
  have c2b1 : (a0 != 32) = true := bne_iff_ne.mpr c2
  obtain rfl := Option.some.inj H
  go_enter Tryz.func149, Tryz.ntmps149
  go_wp2
  go_ret
  exact ⟨sm_, by repeat (first | exact Drawn0.refl _ | apply Drawn0.step)⟩
def round_Narrow.f (a0 : Int) (a1_0 : Bool) (a1_1 : Int) (a1_2 : Int) (a1_3 : Int) : Option (Int) := if a1_1 = 0 then ((shape_Zero.f a0 a1_0).bind fun t380 => (some t380)) else (if a1_1 = 1 then ((wide_Of.f a1_3).bind fun bt381 => ((round_Pack.f a0 a1_0 bt381.1 bt381.2 a1_2 false).bind fun t383 => (some t383))) else (if a1_1 = 2 then ((shape_Inf.f a0 a1_0).bind fun t384 => (some t384)) else (if a1_1 = 3 then ((shape_Nan.f a0).bind fun t385 => (some t385)) else (some 0))))
def round_Narrow.T5 : Bool × List (List Nat × List Nat) := (true, [([], []), ([], []), ([1], [1]), ([], []), ([3], [3]), ([4], [4]), ([], []), ([6], [6]), ([0, 2, 5, 7, 5], [0, 2, 5, 7]), ([8, 8, 0, 1, 2, 3, 4, 5, 6, 7, 8], [8])])
def round_Narrow.B5 : List Nat := [0, 0, 2, 0, 8, 24, 0, 64, 255, 511]
theorem round_Narrow.tab5 : rtab .any (opsOf Tryz.f158 5) = round_Narrow.T5 := by kernel_rfl
theorem round_Narrow.bits5 : waitsOk round_Narrow.T5.2 round_Narrow.B5 = true := by kernel_rfl
theorem round_Narrow.calls (a0 : Int) (a1_0 : Bool) (a1_1 : Int) (a1_2 : Int) (a1_3 : Int) (r : Int) (w : World) (h : round_Narrow.f a0 a1_0 a1_1 a1_2 a1_3 = some r) :
  Calls Tryz.prog 158 #[.int .i64 a0, .agg #[.bool a1_0, .int .i64 a1_1, .int .i64 a1_2, .int .u64 a1_3]] w fun e w' => e = .returned (.int .u64 r) ∧ Below w.heap.size w w' := by
 have hu27 := Tryz.underlying27
 have HB := A_ (Below.refl w.heap.size w)
 have H : (if a1_1 = 0 then ((shape_Zero.f a0 a1_0).bind fun t380 => (some t380)) else (if a1_1 = 1 then ((wide_Of.f a1_3).bind fun bt381 => ((round_Pack.f a0 a1_0 bt381.1 bt381.2 a1_2 false).bind fun t383 => (some t383))) else (if a1_1 = 2 then ((shape_Inf.f a0 a1_0).bind fun t384 => (some t384)) else (if a1_1 = 3 then ((shape_Nan.f a0).bind fun t385 => (some t385)) else (some 0))))) = some r := h
 clear h
 by_cases c3 : a1_1 = 0
 ·rw [if_pos c3] at H
  have c3b0 : (a1_1 == 0) = true := beq_iff_eq.mpr c3
  have c3b1 : (a1_1 != 0) = false := bne_eq_false_iff_eq.mpr c3
  clear c3
  replace H := ob_ H
  obtain ⟨t380, A40, H⟩ := H
  replace H : (some t380) = some r := H
  have A4 := A_ A40;clear A40
  obtain rfl := Option.some.inj H
  go_enter Tryz.func158, Tryz.ntmps158
  go_wp2_with (first | ((with_reducible refine gate_dst (N := 3) rfl ?_); refine be_ 3 #[.bool a1_0, .int .i64 a1_1, .int .i64 a1_2, .int .u64 a1_3] 27 ?_; intro gb379 hg w5 hbox hb; have BK379 := A_ (hbox); have GW379 := A_ (sz_ hg (hb_ HB.out)); have GE379 := A_ (sz_ hg (hb_ HB.out)); replace HB := A_ (below_step (hb_ HB.out) hb); clear hb hbox hg; have hcz6_0 := bv_ BK379.out 0; have hcz6_1 := bv_ BK379.out 1; have hcz6_2 := bv_ BK379.out 2; have hcz6_3 := bv_ BK379.out 3; have hfz6_0 := blk_frozen BK379.out 0; have hfz6_1 := blk_frozen BK379.out 1; have hfz6_2 := blk_frozen BK379.out 2; have hfz6_3 := blk_frozen BK379.out 3) | ((with_reducible refine gate_callee (f := 145) rfl ?_); refine goesL_ (some 12) rfl rfl Tryz.func145 (by kernel_rfl) rfl #[.int .i64 a0, .bool a1_0] rfl mp_ ?_; (with_reducible refine (shape_Zero.calls a0 a1_0 t380 _ A4.out).mono ?_); rintro e w7 ⟨rfl, hb⟩; refine ⟨_, rfl, ?_⟩; replace BK379 := A_ (bb_ BK379.out hb); replace HB := A_ (below_step (hb1_ HB.out GE379.out) hb); (try clear hb); (try clear hb2); (try clear hk); (try clear hi)))
  go_ret
  exact ⟨er_, hb1_ HB.out GE379.out⟩
 ·rw [if_neg c3] at H
  have c3b0 : (a1_1 == 0) = false := beq_eq_false_iff_ne.mpr c3
  have c3b1 : (a1_1 != 0) = true := bne_iff_ne.mpr c3
  by_cases c8 : a1_1 = 1
  ·rw [if_pos c8] at H
   have c8b0 : (a1_1 == 1) = true := beq_iff_eq.mpr c8
   have c8b1 : (a1_1 != 1) = false := bne_eq_false_iff_eq.mpr c8
   clear c8
   replace H := ob_ H
   obtain ⟨⟨t381, t382⟩, A90, H⟩ := H
   replace H : ((round_Pack.f a0 a1_0 t381 t382 a1_2 false).bind fun t383 => (some t383)) = some r := H
   have A9 := A_ A90;clear A90
   replace H := ob_ H
   obtain ⟨t383, A100, H⟩ := H
   replace H : (some t383) = some r := H
   have A10 := A_ A100;clear A100
   obtain rfl := Option.some.inj H
   go_enter Tryz.func158, Tryz.ntmps158
   try go_wp2_with (first | ((with_reducible refine gate_dst (N := 3) rfl ?_); refine be_ 3 #[.bool a1_0, .int .i64 a1_1, .int .i64 a1_2, .int .u64 a1_3] 27 ?_; intro gb379 hg w11 hbox hb; have BK379 := A_ (hbox); have GW379 := A_ (sz_ hg (hb_ HB.out)); have GE379 := A_ (sz_ hg (hb_ HB.out)); replace HB := A_ (below_step (hb_ HB.out) hb); clear hb hbox hg; have hcz12_0 := bv_ BK379.out 0; have hcz12_1 := bv_ BK379.out 1; have hcz12_2 := bv_ BK379.out 2; have hcz12_3 := bv_ BK379.out 3; have hfz12_0 := blk_frozen BK379.out 0; have hfz12_1 := blk_frozen BK379.out 1; have hfz12_2 := blk_frozen BK379.out 2; have hfz12_3 := blk_frozen BK379.out 3))
   replace BK379 := A_ (blk_drew BK379.out)
   replace HB := A_ (below_drew1 HB.out)
   refine start_ (n := 10) (S := fun w' => w'.cell? ⟨gb379, 0, none⟩ = some (.bool a1_0) ∧ w'.cell? ⟨gb379, 1, none⟩ = some (.int .i64 a1_1) ∧ w'.cell? ⟨gb379, 2, none⟩ = some (.int .i64 a1_2) ∧ w'.cell? ⟨gb379, 3, none⟩ = some (.int .u64 a1_3)) (ds := []) #[false, false, false, false, false, false, false, false, false, false] (by kernel_rfl) rfl rfl ⟨bc_ BK379.out 0, bc_ BK379.out 1, bc_ BK379.out 2, bc_ BK379.out 3⟩ (fun hHeld => ?_); refine with_tabW round_Narrow.tab5 round_Narrow.bits5 (fun HT_ HW_ => ?_)
   generalize w11.drew = w13 at BK379 HB hHeld ⊢
   refine pu_ 0 (some 15) #[true, false, false, false, false, false, false, false, false, false] rfl rfl (any_of HT_.out (by kernel_rfl)) ?_
   refine pu_ 1 (some 16) #[true, true, false, false, false, false, false, false, false, false] rfl rfl (any_of HT_.out (by kernel_rfl)) ?_
   refine pu_ 3 (some 18) #[true, true, false, true, false, false, false, false, false, false] rfl rfl (any_of HT_.out (by kernel_rfl)) ?_
   refine pu_ 6 (some 21) #[true, true, false, true, false, false, true, false, false, false] rfl rfl (any_of HT_.out (by kernel_rfl)) ?_
   refine tk4_ 2 (some 17) #[true, true, true, true, false, false, true, false, false, false] rfl rfl (take_ofW HT_.out HW_.out (by kernel_rfl)) hHeld ?_
   refine tk4_ 4 (some 19) #[true, true, true, true, true, false, true, false, false, false] rfl rfl (take_ofW HT_.out HW_.out (by kernel_rfl)) hHeld ?_
   refine tk4_ 7 (some 22) #[true, true, true, true, true, false, true, true, false, false] rfl rfl (take_ofW HT_.out HW_.out (by kernel_rfl)) hHeld ?_
   refine one_ (i := 5) (N := some 20) #[true, true, true, true, true, true, true, true, false, false] rfl rfl (one_of HT_.out (by kernel_rfl)) (by decide) (fun K hK => ?_)
   refine goes_ Tryz.func215 (by kernel_rfl) rfl #[.int .u64 a1_3] (by rfl) rfl rfl mp_ ?_
   with_reducible refine (wide_Of.calls a1_3 t381 t382 _ A9.out).mono ?_
   rintro e w14 ⟨rfl, hb⟩
   refine ⟨_, rfl, ?_⟩
   replace BK379 := A_ (bb_ BK379.out hb)
   replace HB := A_ (below_step (hb1_ HB.out GE379.out) hb);(try clear hb);(try clear hb2);(try clear hk);(try clear hi)
   refine hK.out _ _ ⟨bc_ BK379.out 0, bc_ BK379.out 1, bc_ BK379.out 2, bc_ BK379.out 3⟩ (fun hHeld => ?_)
   clear hK K
   refine norm_ (a' := ?_) ?_ ?_
   rotate_left
   ·show Act.put _ (some 20) _ = _
    simp only [Act.put, lI_, l0_, lS_, i64_w, i32_w]
    rfl
   refine one_ (i := 8) (N := some 23) #[true, true, true, true, true, true, true, true, true, false] rfl rfl (one_of HT_.out (by kernel_rfl)) (by decide) (fun K hK => ?_)
   refine goes_ Tryz.func214 (by kernel_rfl) rfl #[.int .i64 a0, .bool a1_0, .agg #[.int .u64 t381, .int .u64 t382], .int .i64 a1_2, .bool false] (by rfl) rfl rfl mp_ ?_
   with_reducible refine (round_Pack.calls a0 a1_0 t381 t382 a1_2 false t383 _ A10.out).mono ?_
   rintro e w15 ⟨rfl, hb⟩
   refine ⟨_, rfl, ?_⟩
   replace BK379 := A_ (bb_ BK379.out hb)
   replace HB := A_ (below_step (hb1_ HB.out GE379.out) hb);(try clear hb);(try clear hb2);(try clear hk);(try clear hi)
   refine hK.out _ _ ⟨bc_ BK379.out 0, bc_ BK379.out 1, bc_ BK379.out 2, bc_ BK379.out 3⟩ (fun hHeld => ?_)
   clear hK K
   refine norm_ (a' := ?_) ?_ ?_
   rotate_left
   ·show Act.put _ (some 23) _ = _
    simp only [Act.put, lI_, l0_, lS_, i64_w, i32_w]
    rfl
   refine pu_ 9 (some 4) #[true, true, true, true, true, true, true, true, true, true] rfl rfl (any_of HT_.out (by kernel_rfl)) ?_
   refine done_ (done_of HT_.out (by kernel_rfl)) ?_
   try go_wp2
   go_ret
   exact ⟨er_, hb1_ HB.out GE379.out⟩
  ·rw [if_neg c8] at H
   have c8b0 : (a1_1 == 1) = false := beq_eq_false_iff_ne.mpr c8
   have c8b1 : (a1_1 != 1) = true := bne_iff_ne.mpr c8
   by_cases c16 : a1_1 = 2
   ·rw [if_pos c16] at H
    have c16b0 : (a1_1 == 2) = true := beq_iff_eq.mpr c16
    have c16b1 : (a1_1 != 2) = false := bne_eq_false_iff_eq.mpr c16
    clear c16
    replace H := ob_ H
    obtain ⟨t384, A170, H⟩ := H
    replace H : (some t384) = some r := H
    have A17 := A_ A170;clear A170
    obtain rfl := Option.some.inj H
    go_enter Tryz.func158, Tryz.ntmps158
    go_wp2_with (first | ((with_reducible refine gate_dst (N := 3) rfl ?_); refine be_ 3 #[.bool a1_0, .int .i64 a1_1, .int .i64 a1_2, .int .u64 a1_3] 27 ?_; intro gb379 hg w18 hbox hb; have BK379 := A_ (hbox); have GW379 := A_ (sz_ hg (hb_ HB.out)); have GE379 := A_ (sz_ hg (hb_ HB.out)); replace HB := A_ (below_step (hb_ HB.out) hb); clear hb hbox hg; have hcz19_0 := bv_ BK379.out 0; have hcz19_1 := bv_ BK379.out 1; have hcz19_2 := bv_ BK379.out 2; have hcz19_3 := bv_ BK379.out 3; have hfz19_0 := blk_frozen BK379.out 0; have hfz19_1 := blk_frozen BK379.out 1; have hfz19_2 := blk_frozen BK379.out 2; have hfz19_3 := blk_frozen BK379.out 3) | ((with_reducible refine gate_callee (f := 147) rfl ?_); refine goesL_ (some 29) rfl rfl Tryz.func147 (by kernel_rfl) rfl #[.int .i64 a0, .bool a1_0] rfl mp_ ?_; (with_reducible refine (shape_Inf.calls a0 a1_0 t384 _ A17.out).mono ?_); rintro e w20 ⟨rfl, hb⟩; refine ⟨_, rfl, ?_⟩; replace BK379 := A_ (bb_ BK379.out hb); replace HB := A_ (below_step (hb1_ HB.out GE379.out) hb); (try clear hb); (try clear hb2); (try clear hk); (try clear hi)))
    go_ret
    exact ⟨er_, hb1_ HB.out GE379.out⟩
   ·rw [if_neg c16] at H
    have c16b0 : (a1_1 == 2) = false := beq_eq_false_iff_ne.mpr c16
    have c16b1 : (a1_1 != 2) = true := bne_iff_ne.mpr c16
    by_cases c21 : a1_1 = 3
    ·rw [if_pos c21] at H
     have c21b0 : (a1_1 == 3) = true := beq_iff_eq.mpr c21
     have c21b1 : (a1_1 != 3) = false := bne_eq_false_iff_eq.mpr c21
     clear c21
     replace H := ob_ H
     obtain ⟨t385, A220, H⟩ := H
     replace H : (some t385) = some r := H
     have A22 := A_ A220;clear A220
     obtain rfl := Option.some.inj H
     go_enter Tryz.func158, Tryz.ntmps158
     go_wp2_with (first | ((with_reducible refine gate_dst (N := 3) rfl ?_); refine be_ 3 #[.bool a1_0, .int .i64 a1_1, .int .i64 a1_2, .int .u64 a1_3] 27 ?_; intro gb379 hg w23 hbox hb; have BK379 := A_ (hbox); have GW379 := A_ (sz_ hg (hb_ HB.out)); have GE379 := A_ (sz_ hg (hb_ HB.out)); replace HB := A_ (below_step (hb_ HB.out) hb); clear hb hbox hg; have hcz24_0 := bv_ BK379.out 0; have hcz24_1 := bv_ BK379.out 1; have hcz24_2 := bv_ BK379.out 2; have hcz24_3 := bv_ BK379.out 3; have hfz24_0 := blk_frozen BK379.out 0; have hfz24_1 := blk_frozen BK379.out 1; have hfz24_2 := blk_frozen BK379.out 2; have hfz24_3 := blk_frozen BK379.out 3) | ((with_reducible refine gate_callee (f := 146) rfl ?_); refine goesL_ (some 33) rfl rfl Tryz.func146 (by kernel_rfl) rfl #[.int .i64 a0] rfl mp_ ?_; (with_reducible refine (shape_Nan.calls a0 t385 _ A22.out).mono ?_); rintro e w25 ⟨rfl, hb⟩; refine ⟨_, rfl, ?_⟩; replace BK379 := A_ (bb_ BK379.out hb); replace HB := A_ (below_step (hb1_ HB.out GE379.out) hb); (try clear hb); (try clear hb2); (try clear hk); (try clear hi)))
     go_ret
     exact ⟨er_, hb1_ HB.out GE379.out⟩
    ·rw [if_neg c21] at H
     have c21b0 : (a1_1 == 3) = false := beq_eq_false_iff_ne.mpr c21
     have c21b1 : (a1_1 != 3) = true := bne_iff_ne.mpr c21
     obtain rfl := Option.some.inj H
     go_enter Tryz.func158, Tryz.ntmps158
     go_wp2_with (first | ((with_reducible refine gate_dst (N := 3) rfl ?_); refine be_ 3 #[.bool a1_0, .int .i64 a1_1, .int .i64 a1_2, .int .u64 a1_3] 27 ?_; intro gb379 hg w26 hbox hb; have BK379 := A_ (hbox); have GW379 := A_ (sz_ hg (hb_ HB.out)); have GE379 := A_ (sz_ hg (hb_ HB.out)); replace HB := A_ (below_step (hb_ HB.out) hb); clear hb hbox hg; have hcz27_0 := bv_ BK379.out 0; have hcz27_1 := bv_ BK379.out 1; have hcz27_2 := bv_ BK379.out 2; have hcz27_3 := bv_ BK379.out 3; have hfz27_0 := blk_frozen BK379.out 0; have hfz27_1 := blk_frozen BK379.out 1; have hfz27_2 := blk_frozen BK379.out 2; have hfz27_3 := blk_frozen BK379.out 3))
     go_ret
     exact ⟨er_, hb1_ HB.out GE379.out⟩
end Go.Proofs.YtnmlmgmljoncoaaGreatDoor.PA
