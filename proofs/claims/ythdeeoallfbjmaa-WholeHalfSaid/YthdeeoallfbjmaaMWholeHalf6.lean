/- What the Go functions that the statement WholeHalf reaches compute, and the mathematics on it, in the order in which one leans on the other; for every input. -/
import Derived.Test.YthdeeoallfbjmaaVWholeHalf1
import Derived.Test.YthdeeoallfbjmaaMWholeHalf0
import Derived.Deep.RegionHeld3
import Derived.Shelf.Spec.BitsCarry
import Derived.Test.YthdeeoallfbjmaaMWholeHalf1
import Derived.Deep.DeepCutAuto
import Derived.Test.YthdeeoallfbjmaaMWholeHalf5
import Derived.Test.YthdeeoallfbjmaaMWholeHalf3
import Derived.Test.YthdeeoallfbjmaaMWholeHalf2
namespace Go.Proofs.Ythdeeoallfbjmaa.PA
open Go.RowKit Go.Proofs.YthdeeoallfbjmaaW.PrintWords Go.Proofs.YthdeeoallfbjmaaW.PrintLast Go.Proofs.YthdeeoallfbjmaaW.PrintMore
attribute [local go_sem] max2_int min2_int max_two min_two max_three min_three max_four min_four   -- for this text's walks alone
set_option linter.unusedVariables false
set_option linter.unusedSimpArgs false
set_option maxHeartbeats 8000000
set_option maxRecDepth 100000
-- IMPORT Derived.Deep.RegionHeld3
-- IMPORT Derived.Shelf.Spec.BitsCarry
-- IMPORT Derived.Test.YthdeeoallfbjmaaNr
-- IMPORT Derived.Deep.DeepCutAuto
def wide_Sub.f (a0_0 : Int) (a0_1 : Int) (a1_0 : Int) (a1_1 : Int) : Option (Int × Int) :=
 if (0 ≤ a0_0 ∧ a0_0 < 18446744073709551616) ∧ (0 ≤ a0_1 ∧ a0_1 < 18446744073709551616) ∧ (0 ≤ a1_0 ∧ a1_0 < 18446744073709551616) ∧ (0 ≤ a1_1 ∧ a1_1 < 18446744073709551616) then
  some ((a0_0 - a1_0 - (if a0_1 < a1_1 then 1 else 0)) % 18446744073709551616, (a0_1 - a1_1) % 18446744073709551616) else none
theorem wide_Sub.sub64 (x y c : Int) (hx : 0 ≤ x) (hy : 0 ≤ y) (hy2 : y < 18446744073709551616) (hc0 : 0 ≤ c) (hc : c ≤ 1) (w : World) : (callFunc 98 #[.int .u64 x, .int .u64 y, .int .u64 c]).run Try.prog w =
  .ok (.value (.tuple #[.int .u64 ((x - y - c) % 18446744073709551616), .int .u64 (if x < y + c then 1 else 0)])) w := by
 obtain ⟨x, rfl⟩ := Int.eq_ofNat_of_zero_le hx
 obtain ⟨y, rfl⟩ := Int.eq_ofNat_of_zero_le hy
 obtain ⟨c, rfl⟩ := Int.eq_ofNat_of_zero_le hc0
 rw [run_callFunc_extern Try.func98 (by kernel_rfl) (by kernel_rfl) (by kernel_rfl) (e := sub64Entry) (by kernel_rfl), run_sub64 x y c (by omega)]
 simp only [Result.andThen]
 have e1 : (((x + 18446744073709551616 - y - c) % 18446744073709551616 : Nat) : Int) = ((x : Int) - (y : Int) - (c : Int)) % 18446744073709551616 := by omega
 have e2 : (((if x < y + c then 1 else 0 : Nat)) : Int) = if (x : Int) < (y : Int) + (c : Int) then 1 else 0 := by
  by_cases h : x < y + c
  ·rw [if_pos h, if_pos (by omega)]; rfl
  ·rw [if_neg h, if_neg (by omega)]; rfl
 rw [e1, e2]
theorem wide_Sub.sub64_0 (x y : Int) (hx : 0 ≤ x) (hy : 0 ≤ y) (hy2 : y < 18446744073709551616) (w : World) : (callFunc 98 #[.int .u64 x, .int .u64 y, .int .u64 0]).run Try.prog w =
  .ok (.value (.tuple #[.int .u64 ((x - y) % 18446744073709551616), .int .u64 (if x < y then 1 else 0)])) w := by
 simpa using wide_Sub.sub64 x y 0 hx hy hy2 (Int.le_refl 0) (by decide) w
theorem wide_Sub.words (a0 a1 : Int) (w : World) : Calls Try.prog 91 #[.agg #[.int .u64 a0, .int .u64 a1]] w fun e w' => e = .returned (.agg #[.int .u64 a1, .int .u64 a0]) ∧ ∃ o1 o2 : Obj, w' = (w.alloc o1).alloc o2 := by
 have hu40 := Try.underlying75
 go_enter Try.func91, Try.ntmps91
 go_wp2
 exact bodyPost_ret (v := .agg #[.int .u64 a1, .int .u64 a0]) (by simp [results, Try.results91, go_sem]) rfl ⟨rfl, _, _, rfl⟩
theorem wide_Sub.calls (a0_0 : Int) (a0_1 : Int) (a1_0 : Int) (a1_1 : Int) (r1 : Int) (r2 : Int) (w : World) (h : wide_Sub.f a0_0 a0_1 a1_0 a1_1 = some (r1, r2)) :
  Calls Try.prog 88 #[.agg #[.int .u64 a0_0, .int .u64 a0_1], .agg #[.int .u64 a1_0, .int .u64 a1_1]] w fun e w' => e = .returned (.agg #[.int .u64 r1, .int .u64 r2]) ∧ Below w.heap.size w w' := by
 unfold wide_Sub.f at h
 split at h
 rotate_left
 ·cases h
 rename_i hr
 obtain ⟨⟨p1, p2⟩, ⟨p3, p4⟩, ⟨p5, p6⟩, ⟨p7, p8⟩⟩ := hr
 simp only [Option.some.injEq, Prod.mk.injEq] at h
 obtain ⟨hs1, hs0⟩ := h
 have k0 : (0 : Int) ≤ (if a0_1 < a1_1 then 1 else 0) := by split <;> omega
 have k1 : (if a0_1 < a1_1 then (1 : Int) else 0) ≤ 1 := by split <;> omega
 obtain ⟨c1, hc1⟩ : ∃ c, (if a0_1 < a1_1 then (1 : Int) else 0) = c := ⟨_, rfl⟩
 rw [hc1] at k0 k1 hs1
 have A0 := A_ (fun w => wide_Sub.sub64_0 a0_1 a1_1 p3 p7 p8 w)
 have A1 := A_ (fun w => wide_Sub.sub64 a0_0 a1_0 c1 p1 p5 p6 k0 k1 w)
 rw [hs0, hc1] at A0
 rw [hs1] at A1
 obtain ⟨c2, hc2⟩ : ∃ c, (if a0_0 < a1_0 + c1 then (1 : Int) else 0) = c := ⟨_, rfl⟩
 rw [hc2] at A1
 clear p1 p2 p3 p4 p5 p6 p7 p8 k0 k1 hs0 hs1 hc1 hc2
 have hu40 := Try.underlying75
 go_enter Try.func88, Try.ntmps88
 go_upto_region 1 with fail
 go_cut [5, 6] (fun s5 s6 wx => ∃ g h : Nat, s5 = .pointer (some ⟨g, 0, none⟩) ∧ s6 = .pointer (some ⟨h, 0, none⟩) ∧ w.heap.size + 2 < g ∧ w.heap.size + 2 < h ∧ g ≠ h ∧ wx.cell? ⟨g, 0, none⟩ = some (.int .u64 a0_1) ∧ wx.cell? ⟨g, 1, none⟩ = some (.int .u64 a0_0) ∧ wx.cell? ⟨h, 0, none⟩ = some (.int .u64 a1_1) ∧ wx.cell? ⟨h, 1, none⟩ = some (.int .u64 a1_0) ∧ wx.cell? ⟨w.heap.size + 2, 0, none⟩ = some (.int .u64 0) ∧ wx.cell? ⟨w.heap.size + 2, 1, none⟩ = some (.int .u64 0) ∧ wx.frozen? ⟨g, 0, none⟩ = false ∧ wx.frozen? ⟨g, 1, none⟩ = false ∧ wx.frozen? ⟨w.heap.size + 2, 0, none⟩ = false ∧ wx.frozen? ⟨w.heap.size + 2, 1, none⟩ = false ∧ Below w.heap.size w wx)
 case first =>
  go_region_held3 (fun w' => w'.cell? ⟨w.heap.size, 0, none⟩ = some (.int .u64 a0_0) ∧ w'.cell? ⟨w.heap.size, 1, none⟩ = some (.int .u64 a0_1) ∧ w'.cell? ⟨w.heap.size + 1, 0, none⟩ = some (.int .u64 a1_0) ∧ w'.cell? ⟨w.heap.size + 1, 1, none⟩ = some (.int .u64 a1_1))
   (simp [go_sem, World.cell?_alloc_past])
   ((first | (go_at_call 91; refine (wide_Sub.words a0_0 a0_1 _).mono ?_; rintro e w1 ⟨rfl, o1, o2, rfl⟩) | (go_at_call 91; refine (wide_Sub.words a1_0 a1_1 _).mono ?_; rintro e w2 ⟨rfl, o3, o4, rfl⟩)))
  all_goals (go_wp2_with fail; go_meet)
  all_goals (
   refine ⟨_, _, rfl, rfl, by omega, by omega, by omega, ?_, ?_, ?_, ?_, ?_, ?_, ?_, ?_, ?_, ?_, ?_⟩
   all_goals first | (simp [go_sem, World.cell?_alloc_past]; done) | (repeat (first | assumption | exact Below.refl _ _ | apply below_drew1 | apply below_alloc | (refine below_set ?_ (by omega)))))
 case rest =>
  obtain ⟨g, h, rfl, rfl, hg, hh, hgh, x0, x1, y0, y1, z0, z1, f0, f1, f2, f3, bl⟩ := hcut
  go_step
  go_wp2
  go_loopg [7, 13] 2 (fun k v7 v13 w' => ∃ (j c u0 u1 : Int), v7 = .int .u64 c ∧ v13 = .int .i64 j ∧ Aside0 ((k = 2 ∧ j = 0 ∧ c = 0 ∧ u0 = a0_1 ∧ u1 = a0_0) ∨ (k = 1 ∧ j = 1 ∧ c = c1 ∧ u0 = r2 ∧ u1 = a0_0) ∨ (k = 0 ∧ j = 2 ∧ u0 = r2 ∧ u1 = r1)) ∧ w'.cell? ⟨g, 0, none⟩ = some (.int .u64 u0) ∧ w'.cell? ⟨g, 1, none⟩ = some (.int .u64 u1) ∧ w'.cell? ⟨h, 0, none⟩ = some (.int .u64 a1_1) ∧ w'.cell? ⟨h, 1, none⟩ = some (.int .u64 a1_0) ∧ w'.cell? ⟨w.heap.size + 2, 0, none⟩ = some (.int .u64 0) ∧ w'.cell? ⟨w.heap.size + 2, 1, none⟩ = some (.int .u64 0) ∧ w'.frozen? ⟨g, 0, none⟩ = false ∧ w'.frozen? ⟨g, 1, none⟩ = false ∧ w'.frozen? ⟨w.heap.size + 2, 0, none⟩ = false ∧ w'.frozen? ⟨w.heap.size + 2, 1, none⟩ = false ∧ Aside0 (Below w.heap.size w w'))
  case atStart => exact ⟨0, 0, a0_1, a0_0, rfl, rfl, ⟨.inl ⟨rfl, rfl, rfl, rfl, rfl⟩⟩, x0, x1, y0, y1, z0, z1, f0, f1, f2, f3, ⟨bl⟩⟩
  case round =>
   clear x0 x1 y0 y1 z0 z1 f0 f1 f2 f3 bl
   obtain ⟨j, c, u0, u1, rfl, rfl, hj, x0, x1, y0, y1, z0, z1, f0, f1, f2, f3, bl⟩ := hrel
   rcases hj.out with ⟨rfl, rfl, rfl, rfl, rfl⟩ | ⟨rfl, rfl, rfl, rfl, rfl⟩ | ⟨rfl, rfl, rfl, rfl⟩
   ·clear hj
    go_wp2
    have A := A0.out
    go_region
    all_goals go_wp2
    go_roundg 1
    case measure => omega
    case rel =>
     refine ⟨1, c1, r2, u1, rfl, rfl, ⟨.inr (.inl ⟨rfl, rfl, rfl, rfl, rfl⟩)⟩, ?_, ?_, ?_, ?_, ?_, ?_, ?_, ?_, ?_, ?_, ?_⟩
     all_goals first
      | exact World.cell?_setCell_same _ _ _ x0
      | exact World.cell?_setCell_same _ _ _ x1
      | exact (World.cell?_setCell_far _ _ _ _ (fun e => by have e' : g = h := e; exact hgh e')).trans (by assumption)
      | exact (World.cell?_setCell_far _ _ _ _ (fun e => by have e' : g = w.heap.size + 2 := e; omega)).trans (by assumption)
      | exact (World.frozen?_setCell _ _ _ _).trans (by assumption)
      | (refine Eq.trans (World.cell?_setCell_other _ _ _ _ ?_) (by assumption); intro e; cases e)
      | exact ⟨below_drew1 (below_set bl.out (by omega))⟩
   ·clear hj
    go_wp2
    have A := A1.out
    go_region
    all_goals go_wp2
    go_roundg 0
    case measure => omega
    case rel =>
     refine ⟨2, _, u0, r1, rfl, rfl, ⟨.inr (.inr ⟨rfl, rfl, rfl, rfl⟩)⟩, ?_, ?_, ?_, ?_, ?_, ?_, ?_, ?_, ?_, ?_, ?_⟩
     all_goals first
      | exact World.cell?_setCell_same _ _ _ x0
      | exact World.cell?_setCell_same _ _ _ x1
      | exact (World.cell?_setCell_far _ _ _ _ (fun e => by have e' : g = h := e; exact hgh e')).trans (by assumption)
      | exact (World.cell?_setCell_far _ _ _ _ (fun e => by have e' : g = w.heap.size + 2 := e; omega)).trans (by assumption)
      | exact (World.frozen?_setCell _ _ _ _).trans (by assumption)
      | (refine Eq.trans (World.cell?_setCell_other _ _ _ _ ?_) (by assumption); intro e; cases e)
      | exact ⟨below_drew1 (below_set bl.out (by omega))⟩
   ·clear hj
    go_wp2_with (first | (go_at_call 93; refine (wide_of.calls u0 u1 u1 u0 _ rfl).mono ?_; rintro e w1 ⟨rfl, hb⟩; obtain ⟨hc, hf⟩ := Nr.bcell hb; have hs := hb.size; have e0 := (hc _ 0 (World.block_lt_of_cell? wr _ z0)).trans z0; have e1 := (hc _ 1 (World.block_lt_of_cell? wr _ z0)).trans z1; have e2 := (hf _ 0 (World.block_lt_of_cell? wr _ z0)).trans f2; have e3 := (hf _ 1 (World.block_lt_of_cell? wr _ z0)).trans f3; replace bl := A_ (below_step bl.out hb); clear hc hf hb hs))
    exact bodyPost_ret (v := .agg #[.int .u64 u1, .int .u64 u0]) (by simp [results, Try.results88, go_sem, e0, e1]) rfl ⟨rfl, below_set (below_set bl.out (by omega)) (by omega)⟩
end Go.Proofs.Ythdeeoallfbjmaa.PA
section
set_option linter.unusedVariables false
set_option linter.unusedSimpArgs false
namespace Go.Proofs.Ythdeeoallfbjmaa.Th
open Go.RowKit Go.Proofs.YthdeeoallfbjmaaW.PrintWords Go.Proofs.YthdeeoallfbjmaaW.PrintLast Go.Proofs.YthdeeoallfbjmaaW.PrintMore Go.Proofs.Ythdeeoallfbjmaa.PA Bit Dig
theorem addW (a b c d : Nat) (ha : a < 18446744073709551616) (hb : b < 18446744073709551616) (hc : c < 18446744073709551616) (hd : d < 18446744073709551616) :
    wide_Add.f a b c d = some ((((wn a b + wn c d) % 340282366920938463463374607431768211456 / 18446744073709551616 : Nat) : Int), (((wn a b + wn c d) % 340282366920938463463374607431768211456 % 18446744073709551616 : Nat) : Int)) := by
  unfold wide_Add.f wn
  rw [if_pos (by omega)]
  have e1 : ((a : Int) + (c : Int) + ((b : Int) + (d : Int)) / 18446744073709551616) % 18446744073709551616 = (((a * 18446744073709551616 + b + (c * 18446744073709551616 + d)) % 340282366920938463463374607431768211456 / 18446744073709551616 : Nat) : Int) := by omega
  have e2 : ((b : Int) + (d : Int)) % 18446744073709551616 = (((a * 18446744073709551616 + b + (c * 18446744073709551616 + d)) % 340282366920938463463374607431768211456 % 18446744073709551616 : Nat) : Int) := by omega
  rw [e1, e2]
theorem subW (a b c d : Nat) (ha : a < 18446744073709551616) (hb : b < 18446744073709551616) (hc : c < 18446744073709551616) (hd : d < 18446744073709551616) :
    wide_Sub.f a b c d = some ((((wn a b + (340282366920938463463374607431768211456 - wn c d)) % 340282366920938463463374607431768211456 / 18446744073709551616 : Nat) : Int), (((wn a b + (340282366920938463463374607431768211456 - wn c d)) % 340282366920938463463374607431768211456 % 18446744073709551616 : Nat) : Int)) := by
  unfold wide_Sub.f wn
  rw [if_pos (by omega)]
  have e1 : ((a : Int) - (c : Int) - (if (b : Int) < (d : Int) then 1 else 0)) % 18446744073709551616 = (((a * 18446744073709551616 + b + (340282366920938463463374607431768211456 - (c * 18446744073709551616 + d))) % 340282366920938463463374607431768211456 / 18446744073709551616 : Nat) : Int) := by split <;> omega
  have e2 : ((b : Int) - (d : Int)) % 18446744073709551616 = (((a * 18446744073709551616 + b + (340282366920938463463374607431768211456 - (c * 18446744073709551616 + d))) % 340282366920938463463374607431768211456 % 18446744073709551616 : Nat) : Int) := by omega
  rw [e1, e2]
end Go.Proofs.Ythdeeoallfbjmaa.Th
end
section
set_option linter.unusedVariables false
set_option linter.unusedSimpArgs false
namespace Go.Proofs.Ythdeeoallfbjmaa.Th
open Go.RowKit Go.Proofs.YthdeeoallfbjmaaW.PrintWords Go.Proofs.YthdeeoallfbjmaaW.PrintLast Go.Proofs.YthdeeoallfbjmaaW.PrintMore Go.Proofs.Ythdeeoallfbjmaa.PA Bit Flo
theorem fmt_bd' (w : Int) : (fmt w).f ≤ 52 ∧ (-5000 < (fmt w).low ∧ (fmt w).low < 0) ∧ (fmt w).top < 5000 ∧ 2 ≤ (fmt w).top := by
  unfold fmt; split <;> decide
def wH (V : Nat) : Int := ((V / 18446744073709551616 : Nat) : Int)
def wL (V : Nat) : Int := ((V % 18446744073709551616 : Nat) : Int)
theorem wHL (h l : Nat) (hl : l < 18446744073709551616) : wH (wn h l) = h ∧ wL (wn h l) = l := by unfold wH wL; rw [wn_hi hl, wn_lo hl]; exact ⟨rfl, rfl⟩
theorem hi64 {V : Nat} (h : V < 340282366920938463463374607431768211456) : V / 18446744073709551616 < 18446744073709551616 := by omega
theorem lo64 (V : Nat) : V % 18446744073709551616 < 18446744073709551616 := Nat.mod_lt _ (by decide)
theorem wLen {V : Nat} (h : V < 340282366920938463463374607431768211456) : wide_Len.f (wH V) (wL V) = some ((bl V : Nat) : Int) := by
  have := lenW (V / 18446744073709551616) (V % 18446744073709551616) (hi64 h) (lo64 V)
  rwa [wn_div] at this
theorem wLeft {V : Nat} (h : V < 340282366920938463463374607431768211456) (n : Nat) (hn : n < 1000) (hV : V * 2 ^ n < 340282366920938463463374607431768211456) : wide_Left.f (wH V) (wL V) n = some (wH (V * 2 ^ n), wL (V * 2 ^ n)) := by
  have := leftW (V / 18446744073709551616) (V % 18446744073709551616) n (hi64 h) (lo64 V) (by omega)
  rwa [wn_div, lfV, Int.toNat_natCast, Nat.mod_eq_of_lt hV] at this
theorem wRight {V : Nat} (h : V < 340282366920938463463374607431768211456) (n : Nat) (hn : n < 1099511627776) : wide_Right.f (wH V) (wL V) n = some (wH (V / 2 ^ n), wL (V / 2 ^ n), decide (V % 2 ^ n ≠ 0)) := by
  have := rightW (V / 18446744073709551616) (V % 18446744073709551616) n (hi64 h) (lo64 V) (by omega)
  rwa [wn_div, rgV, Int.toNat_natCast] at this
theorem wAdd1 {V : Nat} (h : V + 1 < 340282366920938463463374607431768211456) : wide_Add.f (wH V) (wL V) 0 1 = some (wH (V + 1), wL (V + 1)) := by
  have := addW (V / 18446744073709551616) (V % 18446744073709551616) 0 1 (hi64 (by omega)) (lo64 V) (by decide) (by decide)
  rw [wn_div, show wn 0 1 = 1 by decide, Nat.mod_eq_of_lt h] at this
  exact this
theorem wAnd1 (V : Nat) : (Go.bits .and .u64 (wL V) 1 == 1) = decide (V % 2 = 1) := by
  unfold wL
  rw [show (1 : Int) = ((1 : Nat) : Int) from rfl, u64_and_nat _ 1 (lo64 V) (by decide)]
  have h1 := and_low (V % 18446744073709551616) 1
  rw [show (2 : Nat) ^ 1 - 1 = 1 by decide, show (2 : Nat) ^ 1 = 2 by decide] at h1
  rw [h1, Bool.eq_iff_iff]; simp; omega
theorem wSmall {V : Nat} (h : V < 18446744073709551616) : wH V = 0 ∧ wL V = V := by unfold wH wL; omega
theorem shZ (w : Int) (hw : w = 32 ∨ w = 64) (s : Bool) : shape_Zero.f w s = some ((mkN w 0 s : Nat) : Int) := by rcases hw with rfl | rfl; exact shZero32 s; exact shZero64 s
theorem shI (w : Int) (hw : w = 32 ∨ w = 64) (s : Bool) : shape_Inf.f w s = some ((mkN w (fmt w).inf s : Nat) : Int) := by rcases hw with rfl | rfl; exact shInf32 s; exact shInf64 s
theorem clo (w : Int) (hw : w = 32 ∨ w = 64) (s : Bool) (m : Nat) (h0 : 0 < m) (hm : m < (fmt w).inf) : ∃ k z, shape_Close.f k w s 1 ((fmt w).ex m) ((fmt w).sg m : Nat) = some (((mkN w m s : Nat) : Int), z) := by
  rcases hw with rfl | rfl
  · obtain ⟨k, hk⟩ := (close32 s m h0 hm).rounds; exact ⟨k, 0, hk⟩
  · obtain ⟨k, hk⟩ := (close64 s m h0 hm).rounds; exact ⟨k, 0, hk⟩
end Go.Proofs.Ythdeeoallfbjmaa.Th
end
/- round.Pack answers the nearest float, for every number in the range of exponents that it looks at. -/
namespace Go.Proofs.Ythdeeoallfbjmaa.PA
open Go.RowKit Go.Proofs.YthdeeoallfbjmaaW.PrintWords Go.Proofs.YthdeeoallfbjmaaW.PrintLast Go.Proofs.YthdeeoallfbjmaaW.PrintMore
attribute [local go_sem] max2_int min2_int max_two min_two max_three min_three max_four min_four   -- for this text's walks alone
set_option linter.unusedVariables false
set_option linter.unusedSimpArgs false
open Go.Proofs.Ythdeeoallfbjmaa.Th Flo
theorem rp_fin (W : Int) (hw : W = 32 ∨ W = 64) (ng : Bool) (t2 t1 hi : Int) (h2 : t2 = ((2 ^ ((fmt W).f + 1) : Nat) : Int)) (h1 : t1 = ((2 ^ (fmt W).f : Nat) : Int)) (hh : hi = (fmt W).low + (fmt W).top - 2) (q R : Nat) (e3 : Int) (he : e3 = q + (fmt W).low)
    (hR : R ≤ 2 ^ ((fmt W).f + 1)) (hl : 0 < q → 2 ^ (fmt W).f ≤ R) :
    (hi < e3 ∧ shape_Inf.f W ng = some ((mkN W ((fmt W).fin q R) ng : Nat) : Int)) ∨ (e3 ≤ hi ∧ ∃ l4 e4, (((R : Int) = t2 ∧ t1 = l4 ∧ e3 + 1 = e4) ∨ ((R : Int) ≠ t2 ∧ (R : Int) = l4 ∧ e3 = e4)) ∧
      ((l4 = 0 ∧ shape_Zero.f W ng = some ((mkN W ((fmt W).fin q R) ng : Nat) : Int)) ∨ (l4 ≠ 0 ∧ hi < e4 ∧ shape_Inf.f W ng = some ((mkN W ((fmt W).fin q R) ng : Nat) : Int)) ∨ (l4 ≠ 0 ∧ e4 ≤ hi ∧ ∃ k z, shape_Close.f k W ng 1 e4 l4 = some (((mkN W ((fmt W).fin q R) ng : Nat) : Int), z)))) := by
  have hz := shZ W hw ng
  have hi_ := shI W hw ng
  have hc := clo W hw ng
  generalize fmt W = F at *
  have hp := F.pow_pos
  have ht := F.ht
  have e1 : 2 ^ (F.f + 1) = 2 ^ F.f * 2 := Nat.pow_succ ..
  by_cases c1 : F.top < q + 2
  · left
    refine ⟨by omega, ?_⟩
    have : F.fin q R = F.inf := by
      unfold Fmt.fin
      split
      · first | rfl | rw [if_pos (by omega)]
      · first | rfl | rw [if_pos c1]
    rw [this]; exact hi_
  · right
    refine ⟨by omega, ?_⟩
    by_cases c2 : R = 2 ^ (F.f + 1)
    · refine ⟨t1, e3 + 1, .inl ⟨by rw [c2, h2], rfl, rfl⟩, ?_⟩
      by_cases c3 : F.top < q + 3
      · refine .inr (.inl ⟨by rw [h1]; omega, by omega, ?_⟩)
        have : F.fin q R = F.inf := by unfold Fmt.fin; rw [if_pos c2, if_pos c3]
        rw [this]; exact hi_
      · refine .inr (.inr ⟨by rw [h1]; omega, by omega, ?_⟩)
        have e5 : F.fin q R = (q + 1) * 2 ^ F.f + 2 ^ F.f := by unfold Fmt.fin; rw [if_pos c2, if_neg c3, Nat.add_mul, Nat.add_mul]; omega
        have hm : F.fin q R < F.inf := by
          rw [e5]
          unfold Fmt.inf
          have := Nat.mul_le_mul_right (2 ^ F.f) (show q + 3 ≤ F.top by omega)
          rw [Nat.add_mul] at this ⊢
          omega
        obtain ⟨h3, h4⟩ := F.sg_mk (q + 1) (2 ^ F.f) (by omega) (fun _ => Nat.le_refl _)
        have := hc (F.fin q R) (by rw [e5]; omega) hm
        rw [e5, h3, h4, ← e5, show (((q + 1 : Nat) : Int) + F.low) = e3 + 1 by omega, ← h1] at this
        exact this
    · refine ⟨(R : Int), e3, .inr ⟨by rw [h2]; intro k; exact c2 (by exact_mod_cast k), rfl, rfl⟩, ?_⟩
      by_cases c3 : R = 0
      · left
        have hq : q = 0 := by rcases Nat.eq_zero_or_pos q with h | h; exact h; have := hl h; omega
        have : F.fin q R = 0 := by unfold Fmt.fin; rw [if_neg c2, if_neg c1, if_pos (by omega)]; exact c3
        exact ⟨by omega, by rw [this]; exact hz⟩
      · refine .inr (.inr ⟨by omega, by omega, ?_⟩)
        have e5 : F.fin q R = q * 2 ^ F.f + R := by
          unfold Fmt.fin
          rw [if_neg c2, if_neg c1]
          split
          · rcases Nat.eq_zero_or_pos q with h | h
            · rw [h]; omega
            · have := hl h; omega
          · rw [Nat.add_mul]; omega
        have hm : F.fin q R < F.inf := by
          rw [e5]
          unfold Fmt.inf
          have := Nat.mul_le_mul_right (2 ^ F.f) (show q + 2 ≤ F.top by omega)
          rw [Nat.add_mul] at this
          omega
        obtain ⟨h3, h4⟩ := F.sg_mk q R (by omega) hl
        have := hc (F.fin q R) (by rw [e5]; omega) hm
        rw [e5, h3, h4, ← e5, ← he] at this
        exact this
theorem rp_main (W f t2 t1 lo hi : Int) (hW : (W = 32 ∧ f = 23 ∧ t2 = 16777216 ∧ t1 = 8388608) ∨ (W = 64 ∧ f = 52 ∧ t2 = 9007199254740992 ∧ t1 = 4503599627370496)) (hlo : lo = (fmt W).low) (hhi : hi = (fmt W).low + (fmt W).top - 2)
    (AIM : ∀ ng h l e m, round_aim.f W ng h l e m = some (h, l, e, m, W, f, lo, hi, ng, true)) (S : Nat) (hS : S < 340282366920938463463374607431768211456) (e : Int) (m ng : Bool) (Z : S ≠ 0 ∨ m = true) (E1 : e ≤ 1048576) (E2 : -1048576 ≤ e) (w : World) :
    Calls Try.prog 57 #[.int .i64 W, .bool ng, .agg #[.int .u64 (wH S), .int .u64 (wL S)], .int .i64 e, .bool m] w fun en w' => en = .returned (.int .u64 ((mkN W (pkm (fmt W) S e m) ng : Nat) : Int)) ∧ Below w.heap.size w w' := by
  have hw : W = 32 ∨ W = 64 := by rcases hW with ⟨h, _⟩ | ⟨h, _⟩; exact .inl h; exact .inr h
  have hf : f = ((fmt W).f : Int) ∧ t2 = ((2 ^ ((fmt W).f + 1) : Nat) : Int) ∧ t1 = ((2 ^ (fmt W).f : Nat) : Int) := by
    rcases hW with ⟨rfl, rfl, rfl, rfl⟩ | ⟨rfl, rfl, rfl, rfl⟩ <;> decide
  have hbd := fmt_bd' W
  obtain ⟨hf, h2, h1⟩ := hf
  -- the number whose last bits go
  obtain ⟨S1, e1, m1, hS1, hpos, hm1, hk, hT⟩ : ∃ (S1 : Nat) (e1 : Int) (m1 : Bool), S1 < 340282366920938463463374607431768211456 ∧ 0 < S1 ∧ (m1 = true → 127 ≤ bl S1) ∧ pkm (fmt W) S e m = pkc (fmt W) S1 e1 (if m1 then 1 else 0) ∧
      ((m = true ∧ (∃ n0, wide_Len.f (wH S) (wL S) = some n0 ∧ n0 < 127) ∧ (∃ x0 x1, wide_Left.f (wH S) (wL S) 1 = some (x0, x1) ∧ wide_Add.f x0 x1 0 1 = some (wH S1, wL S1)) ∧ e - 1 = e1 ∧ m1 = false) ∨ ((m = false ∨ ∃ n0, wide_Len.f (wH S) (wL S) = some n0 ∧ 127 ≤ n0) ∧ wH S1 = wH S ∧ wL S1 = wL S ∧ e1 = e ∧ m1 = m)) := by
    have hk : pkm (fmt W) S e m = if m = true ∧ bl S < 127 then pkc (fmt W) (2 * S + 1) (e - 1) 0 else pkc (fmt W) S e (if m then 1 else 0) := by
      unfold pkm
      rw [if_neg (by rintro ⟨h1, h2⟩; rcases Z with h | h; exact h h1; rw [h2] at h; cases h), if_neg (by omega), if_neg (by omega)]
    by_cases c : m = true ∧ bl S < 127
    · rw [if_pos c] at hk
      have hlt := bl_le.1 (Nat.le_of_lt_succ (show bl S < 126 + 1 from c.2))
      rw [show (2 : Nat) ^ 126 = 85070591730234615865843651857942052864 by decide] at hlt
      have hl := wLeft hS 1 (by decide) (by omega)
      refine ⟨2 * S + 1, e - 1, false, by omega, by omega, fun h => (by cases h), (by rw [hk]; rfl), .inl ⟨c.1, ⟨_, wLen hS, by omega⟩, ⟨_, _, hl, ?_⟩, rfl, rfl⟩⟩
      rw [wAdd1 (by omega)]
      rw [show S * 2 ^ 1 + 1 = 2 * S + 1 by omega]
    · rw [if_neg c] at hk
      refine ⟨S, e, m, hS, ?_, fun h => ?_, hk, .inr ⟨?_, rfl, rfl, rfl, rfl⟩⟩
      · rcases Z with h | h
        · omega
        · have : 127 ≤ bl S := by
            rcases Nat.lt_or_ge (bl S) 127 with h3 | h3
            · exact absurd ⟨h, h3⟩ c
            · exact h3
          exact bl_pos.1 (by omega)
      · rcases Nat.lt_or_ge (bl S) 127 with h3 | h3
        · exact absurd ⟨h, h3⟩ c
        · exact h3
      · cases hm : m
        · exact .inl rfl
        · right
          refine ⟨_, wLen hS, ?_⟩
          rcases Nat.lt_or_ge (bl S) 127 with h3 | h3
          · exact absurd ⟨hm, h3⟩ c
          · omega
  have b128 := bl_128 hS1
  have he1 : -1048578 < e1 ∧ e1 < 1048578 := by rcases hT with ⟨_, _, _, h, _⟩ | ⟨_, _, _, h, _⟩ <;> omega
  rw [hk]
  have mx_ : ∀ a b : Int, mx a b = max a b := fun a b => by unfold mx; split <;> omega
  have mn_ : ∀ a b : Int, mn a b = min a b := fun a b => by unfold mn; split <;> omega
  have p54 : 2 ^ ((fmt W).f + 1) ≤ 9007199254740992 := by
    rw [show (9007199254740992 : Nat) = 2 ^ 53 by decide]; exact Nat.pow_le_pow_right (by decide) (by omega)
  by_cases c : (bl S1 : Int) - (fmt W).f - 1 ≤ 0 ∧ (fmt W).low - e1 ≤ 0
  · obtain rfl : m1 = false := by
      cases m1
      · rfl
      · have := hm1 rfl; omega
    obtain ⟨q, u, hu, hq, e5, _, hR, hl⟩ := pkc_up (fmt W) hpos c
    have e6 : pkc (fmt W) S1 e1 (if false = true then 1 else 0) = (fmt W).fin q (S1 * 2 ^ u) := e5
    rw [e6]
    have FX := rp_fin W hw ng t2 t1 hi h2 h1 hhi q (S1 * 2 ^ u) (e1 - u) (by omega) hR hl
    have hs := wSmall (V := S1 * 2 ^ u) (by omega)
    refine rp_pack W f t2 t1 lo hi hW (by omega) (wH S) (wL S) e (wH S1) (wL S1) e1 (bl S1) (max ((bl S1 : Int) - f - 1) (lo - e1)) (wH S1) (wL S1) e1 (bl S1) u (wH (S1 * 2 ^ u)) (wL (S1 * 2 ^ u)) (e1 - u) _ m false ng w (AIM _ _ _ _ _) ?_ E1 E2 hT (wLen hS1) (by omega) (mx_ _ _) (.inl ⟨by omega, rfl, rfl, rfl, rfl⟩) (wLen hS1) (by omega) ?_ ?_ ?_
    · rcases Z with h | h
      · left
        rw [Bool.and_eq_false_iff]
        by_cases h3 : S / 18446744073709551616 = 0
        · right; unfold wL; rw [beq_eq_false_iff_ne]; omega
        · left; unfold wH; rw [beq_eq_false_iff_ne]; omega
      · exact .inr h
    · rw [mn_, hf, hlo]; exact hu.symm
    · rcases Nat.eq_zero_or_pos u with h | h
      · right; subst h; exact ⟨by omega, by rw [Nat.pow_zero, Nat.mul_one], by rw [Nat.pow_zero, Nat.mul_one], by omega⟩
      · left; exact ⟨by omega, wLeft hS1 u (by omega) (by omega), rfl⟩
    · rw [hs.1, hs.2]
      rcases FX with h | ⟨h, h'⟩
      · exact .inl h
      · exact .inr ⟨h, rfl, h'⟩
  · obtain ⟨q, n, j, hj, hq, hn, e5, _, hR, hl⟩ := pkc_dn (fmt W) (S := S1) (m := if m1 then 1 else 0) (e := e1) (by cases m1 <;> decide) hpos c
    rw [e5]
    have FX := rp_fin W hw ng t2 t1 hi h2 h1 hhi q n (e1 + ((j + 1 : Nat) : Int)) (by omega) hR hl
    have hs := wSmall (V := n) (by omega)
    have hn128 : n < 340282366920938463463374607431768211456 := by omega
    have hj40 : j < 1099511627775 := by omega
    have r1 := wRight hS1 j (by omega)
    have hk1 : S1 / 2 ^ j < 340282366920938463463374607431768211456 := Nat.lt_of_le_of_lt (Nat.div_le_self _ _) hS1
    have r2 := wRight hk1 1 (by decide)
    have rb := rne_bits S1 j (if m1 then 1 else 0) (by cases m1 <;> decide)
    rw [← hn] at rb
    have hn2 := bl_128 hn128
    have hlen : (fmt W).f + 1 ≤ bl n ∨ q = 0 := by
      rcases Nat.eq_zero_or_pos q with h | h
      · exact .inr h
      · left
        have := hl h
        exact lt_bl.2 this
    refine rp_pack W f t2 t1 lo hi hW (by omega) (wH S) (wL S) e (wH S1) (wL S1) e1 (bl S1) ((j + 1 : Nat) : Int) (wH n) (wL n) (e1 + ((j + 1 : Nat) : Int)) (bl n) (min (f + 1 - bl n) (e1 + ((j + 1 : Nat) : Int) - lo)) (wH n) (wL n) (e1 + ((j + 1 : Nat) : Int)) _ m m1 ng w (AIM _ _ _ _ _) ?_ E1 E2 hT (wLen hS1) (by omega) ?_ (.inr ⟨by omega, rfl, wH (S1 / 2 ^ j), wL (S1 / 2 ^ j), wH (S1 / 2 ^ j / 2), wL (S1 / 2 ^ j / 2), decide (S1 % 2 ^ j ≠ 0), _, decide (S1 / 2 ^ j % 2 = 1 ∧ (S1 % 2 ^ j ≠ 0 ∨ (if m1 then 1 else 0) = 1 ∨ S1 / 2 ^ j / 2 % 2 = 1)), ?_, r2, ?_, ?_, ?_⟩) (wLen hn128) (by omega) (mn_ _ _) (.inr ⟨by omega, rfl, rfl, rfl⟩) ?_
    · rcases Z with h | h
      · left
        rw [Bool.and_eq_false_iff]
        by_cases h3 : S / 18446744073709551616 = 0
        · right; unfold wL; rw [beq_eq_false_iff_ne]; omega
        · left; unfold wH; rw [beq_eq_false_iff_ne]; omega
      · exact .inr h
    · rw [mx_, hf, hlo]; rw [← hj]; rfl
    · rw [show (((j + 1 : Nat) : Int) - 1) = (j : Int) by omega]; exact r1
    · rw [wAnd1, wAnd1, Bool.eq_iff_iff]
      cases m1 <;> simp
    · intro h
      rw [decide_eq_true_eq] at h
      rw [if_pos h] at rb
      rw [rb]
      exact wAdd1 (by omega)
    · intro h
      rw [decide_eq_false_iff_not] at h
      rw [if_neg h] at rb
      rw [rb]; exact ⟨rfl, rfl⟩
    · rw [hs.1, hs.2]
      rcases FX with h | ⟨h, h'⟩
      · exact .inl h
      · exact .inr ⟨h, rfl, h'⟩
end Go.Proofs.Ythdeeoallfbjmaa.PA
/- round.Pack's short ways: no width; nought; an exponent that is too great or too small. -/
namespace Go.Proofs.Ythdeeoallfbjmaa.PA
open Go.RowKit Go.Proofs.YthdeeoallfbjmaaW.PrintWords Go.Proofs.YthdeeoallfbjmaaW.PrintLast Go.Proofs.YthdeeoallfbjmaaW.PrintMore
attribute [local go_sem] max2_int min2_int max_two min_two max_three min_three max_four min_four   -- for this text's walks alone
set_option linter.unusedVariables false
set_option linter.unusedSimpArgs false
attribute [local go_sem high] eqA75
open Go.Proofs.Ythdeeoallfbjmaa.Th Flo
set_option maxHeartbeats 8000000 in
set_option maxRecDepth 100000 in
theorem rp_none (W : Int) (h l e : Int) (m ng : Bool) (w : World) (AIM : round_aim.f W ng h l e m = some (0, 0, 0, false, 0, 0, 0, 0, false, false)) :
    Calls Try.prog 57 #[.int .i64 W, .bool ng, .agg #[.int .u64 h, .int .u64 l], .int .i64 e, .bool m] w fun en w' => en = .returned (.int .u64 0) ∧ Below w.heap.size w w' := by
  have hu41 := Try.underlying75
  have hu95 := Try.underlying89
  have hu97 := Try.underlying91
  have A_ := Aside0.mk AIM
  clear AIM
  go_enter Try.func57, Try.ntmps57
  go_wp2_with (first | (go_at_call 73; (with_reducible refine (round_aim.calls W ng h l e m 0 0 0 false 0 0 0 0 false false _ A_.out).mono ?_); rintro en w1 ⟨rfl, hb⟩))
  go_ret
  exact ⟨rfl, below_alloc (below_step (below_alloc (Below.refl _ w) _) hb) _⟩
set_option maxHeartbeats 8000000 in
set_option maxRecDepth 100000 in
theorem rp_short (W f lo hi : Int) (h l e r : Int) (m ng : Bool) (w : World) (AIM : round_aim.f W ng h l e m = some (h, l, e, m, W, f, lo, hi, ng, true))
    (C : (h = 0 ∧ l = 0 ∧ m = false ∧ shape_Zero.f W ng = some r) ∨ (((h == 0) && (l == 0) && !m) = false ∧ ((1048576 < e ∧ shape_Inf.f W ng = some r) ∨ (e < -1048576 ∧ shape_Zero.f W ng = some r)))) :
    Calls Try.prog 57 #[.int .i64 W, .bool ng, .agg #[.int .u64 h, .int .u64 l], .int .i64 e, .bool m] w fun en w' => en = .returned (.int .u64 r) ∧ Below w.heap.size w w' := by
  have hu41 := Try.underlying75
  have hu95 := Try.underlying89
  have hu97 := Try.underlying91
  have A_ := Aside0.mk AIM
  clear AIM
  obtain ⟨bh, hh⟩ : ∃ y, (h == 0) = y := ⟨_, rfl⟩
  obtain ⟨bl_, hl⟩ : ∃ y, (l == 0) = y := ⟨_, rfl⟩
  rw [hh, hl] at C
  rcases C with ⟨rfl, rfl, rfl, B_⟩ | ⟨Z, C⟩
  · have B := Aside0.mk B_
    clear B_ hh hl
    go_enter Try.func57, Try.ntmps57
    go_wp2_with (first
      | (go_at_call 73; (with_reducible refine (round_aim.calls W ng 0 0 e false 0 0 e false W f lo hi ng true _ A_.out).mono ?_); rintro en w1 ⟨rfl, hb⟩; have sa := ((Nr.bcell hb).1 w.heap.size 0 (by simp)).trans (show _ = some (Value.int .u64 0) by simp [go_sem]); have sb := ((Nr.bcell hb).1 w.heap.size 1 (by simp)).trans (show _ = some (Value.int .u64 0) by simp [go_sem]); have hz := Nat.lt_of_lt_of_le (show w.heap.size < (w.alloc (.cells #[.int .u64 0, .int .u64 0] 75 (0, 0))).heap.size by simp) hb.size; have H1 := Aside0.mk (below_step (below_alloc (Below.refl _ w) _) hb); clear hb)
      | (go_at_call 70; (with_reducible refine (shape_Zero.calls W ng r _ B.out).mono ?_); rintro en w2 ⟨rfl, hb⟩))
    go_ret
    exact ⟨rfl, below_step (below_alloc H1.out _) hb⟩
  · have key : Aside0 ((decide (1048576 < e) = true ∧ shape_Inf.f W ng = some r) ∨ (decide (1048576 < e) = false ∧ decide (e < -1048576) = true ∧ shape_Zero.f W ng = some r)) := ⟨by
      rcases C with ⟨h1, h2⟩ | ⟨h1, h2⟩
      · exact .inl ⟨decide_eq_true h1, h2⟩
      · exact .inr ⟨decide_eq_false (by omega), decide_eq_true h1, h2⟩⟩
    clear C
    cases bh <;> cases bl_ <;> cases m <;> first
      | (exfalso; simp at Z; done)
      | (clear Z
         rcases key.out with ⟨d, B_⟩ | ⟨d, d2, B_⟩
         all_goals
          have B := Aside0.mk B_
          clear B_ key
          go_enter Try.func57, Try.ntmps57
          go_wp2_with (first
            | (go_at_call 73; (with_reducible refine (round_aim.calls W ng h l e _ h l e _ W f lo hi ng true _ A_.out).mono ?_); rintro en w1 ⟨rfl, hb⟩; have sa := ((Nr.bcell hb).1 w.heap.size 0 (by simp)).trans (show _ = some (Value.int .u64 h) by simp [go_sem]); have sb := ((Nr.bcell hb).1 w.heap.size 1 (by simp)).trans (show _ = some (Value.int .u64 l) by simp [go_sem]); have hz := Nat.lt_of_lt_of_le (show w.heap.size < (w.alloc (.cells #[.int .u64 h, .int .u64 l] 75 (0, 0))).heap.size by simp) hb.size; have H1 := Aside0.mk (below_step (below_alloc (Below.refl _ w) _) hb); clear hb)
            | (go_at_call 70; (with_reducible refine (shape_Zero.calls W ng r _ B.out).mono ?_); rintro en w2 ⟨rfl, hb⟩)
            | (go_at_call 74; (with_reducible refine (shape_Inf.calls W ng r _ B.out).mono ?_); rintro en w2 ⟨rfl, hb⟩))
          go_ret
          exact ⟨rfl, below_step (below_alloc H1.out _) hb⟩)
end Go.Proofs.Ythdeeoallfbjmaa.PA
namespace Go.Proofs.Ythdeeoallfbjmaa.PA
open Go.RowKit Go.Proofs.YthdeeoallfbjmaaW.PrintWords Go.Proofs.YthdeeoallfbjmaaW.PrintLast Go.Proofs.YthdeeoallfbjmaaW.PrintMore
attribute [local go_sem] max2_int min2_int max_two min_two max_three min_three max_four min_four   -- for this text's walks alone
set_option linter.unusedVariables false
set_option linter.unusedSimpArgs false
set_option maxHeartbeats 8000000
set_option maxRecDepth 100000
-- IMPORT Derived.Test.YthdeeoallfbjmaaHRpF
def round_Pack.f (a0 : Int) (a1 : Bool) (a2_0 : Int) (a2_1 : Int) (a3 : Int) (a4 : Bool) : Option (Int) :=
 if (0 ≤ a2_0 ∧ a2_0 < 18446744073709551616) ∧ (0 ≤ a2_1 ∧ a2_1 < 18446744073709551616) then
  some (if a0 = 32 ∨ a0 = 64 then ((Th.mkN a0 (Th.pkm (Th.fmt a0) (Th.wn a2_0.toNat a2_1.toNat) a3 a4) a1 : Nat) : Int) else 0) else none
theorem round_Pack.calls (a0 : Int) (a1 : Bool) (a2_0 : Int) (a2_1 : Int) (a3 : Int) (a4 : Bool) (r : Int) (w : World) (h : round_Pack.f a0 a1 a2_0 a2_1 a3 a4 = some r) :
  Calls Try.prog 57 #[.int .i64 a0, .bool a1, .agg #[.int .u64 a2_0, .int .u64 a2_1], .int .i64 a3, .bool a4] w fun e w' => e = .returned (.int .u64 r) ∧ Below w.heap.size w w' := by
 unfold round_Pack.f at h
 split at h
 rotate_left
 ·cases h
 rename_i hr
 obtain ⟨⟨p1, p2⟩, p3, p4⟩ := hr
 obtain rfl := Option.some.inj h
 obtain ⟨H, rfl⟩ := Int.eq_ofNat_of_zero_le p1
 obtain ⟨L, rfl⟩ := Int.eq_ofNat_of_zero_le p3
 rw [Int.toNat_natCast, Int.toNat_natCast]
 have hL : L < 18446744073709551616 := by omega
 have hS := Th.wn_lt (show H < 18446744073709551616 by omega) hL
 obtain ⟨e1, e2⟩ := Th.wHL H L hL
 have hz : Th.wn H L = 0 ↔ H = 0 ∧ L = 0 := by unfold Th.wn; omega
 by_cases hw : a0 = 32 ∨ a0 = 64
 ·rw [if_pos hw]
  have key : ∀ (f lo hi t2 t1 : Int), ((a0 = 32 ∧ f = 23 ∧ t2 = 16777216 ∧ t1 = 8388608) ∨ (a0 = 64 ∧ f = 52 ∧ t2 = 9007199254740992 ∧ t1 = 4503599627370496)) → lo = (Th.fmt a0).low → hi = (Th.fmt a0).low + (Th.fmt a0).top - 2 →
    (∀ ng h l e m, round_aim.f a0 ng h l e m = some (h, l, e, m, a0, f, lo, hi, ng, true)) → Calls Try.prog 57 #[.int .i64 a0, .bool a1, .agg #[.int .u64 (H : Int), .int .u64 (L : Int)], .int .i64 a3, .bool a4] w fun e w' => e = .returned (.int .u64 ((Th.mkN a0 (Th.pkm (Th.fmt a0) (Th.wn H L) a3 a4) a1 : Nat) : Int)) ∧ Below w.heap.size w w' := by
   intro f lo hi t2 t1 hW h1 h2 AIM
   by_cases c1 : Th.wn H L = 0 ∧ a4 = false
   ·refine rp_short a0 f lo hi H L a3 _ a4 a1 w (AIM _ _ _ _ _) (.inl ⟨by have := hz.1 c1.1; omega, by have := hz.1 c1.1; omega, c1.2, ?_⟩)
    unfold Th.pkm
    rw [if_pos c1]
    exact Th.shZ a0 hw a1
   ·have hb : (((H : Int) == 0) && ((L : Int) == 0) && !a4) = false := by
     cases a4
     ·have : ¬ (H = 0 ∧ L = 0) := fun h => c1 ⟨hz.2 h, rfl⟩
      rw [Bool.not_false, Bool.and_true, Bool.and_eq_false_iff, beq_eq_false_iff_ne, beq_eq_false_iff_ne]
      omega
     ·simp
    by_cases c2 : 1048576 < a3
    ·refine rp_short a0 f lo hi H L a3 _ a4 a1 w (AIM _ _ _ _ _) (.inr ⟨hb, .inl ⟨c2, ?_⟩⟩)
     unfold Th.pkm
     rw [if_neg c1, if_pos c2]
     exact Th.shI a0 hw a1
    ·by_cases c3 : a3 < -1048576
     ·refine rp_short a0 f lo hi H L a3 _ a4 a1 w (AIM _ _ _ _ _) (.inr ⟨hb, .inr ⟨c3, ?_⟩⟩)
      unfold Th.pkm
      rw [if_neg c1, if_neg c2, if_pos c3]
      exact Th.shZ a0 hw a1
     ·have := rp_main a0 f t2 t1 lo hi hW h1 h2 AIM (Th.wn H L) hS a3 a4 a1 (by
       cases a4
       ·exact .inl fun h => c1 ⟨h, rfl⟩
       ·exact .inr rfl) (by omega) (by omega) w
      rw [e1, e2] at this
      exact this
  rcases hw with rfl | rfl
  ·exact key 23 (-149) 104 16777216 8388608 (.inl ⟨rfl, rfl, rfl, rfl⟩) (by decide) (by decide) (fun ng h l e m => by
    unfold round_aim.f; rw [show shape_Fields.f 32 = some (8, 23) by decide, Option.bind_some, if_neg (by decide), if_pos (by decide +kernel), if_pos (by decide)]
    rw [show wrap64 ((wrap64 (2 - (shl .i64 1 (wrap64 ((8 : Int) - 1))))) - 23) = -149 by decide +kernel, show wrap64 ((wrap64 ((-149 : Int) + (shl .i64 1 8))) - 3) = 104 by decide +kernel])
  ·exact key 52 (-1074) 971 9007199254740992 4503599627370496 (.inr ⟨rfl, rfl, rfl, rfl⟩) (by decide) (by decide) (fun ng h l e m => by
    unfold round_aim.f; rw [show shape_Fields.f 64 = some (11, 52) by decide, Option.bind_some, if_neg (by decide), if_pos (by decide +kernel), if_pos (by decide)]
    rw [show wrap64 ((wrap64 (2 - (shl .i64 1 (wrap64 ((11 : Int) - 1))))) - 52) = -1074 by decide +kernel, show wrap64 ((wrap64 ((-1074 : Int) + (shl .i64 1 11))) - 3) = 971 by decide +kernel])
 ·rw [if_neg hw]
  refine rp_none a0 H L a3 a4 a1 w ?_
  unfold round_aim.f shape_Fields.f shape_of.f
  rw [if_neg (by omega), if_neg (by omega)]
  rfl
def round_Narrow.f (a0 : Int) (a1_0 : Bool) (a1_1 : Int) (a1_2 : Int) (a1_3 : Int) : Option (Int) := if a1_1 = 0 then ((shape_Zero.f a0 a1_0).bind fun t579 => (some t579)) else (if a1_1 = 1 then ((wide_Of.f a1_3).bind fun bt580 => ((round_Pack.f a0 a1_0 bt580.1 bt580.2 a1_2 false).bind fun t582 => (some t582))) else (if a1_1 = 2 then ((shape_Inf.f a0 a1_0).bind fun t583 => (some t583)) else (if a1_1 = 3 then ((shape_Nan.f a0).bind fun t584 => (some t584)) else (some 0))))
def round_Narrow.T5 : Bool × List (List Nat × List Nat) := (true, [([], []), ([], []), ([1], [1]), ([], []), ([3], [3]), ([4], [4]), ([], []), ([6], [6]), ([0, 2, 5, 7, 5], [0, 2, 5, 7]), ([8, 8, 0, 1, 2, 3, 4, 5, 6, 7, 8], [8])])
def round_Narrow.B5 : List Nat := [0, 0, 2, 0, 8, 24, 0, 64, 255, 511]
theorem round_Narrow.tab5 : rtab .any (opsOf Try.f71 5) = round_Narrow.T5 := by kernel_rfl
theorem round_Narrow.bits5 : waitsOk round_Narrow.T5.2 round_Narrow.B5 = true := by kernel_rfl
theorem round_Narrow.calls (a0 : Int) (a1_0 : Bool) (a1_1 : Int) (a1_2 : Int) (a1_3 : Int) (r : Int) (w : World) (h : round_Narrow.f a0 a1_0 a1_1 a1_2 a1_3 = some r) :
  Calls Try.prog 71 #[.int .i64 a0, .agg #[.bool a1_0, .int .i64 a1_1, .int .i64 a1_2, .int .u64 a1_3]] w fun e w' => e = .returned (.int .u64 r) ∧ Below w.heap.size w w' := by
 have hu36 := Try.underlying36
 have HB := A_ (Below.refl w.heap.size w)
 have H : (if a1_1 = 0 then ((shape_Zero.f a0 a1_0).bind fun t579 => (some t579)) else (if a1_1 = 1 then ((wide_Of.f a1_3).bind fun bt580 => ((round_Pack.f a0 a1_0 bt580.1 bt580.2 a1_2 false).bind fun t582 => (some t582))) else (if a1_1 = 2 then ((shape_Inf.f a0 a1_0).bind fun t583 => (some t583)) else (if a1_1 = 3 then ((shape_Nan.f a0).bind fun t584 => (some t584)) else (some 0))))) = some r := h
 clear h
 by_cases c3 : a1_1 = 0
 ·rw [if_pos c3] at H
  have c3b0 : (a1_1 == 0) = true := beq_iff_eq.mpr c3
  have c3b1 : (a1_1 != 0) = false := bne_eq_false_iff_eq.mpr c3
  clear c3
  replace H := ob_ H
  obtain ⟨t579, A40, H⟩ := H
  replace H : (some t579) = some r := H
  have A4 := A_ A40;clear A40
  obtain rfl := Option.some.inj H
  go_enter Try.func71, Try.ntmps71
  go_wp2_with (first | ((with_reducible refine gate_dst (N := 3) rfl ?_); refine be_ 3 #[.bool a1_0, .int .i64 a1_1, .int .i64 a1_2, .int .u64 a1_3] 36 ?_; intro gb578 hg w5 hbox hb; have BK578 := A_ (hbox); have GW578 := A_ (sz_ hg (hb_ HB.out)); have GE578 := A_ (sz_ hg (hb_ HB.out)); replace HB := A_ (below_step (hb_ HB.out) hb); clear hb hbox hg; have hcz6_0 := bv_ BK578.out 0; have hcz6_1 := bv_ BK578.out 1; have hcz6_2 := bv_ BK578.out 2; have hcz6_3 := bv_ BK578.out 3; have hfz6_0 := blk_frozen BK578.out 0; have hfz6_1 := blk_frozen BK578.out 1; have hfz6_2 := blk_frozen BK578.out 2; have hfz6_3 := blk_frozen BK578.out 3) | ((with_reducible refine gate_callee (f := 70) rfl ?_); refine gl_ (some 12) Try.func70 #[.int .i64 a0, .bool a1_0] ?_; (with_reducible refine (shape_Zero.calls a0 a1_0 t579 _ A4.out).mono ?_); rintro e w7 ⟨rfl, hb⟩; refine ⟨_, rfl, ?_⟩; replace BK578 := A_ (bb_ BK578.out hb); replace HB := A_ (below_step (hb1_ HB.out GE578.out) hb); (try clear hb); (try clear hb2); (try clear hk); (try clear hi)))
  go_ret
  exact ⟨er_, hb1_ HB.out GE578.out⟩
 ·rw [if_neg c3] at H
  have c3b0 : (a1_1 == 0) = false := beq_eq_false_iff_ne.mpr c3
  have c3b1 : (a1_1 != 0) = true := bne_iff_ne.mpr c3
  by_cases c8 : a1_1 = 1
  ·rw [if_pos c8] at H
   have c8b0 : (a1_1 == 1) = true := beq_iff_eq.mpr c8
   have c8b1 : (a1_1 != 1) = false := bne_eq_false_iff_eq.mpr c8
   clear c8
   replace H := ob_ H
   obtain ⟨⟨t580, t581⟩, A90, H⟩ := H
   replace H : ((round_Pack.f a0 a1_0 t580 t581 a1_2 false).bind fun t582 => (some t582)) = some r := H
   have A9 := A_ A90;clear A90
   replace H := ob_ H
   obtain ⟨t582, A100, H⟩ := H
   replace H : (some t582) = some r := H
   have A10 := A_ A100;clear A100
   obtain rfl := Option.some.inj H
   go_enter Try.func71, Try.ntmps71
   try go_wp2_with (first | ((with_reducible refine gate_dst (N := 3) rfl ?_); refine be_ 3 #[.bool a1_0, .int .i64 a1_1, .int .i64 a1_2, .int .u64 a1_3] 36 ?_; intro gb578 hg w11 hbox hb; have BK578 := A_ (hbox); have GW578 := A_ (sz_ hg (hb_ HB.out)); have GE578 := A_ (sz_ hg (hb_ HB.out)); replace HB := A_ (below_step (hb_ HB.out) hb); clear hb hbox hg; have hcz12_0 := bv_ BK578.out 0; have hcz12_1 := bv_ BK578.out 1; have hcz12_2 := bv_ BK578.out 2; have hcz12_3 := bv_ BK578.out 3; have hfz12_0 := blk_frozen BK578.out 0; have hfz12_1 := blk_frozen BK578.out 1; have hfz12_2 := blk_frozen BK578.out 2; have hfz12_3 := blk_frozen BK578.out 3))
   replace BK578 := A_ (blk_drew BK578.out)
   replace HB := A_ (below_drew1 HB.out)
   refine start_ (n := 10) (S := fun w' => w'.cell? ⟨gb578, 0, none⟩ = some (.bool a1_0) ∧ w'.cell? ⟨gb578, 1, none⟩ = some (.int .i64 a1_1) ∧ w'.cell? ⟨gb578, 2, none⟩ = some (.int .i64 a1_2) ∧ w'.cell? ⟨gb578, 3, none⟩ = some (.int .u64 a1_3)) (ds := []) #[false, false, false, false, false, false, false, false, false, false] (by kernel_rfl) rfl rfl ⟨bc_ BK578.out 0, bc_ BK578.out 1, bc_ BK578.out 2, bc_ BK578.out 3⟩ (fun hHeld => ?_); refine with_tabW round_Narrow.tab5 round_Narrow.bits5 (fun HT_ HW_ => ?_)
   generalize w11.drew = w13 at BK578 HB hHeld ⊢
   refine pu_ 0 (some 15) #[true, false, false, false, false, false, false, false, false, false] rfl rfl (any_of HT_.out (by kernel_rfl)) ?_
   refine pu_ 1 (some 16) #[true, true, false, false, false, false, false, false, false, false] rfl rfl (any_of HT_.out (by kernel_rfl)) ?_
   refine pu_ 3 (some 18) #[true, true, false, true, false, false, false, false, false, false] rfl rfl (any_of HT_.out (by kernel_rfl)) ?_
   refine pu_ 6 (some 21) #[true, true, false, true, false, false, true, false, false, false] rfl rfl (any_of HT_.out (by kernel_rfl)) ?_
   refine tk4_ 2 (some 17) #[true, true, true, true, false, false, true, false, false, false] rfl rfl (take_ofW HT_.out HW_.out (by kernel_rfl)) hHeld ?_
   refine tk4_ 4 (some 19) #[true, true, true, true, true, false, true, false, false, false] rfl rfl (take_ofW HT_.out HW_.out (by kernel_rfl)) hHeld ?_
   refine tk4_ 7 (some 22) #[true, true, true, true, true, false, true, true, false, false] rfl rfl (take_ofW HT_.out HW_.out (by kernel_rfl)) hHeld ?_
   refine one_ (i := 5) (N := some 20) #[true, true, true, true, true, true, true, true, false, false] rfl rfl (one_of HT_.out (by kernel_rfl)) (by decide) (fun K hK => ?_)
   refine goes_ Try.func58 (by kernel_rfl) rfl #[.int .u64 a1_3] (by rfl) rfl rfl mp_ ?_
   with_reducible refine (wide_Of.calls a1_3 t580 t581 _ A9.out).mono ?_
   rintro e w14 ⟨rfl, hb⟩
   refine ⟨_, rfl, ?_⟩
   replace BK578 := A_ (bb_ BK578.out hb)
   replace HB := A_ (below_step (hb1_ HB.out GE578.out) hb);(try clear hb);(try clear hb2);(try clear hk);(try clear hi)
   refine hK.out _ _ ⟨bc_ BK578.out 0, bc_ BK578.out 1, bc_ BK578.out 2, bc_ BK578.out 3⟩ (fun hHeld => ?_)
   clear hK K
   refine norm_ (a' := ?_) ?_ ?_
   rotate_left
   ·show Act.put _ (some 20) _ = _
    simp only [Act.put, lI_, l0_, lS_, i64_w, i32_w]
    rfl
   refine one_ (i := 8) (N := some 23) #[true, true, true, true, true, true, true, true, true, false] rfl rfl (one_of HT_.out (by kernel_rfl)) (by decide) (fun K hK => ?_)
   refine goes_ Try.func57 (by kernel_rfl) rfl #[.int .i64 a0, .bool a1_0, .agg #[.int .u64 t580, .int .u64 t581], .int .i64 a1_2, .bool false] (by rfl) rfl rfl mp_ ?_
   with_reducible refine (round_Pack.calls a0 a1_0 t580 t581 a1_2 false t582 _ A10.out).mono ?_
   rintro e w15 ⟨rfl, hb⟩
   refine ⟨_, rfl, ?_⟩
   replace BK578 := A_ (bb_ BK578.out hb)
   replace HB := A_ (below_step (hb1_ HB.out GE578.out) hb);(try clear hb);(try clear hb2);(try clear hk);(try clear hi)
   refine hK.out _ _ ⟨bc_ BK578.out 0, bc_ BK578.out 1, bc_ BK578.out 2, bc_ BK578.out 3⟩ (fun hHeld => ?_)
   clear hK K
   refine norm_ (a' := ?_) ?_ ?_
   rotate_left
   ·show Act.put _ (some 23) _ = _
    simp only [Act.put, lI_, l0_, lS_, i64_w, i32_w]
    rfl
   refine pu_ 9 (some 4) #[true, true, true, true, true, true, true, true, true, true] rfl rfl (any_of HT_.out (by kernel_rfl)) ?_
   refine done_ (done_of HT_.out (by kernel_rfl)) ?_
   try go_wp2
   go_ret
   exact ⟨er_, hb1_ HB.out GE578.out⟩
  ·rw [if_neg c8] at H
   have c8b0 : (a1_1 == 1) = false := beq_eq_false_iff_ne.mpr c8
   have c8b1 : (a1_1 != 1) = true := bne_iff_ne.mpr c8
   by_cases c16 : a1_1 = 2
   ·rw [if_pos c16] at H
    have c16b0 : (a1_1 == 2) = true := beq_iff_eq.mpr c16
    have c16b1 : (a1_1 != 2) = false := bne_eq_false_iff_eq.mpr c16
    clear c16
    replace H := ob_ H
    obtain ⟨t583, A170, H⟩ := H
    replace H : (some t583) = some r := H
    have A17 := A_ A170;clear A170
    obtain rfl := Option.some.inj H
    go_enter Try.func71, Try.ntmps71
    go_wp2_with (first | ((with_reducible refine gate_dst (N := 3) rfl ?_); refine be_ 3 #[.bool a1_0, .int .i64 a1_1, .int .i64 a1_2, .int .u64 a1_3] 36 ?_; intro gb578 hg w18 hbox hb; have BK578 := A_ (hbox); have GW578 := A_ (sz_ hg (hb_ HB.out)); have GE578 := A_ (sz_ hg (hb_ HB.out)); replace HB := A_ (below_step (hb_ HB.out) hb); clear hb hbox hg; have hcz19_0 := bv_ BK578.out 0; have hcz19_1 := bv_ BK578.out 1; have hcz19_2 := bv_ BK578.out 2; have hcz19_3 := bv_ BK578.out 3; have hfz19_0 := blk_frozen BK578.out 0; have hfz19_1 := blk_frozen BK578.out 1; have hfz19_2 := blk_frozen BK578.out 2; have hfz19_3 := blk_frozen BK578.out 3) | ((with_reducible refine gate_callee (f := 74) rfl ?_); refine gl_ (some 29) Try.func74 #[.int .i64 a0, .bool a1_0] ?_; (with_reducible refine (shape_Inf.calls a0 a1_0 t583 _ A17.out).mono ?_); rintro e w20 ⟨rfl, hb⟩; refine ⟨_, rfl, ?_⟩; replace BK578 := A_ (bb_ BK578.out hb); replace HB := A_ (below_step (hb1_ HB.out GE578.out) hb); (try clear hb); (try clear hb2); (try clear hk); (try clear hi)))
    go_ret
    exact ⟨er_, hb1_ HB.out GE578.out⟩
   ·rw [if_neg c16] at H
    have c16b0 : (a1_1 == 2) = false := beq_eq_false_iff_ne.mpr c16
    have c16b1 : (a1_1 != 2) = true := bne_iff_ne.mpr c16
    by_cases c21 : a1_1 = 3
    ·rw [if_pos c21] at H
     have c21b0 : (a1_1 == 3) = true := beq_iff_eq.mpr c21
     have c21b1 : (a1_1 != 3) = false := bne_eq_false_iff_eq.mpr c21
     clear c21
     replace H := ob_ H
     obtain ⟨t584, A220, H⟩ := H
     replace H : (some t584) = some r := H
     have A22 := A_ A220;clear A220
     obtain rfl := Option.some.inj H
     go_enter Try.func71, Try.ntmps71
     go_wp2_with (first | ((with_reducible refine gate_dst (N := 3) rfl ?_); refine be_ 3 #[.bool a1_0, .int .i64 a1_1, .int .i64 a1_2, .int .u64 a1_3] 36 ?_; intro gb578 hg w23 hbox hb; have BK578 := A_ (hbox); have GW578 := A_ (sz_ hg (hb_ HB.out)); have GE578 := A_ (sz_ hg (hb_ HB.out)); replace HB := A_ (below_step (hb_ HB.out) hb); clear hb hbox hg; have hcz24_0 := bv_ BK578.out 0; have hcz24_1 := bv_ BK578.out 1; have hcz24_2 := bv_ BK578.out 2; have hcz24_3 := bv_ BK578.out 3; have hfz24_0 := blk_frozen BK578.out 0; have hfz24_1 := blk_frozen BK578.out 1; have hfz24_2 := blk_frozen BK578.out 2; have hfz24_3 := blk_frozen BK578.out 3) | ((with_reducible refine gate_callee (f := 17) rfl ?_); refine gl_ (some 33) Try.func17 #[.int .i64 a0] ?_; (with_reducible refine (shape_Nan.calls a0 t584 _ A22.out).mono ?_); rintro e w25 ⟨rfl, hb⟩; refine ⟨_, rfl, ?_⟩; replace BK578 := A_ (bb_ BK578.out hb); replace HB := A_ (below_step (hb1_ HB.out GE578.out) hb); (try clear hb); (try clear hb2); (try clear hk); (try clear hi)))
     go_ret
     exact ⟨er_, hb1_ HB.out GE578.out⟩
    ·rw [if_neg c21] at H
     have c21b0 : (a1_1 == 3) = false := beq_eq_false_iff_ne.mpr c21
     have c21b1 : (a1_1 != 3) = true := bne_iff_ne.mpr c21
     obtain rfl := Option.some.inj H
     go_enter Try.func71, Try.ntmps71
     go_wp2_with (first | ((with_reducible refine gate_dst (N := 3) rfl ?_); refine be_ 3 #[.bool a1_0, .int .i64 a1_1, .int .i64 a1_2, .int .u64 a1_3] 36 ?_; intro gb578 hg w26 hbox hb; have BK578 := A_ (hbox); have GW578 := A_ (sz_ hg (hb_ HB.out)); have GE578 := A_ (sz_ hg (hb_ HB.out)); replace HB := A_ (below_step (hb_ HB.out) hb); clear hb hbox hg; have hcz27_0 := bv_ BK578.out 0; have hcz27_1 := bv_ BK578.out 1; have hcz27_2 := bv_ BK578.out 2; have hcz27_3 := bv_ BK578.out 3; have hfz27_0 := blk_frozen BK578.out 0; have hfz27_1 := blk_frozen BK578.out 1; have hfz27_2 := blk_frozen BK578.out 2; have hfz27_3 := blk_frozen BK578.out 3))
     go_ret
     exact ⟨er_, hb1_ HB.out GE578.out⟩
def sum_align.f (a0_0 : Bool) (a0_1 : Int) (a0_2 : Int) (a0_3 : Int) (a1_0 : Bool) (a1_1 : Int) (a1_2 : Int) (a1_3 : Int) : Option (Int × Int × Int × Int × Int × Bool) := (wide_Of.f a0_3).bind fun bt588 => ((wide_Left.f bt588.1 bt588.2 (mn (wrap64 (a0_2 - a1_2)) 64)).bind fun bt590 => ((wide_Of.f a1_3).bind fun bt593 => ((wide_Right.f bt593.1 bt593.2 (wrap64 ((wrap64 (a0_2 - a1_2)) - (mn (wrap64 (a0_2 - a1_2)) 64)))).bind fun bt595 => (some (bt590.1, bt590.2, bt595.1, bt595.2.1, wrap64 (a0_2 - (mn (wrap64 (a0_2 - a1_2)) 64)), bt595.2.2)))))
def sum_align.T3 : Bool × List (List Nat × List Nat) := (true, [([], []), ([0], [0]), ([1], [1]), ([], []), ([2, 3, 2], [2, 3]), ([], []), ([5], [5]), ([], []), ([6, 7], [6, 7]), ([4, 8], [4, 8]), ([], []), ([10, 9, 4, 0, 1, 2, 3, 4, 5, 6, 7, 8, 9, 10], [9, 10])])
def sum_align.B3 : List Nat := [0, 1, 3, 0, 15, 0, 32, 0, 224, 511, 0, 2047]
theorem sum_align.tab3 : rtab .any (opsOf Try.f86 3) = sum_align.T3 := by kernel_rfl
theorem sum_align.bits3 : waitsOk sum_align.T3.2 sum_align.B3 = true := by kernel_rfl
theorem sum_align.calls (a0_0 : Bool) (a0_1 : Int) (a0_2 : Int) (a0_3 : Int) (a1_0 : Bool) (a1_1 : Int) (a1_2 : Int) (a1_3 : Int) (r1 : Int) (r2 : Int) (r3 : Int) (r4 : Int) (r5 : Int) (r6 : Bool) (w : World) (h : sum_align.f a0_0 a0_1 a0_2 a0_3 a1_0 a1_1 a1_2 a1_3 = some (r1, r2, r3, r4, r5, r6)) :
  Calls Try.prog 86 #[.agg #[.bool a0_0, .int .i64 a0_1, .int .i64 a0_2, .int .u64 a0_3], .agg #[.bool a1_0, .int .i64 a1_1, .int .i64 a1_2, .int .u64 a1_3]] w fun e w' => e = .returned (.agg #[.int .u64 r1, .int .u64 r2, .int .u64 r3, .int .u64 r4, .int .i64 r5, .bool r6]) ∧ Below w.heap.size w w' := by
 have hu36 := Try.underlying36
 have hu103 := Try.underlying103
 have hu75 := Try.underlying75
 have HB := A_ (Below.refl w.heap.size w)
 have H : ((wide_Of.f a0_3).bind fun bt588 => ((wide_Left.f bt588.1 bt588.2 (mn (wrap64 (a0_2 - a1_2)) 64)).bind fun bt590 => ((wide_Of.f a1_3).bind fun bt593 => ((wide_Right.f bt593.1 bt593.2 (wrap64 ((wrap64 (a0_2 - a1_2)) - (mn (wrap64 (a0_2 - a1_2)) 64)))).bind fun bt595 => (some (bt590.1, bt590.2, bt595.1, bt595.2.1, wrap64 (a0_2 - (mn (wrap64 (a0_2 - a1_2)) 64)), bt595.2.2)))))) = some (r1, r2, r3, r4, r5, r6) := h
 clear h
 obtain ⟨ji3, hji3⟩ : ∃ j_ : Int, (mn (wrap64 (a0_2 - a1_2)) 64) = j_ := ⟨_, rfl⟩
 replace H : ((wide_Of.f a0_3).bind fun bt588 => ((wide_Left.f bt588.1 bt588.2 (ji3)).bind fun bt590 => ((wide_Of.f a1_3).bind fun bt593 => ((wide_Right.f bt593.1 bt593.2 (wrap64 ((wrap64 (a0_2 - a1_2)) - (ji3)))).bind fun bt595 => (some (bt590.1, bt590.2, bt595.1, bt595.2.1, wrap64 (a0_2 - (ji3)), bt595.2.2)))))) = some (r1, r2, r3, r4, r5, r6) := by first | (rw [hji3] at H; exact H) | (simp only [hji3] at H ⊢; exact H)
 (try (have hji3h : ji3 ≤ 64 := by (rw [← hji3]; unfold mn; (repeat' split) <;> omega)))
 (try (have hji3g : ji3 ≤ 64 := by omega))
 have hji3_ : (if 64 < (wrap64 (a0_2 - a1_2)) then 64 else (wrap64 (a0_2 - a1_2))) = ji3 := hji3
 replace H := ob_ H
 obtain ⟨⟨t588, t589⟩, A40, H⟩ := H
 replace H : ((wide_Left.f t588 t589 (ji3)).bind fun bt590 => ((wide_Of.f a1_3).bind fun bt593 => ((wide_Right.f bt593.1 bt593.2 (wrap64 ((wrap64 (a0_2 - a1_2)) - (ji3)))).bind fun bt595 => (some (bt590.1, bt590.2, bt595.1, bt595.2.1, wrap64 (a0_2 - (ji3)), bt595.2.2))))) = some (r1, r2, r3, r4, r5, r6) := H
 have A4 := A_ A40;clear A40
 replace H := ob_ H
 obtain ⟨⟨t590, t591⟩, A50, H⟩ := H
 replace H : ((wide_Of.f a1_3).bind fun bt593 => ((wide_Right.f bt593.1 bt593.2 (wrap64 ((wrap64 (a0_2 - a1_2)) - (ji3)))).bind fun bt595 => (some (t590, t591, bt595.1, bt595.2.1, wrap64 (a0_2 - (ji3)), bt595.2.2)))) = some (r1, r2, r3, r4, r5, r6) := H
 have A5 := A_ A50;clear A50
 replace H := ob_ H
 obtain ⟨⟨t593, t594⟩, A60, H⟩ := H
 replace H : ((wide_Right.f t593 t594 (wrap64 ((wrap64 (a0_2 - a1_2)) - (ji3)))).bind fun bt595 => (some (t590, t591, bt595.1, bt595.2.1, wrap64 (a0_2 - (ji3)), bt595.2.2))) = some (r1, r2, r3, r4, r5, r6) := H
 have A6 := A_ A60;clear A60
 replace H := ob_ H
 obtain ⟨⟨t595, t596, t597⟩, A70, H⟩ := H
 replace H : (some (t590, t591, t595, t596, wrap64 (a0_2 - (ji3)), t597)) = some (r1, r2, r3, r4, r5, r6) := H
 have A7 := A_ A70;clear A70
 simp only [Option.some.injEq, Prod.mk.injEq] at H
 obtain ⟨rfl, rfl, rfl, rfl, rfl, rfl⟩ := H
 go_enter Try.func86, Try.ntmps86
 try go_wp2_with (first | ((with_reducible refine gate_dst (N := 2) rfl ?_); refine be_ 2 #[.bool a0_0, .int .i64 a0_1, .int .i64 a0_2, .int .u64 a0_3] 36 ?_; intro gb585 hg w8 hbox hb; have BK585 := A_ (hbox); have GW585 := A_ (sz_ hg (hb_ HB.out)); have GE585 := A_ (sz_ hg (hb_ HB.out)); replace HB := A_ (below_step (hb_ HB.out) hb); clear hb hbox hg) | ((with_reducible refine gate_dst (N := 3) rfl ?_); refine be_ 3 #[.bool a1_0, .int .i64 a1_1, .int .i64 a1_2, .int .u64 a1_3] 36 ?_; intro gb586 hg w9 hbox hb; have BK586 := A_ (hbox); have GW586 := A_ (sz_ hg (hb1_ HB.out GE585.out)); have GE586 := A_ (sz_ hg (hb1_ HB.out GE585.out)); have NB585_586 := A_ (nl_ hg BK585.out); have NB586_585 := A_ (ng_ hg BK585.out); replace BK585 := A_ (bb_ BK585.out hb); replace HB := A_ (below_step (hb1_ HB.out GE585.out) hb); clear hb hbox hg) | ((with_reducible refine gate_dst (N := 4) rfl ?_); refine be_ 4 #[.int .u64 0, .int .u64 0, .int .u64 0, .int .u64 0, .int .i64 0, .bool false] 103 ?_; intro gb587 hg w10 hbox hb; have BK587 := A_ (hbox); have GW587 := A_ (sz_ hg (hb2_ HB.out GE585.out GE586.out)); have GE587 := A_ (sz_ hg (hb2_ HB.out GE585.out GE586.out)); have NB585_587 := A_ (nl_ hg BK585.out); have NB587_585 := A_ (ng_ hg BK585.out); have NB586_587 := A_ (nl_ hg BK586.out); have NB587_586 := A_ (ng_ hg BK586.out); replace BK585 := A_ (bb_ BK585.out hb); replace BK586 := A_ (bb_ BK586.out hb); replace HB := A_ (below_step (hb2_ HB.out GE585.out GE586.out) hb); clear hb hbox hg; have hnb11 := NB585_586.out; have hnc11 := NB586_585.out; have hnb12 := NB585_587.out; have hnc12 := NB587_585.out; have hcz13_0 := bv_ BK585.out 0; have hcz13_1 := bv_ BK585.out 1; have hcz13_2 := bv_ BK585.out 2; have hcz13_3 := bv_ BK585.out 3; have hfz13_0 := blk_frozen BK585.out 0; have hfz13_1 := blk_frozen BK585.out 1; have hfz13_2 := blk_frozen BK585.out 2; have hfz13_3 := blk_frozen BK585.out 3; have hnb14 := NB586_587.out; have hnc14 := NB587_586.out; have hcz15_0 := bv_ BK586.out 0; have hcz15_1 := bv_ BK586.out 1; have hcz15_2 := bv_ BK586.out 2; have hcz15_3 := bv_ BK586.out 3; have hfz15_0 := blk_frozen BK586.out 0; have hfz15_1 := blk_frozen BK586.out 1; have hfz15_2 := blk_frozen BK586.out 2; have hfz15_3 := blk_frozen BK586.out 3))
 replace BK585 := A_ (blk_drew BK585.out)
 replace BK586 := A_ (blk_drew BK586.out)
 replace BK587 := A_ (blk_drew BK587.out)
 replace HB := A_ (below_drew1 HB.out)
 refine start_ (n := 12) (S := fun w' => w'.cell? ⟨gb585, 0, none⟩ = some (.bool a0_0) ∧ w'.cell? ⟨gb585, 1, none⟩ = some (.int .i64 a0_1) ∧ w'.cell? ⟨gb585, 2, none⟩ = some (.int .i64 a0_2) ∧ w'.cell? ⟨gb585, 3, none⟩ = some (.int .u64 a0_3)) (ds := []) #[false, false, false, false, false, false, false, false, false, false, false, false] (by kernel_rfl) rfl rfl ⟨bc_ BK585.out 0, bc_ BK585.out 1, bc_ BK585.out 2, bc_ BK585.out 3⟩ (fun hHeld => ?_); refine with_tabW sum_align.tab3 sum_align.bits3 (fun HT_ HW_ => ?_)
 generalize w10.drew = w16 at BK585 BK586 BK587 HB hHeld ⊢
 refine pu_ 0 (some 15) #[true, false, false, false, false, false, false, false, false, false, false, false] rfl rfl (any_of HT_.out (by kernel_rfl)) ?_
 refine pu_ 3 (some 18) #[true, false, false, true, false, false, false, false, false, false, false, false] rfl rfl (any_of HT_.out (by kernel_rfl)) ?_
 refine pu_ 5 (some 20) #[true, false, false, true, false, true, false, false, false, false, false, false] rfl rfl (any_of HT_.out (by kernel_rfl)) ?_
 refine pu_ 7 (some 22) #[true, false, false, true, false, true, false, true, false, false, false, false] rfl rfl (any_of HT_.out (by kernel_rfl)) ?_
 refine tk4_ 1 (some 16) #[true, true, false, true, false, true, false, true, false, false, false, false] rfl rfl (take_ofW HT_.out HW_.out (by kernel_rfl)) hHeld ?_
 refine tk4_ 6 (some 21) #[true, true, false, true, false, true, true, true, false, false, false, false] rfl rfl (take_ofW HT_.out HW_.out (by kernel_rfl)) hHeld ?_
 refine pu_ 8 (some 23) #[true, true, false, true, false, true, true, true, true, false, false, false] rfl rfl (any_of HT_.out (by kernel_rfl)) ?_
 refine join_ (σ := Nat) 1 #[true, true, true, true, true, true, true, true, true, true, true, false] (fun s_ => [(17, .agg #[.int .u64 t588, .int .u64 t589]), (19, .agg #[.int .u64 t590, .int .u64 t591]), (7, .pointer (some ⟨s_, 0, none⟩)), (24, .agg #[.int .u64 t590, .int .u64 t591, .int .u64 0, .int .u64 0, .int .i64 (wrap64 (a0_2 - (ji3))), .bool false])]) (fun s_ w' => (w'.cell? ⟨gb585, 0, none⟩ = some (.bool a0_0) ∧ w'.cell? ⟨gb585, 1, none⟩ = some (.int .i64 a0_1) ∧ w'.cell? ⟨gb585, 2, none⟩ = some (.int .i64 a0_2) ∧ w'.cell? ⟨gb585, 3, none⟩ = some (.int .u64 a0_3)) ∧ (w'.heap[gb585]? = some (.cells #[.bool a0_0, .int .i64 a0_1, .int .i64 a0_2, .int .u64 a0_3] 36 (0, 0))) ∧ (w'.heap[gb586]? = some (.cells #[.bool a1_0, .int .i64 a1_1, .int .i64 a1_2, .int .u64 a1_3] 36 (0, 0))) ∧ (w'.heap[gb587]? = some (.cells #[.int .u64 0, .int .u64 0, .int .u64 0, .int .u64 0, .int .i64 0, .bool false] 103 (0, 0))) ∧ (w'.heap[s_]? = some (.cells #[.int .u64 0, .int .u64 0, .int .u64 0, .int .u64 0, .int .i64 0, .bool false] 103 (0, 0))) ∧ (w.heap.size ≤ s_) ∧ (w.heap.size ≤ s_) ∧ (gb585 ≠ s_) ∧ (s_ ≠ gb585) ∧ (gb586 ≠ s_) ∧ (s_ ≠ gb586) ∧ (gb587 ≠ s_) ∧ (s_ ≠ gb587) ∧ (Below w.heap.size w w')) ?_ ?_
 rotate_left
 ·intro hCont
  refine two_ (i := 2) (j := 10) (Ni := some 17) (Nj := some 7) #[true, true, true, true, false, true, true, true, true, false, false, false] #[true, true, false, true, false, true, true, true, true, false, true, false] rfl rfl rfl rfl (two_of HT_.out (by kernel_rfl)) (by decide) (by decide) (fun K hK => ?_) (fun K hK => ?_)
  ·skip
   refine goes_ Try.func58 (by kernel_rfl) rfl #[.int .u64 a0_3] (by rfl) rfl rfl mp_ ?_
   with_reducible refine (wide_Of.calls a0_3 t588 t589 _ A4.out).mono ?_
   rintro e w17 ⟨rfl, hb⟩
   refine ⟨_, rfl, ?_⟩
   replace BK585 := A_ (bb_ BK585.out hb)
   replace BK586 := A_ (bb_ BK586.out hb)
   replace BK587 := A_ (bb_ BK587.out hb)
   replace HB := A_ (below_step (hb3_ HB.out GE585.out GE586.out GE587.out) hb);(try clear hb);(try clear hb2);(try clear hk);(try clear hi)
   refine hK.out _ _ ⟨bc_ BK585.out 0, bc_ BK585.out 1, bc_ BK585.out 2, bc_ BK585.out 3⟩ (fun hHeld => ?_)
   clear hK K
   refine norm_ (a' := ?_) ?_ ?_
   rotate_left
   ·show Act.put _ (some 17) _ = _
    simp only [Act.put, lI_, l0_, lS_, i64_w, i32_w]
    rfl
   refine two_ (i := 4) (j := 10) (Ni := some 19) (Nj := some 7) #[true, true, true, true, true, true, true, true, true, false, false, false] #[true, true, true, true, false, true, true, true, true, false, true, false] rfl rfl rfl rfl (two_of HT_.out (by kernel_rfl)) (by decide) (by decide) (fun K hK => ?_) (fun K hK => ?_)
   ·skip
    refine goes_ Try.func77 (by kernel_rfl) rfl #[.agg #[.int .u64 t588, .int .u64 t589], .int .i64 ji3] (by rfl) rfl rfl (by (try simp only [List.map_toArray, List.map_cons, List.map_nil]); first | done | (simp only [hji3]; rfl) | rfl | (simp only [List.length_drop, List.length_take]; rfl)) ?_
    with_reducible refine (wide_Left.calls t588 t589 ji3 t590 t591 _ A5.out).mono ?_
    rintro e w18 ⟨rfl, hb⟩
    refine ⟨_, rfl, ?_⟩
    replace BK585 := A_ (bb_ BK585.out hb)
    replace BK586 := A_ (bb_ BK586.out hb)
    replace BK587 := A_ (bb_ BK587.out hb)
    replace HB := A_ (below_step (hb3_ HB.out GE585.out GE586.out GE587.out) hb);(try clear hb);(try clear hb2);(try clear hk);(try clear hi)
    refine hK.out _ _ ⟨bc_ BK585.out 0, bc_ BK585.out 1, bc_ BK585.out 2, bc_ BK585.out 3⟩ (fun hHeld => ?_)
    clear hK K
    refine norm_ (a' := ?_) ?_ ?_
    rotate_left
    ·show Act.put _ (some 19) _ = _
     simp only [Act.put, lI_, l0_, lS_, i64_w, i32_w]
     rfl
    refine pu_ 9 (some 24) #[true, true, true, true, true, true, true, true, true, true, false, false] rfl rfl (any_of HT_.out (by kernel_rfl)) ?_
    refine one_ (i := 10) (N := some 7) #[true, true, true, true, true, true, true, true, true, true, true, false] rfl rfl (one_of HT_.out (by kernel_rfl)) (by decide) (fun K hK => ?_)
    refine box_step ?hg (N := 7) ?hd (cs := #[.int .u64 0, .int .u64 0, .int .u64 0, .int .u64 0, .int .i64 0, .bool false]) (t := 103) ?hr ?_; (case hd => rfl); (case hg => rfl); (case hr => first | (go_simp; done) | (go_simp; rfl))
    intro gb592 hg w19 hbox hb
    have BK592 := A_ (hbox)
    have GW592 := A_ (sz_ hg (hb3_ HB.out GE585.out GE586.out GE587.out))
    have GE592 := A_ (sz_ hg (hb3_ HB.out GE585.out GE586.out GE587.out))
    have NB585_592 := A_ (nl_ hg BK585.out)
    have NB592_585 := A_ (ng_ hg BK585.out)
    have NB586_592 := A_ (nl_ hg BK586.out)
    have NB592_586 := A_ (ng_ hg BK586.out)
    have NB587_592 := A_ (nl_ hg BK587.out)
    have NB592_587 := A_ (ng_ hg BK587.out)
    replace BK585 := A_ (bb_ BK585.out hb)
    replace BK586 := A_ (bb_ BK586.out hb)
    replace BK587 := A_ (bb_ BK587.out hb)
    replace HB := A_ (below_step (hb3_ HB.out GE585.out GE586.out GE587.out) hb);clear hb hbox hg
    refine hK.out _ _ ⟨bc_ BK585.out 0, bc_ BK585.out 1, bc_ BK585.out 2, bc_ BK585.out 3⟩ (fun hHeld => ?_)
    clear hK K
    refine norm_ (a' := ?_) ?_ ?_
    rotate_left
    ·show Act.put _ (some 7) _ = _
     simp only [Act.put, lI_, l0_, lS_, i64_w, i32_w]
     rfl
    exact norm_ (by simp only [putAll, Act.put, lI_, l0_, lS_]) (hCont (gb592) _ ⟨hHeld, (bk_ BK585.out), (bk_ BK586.out), (bk_ BK587.out), (bk_ BK592.out), GW592.out, GE592.out, NB585_592.out, NB592_585.out, NB586_592.out, NB592_586.out, NB587_592.out, NB592_587.out, (hb4_ HB.out GE585.out GE586.out GE587.out GE592.out)⟩)
   ·skip
    refine box_step ?hg (N := 7) ?hd (cs := #[.int .u64 0, .int .u64 0, .int .u64 0, .int .u64 0, .int .i64 0, .bool false]) (t := 103) ?hr ?_; (case hd => rfl); (case hg => rfl); (case hr => first | (go_simp; done) | (go_simp; rfl))
    intro gb592 hg w18 hbox hb
    have BK592 := A_ (hbox)
    have GW592 := A_ (sz_ hg (hb3_ HB.out GE585.out GE586.out GE587.out))
    have GE592 := A_ (sz_ hg (hb3_ HB.out GE585.out GE586.out GE587.out))
    have NB585_592 := A_ (nl_ hg BK585.out)
    have NB592_585 := A_ (ng_ hg BK585.out)
    have NB586_592 := A_ (nl_ hg BK586.out)
    have NB592_586 := A_ (ng_ hg BK586.out)
    have NB587_592 := A_ (nl_ hg BK587.out)
    have NB592_587 := A_ (ng_ hg BK587.out)
    replace BK585 := A_ (bb_ BK585.out hb)
    replace BK586 := A_ (bb_ BK586.out hb)
    replace BK587 := A_ (bb_ BK587.out hb)
    replace HB := A_ (below_step (hb3_ HB.out GE585.out GE586.out GE587.out) hb);clear hb hbox hg
    refine hK.out _ _ ⟨bc_ BK585.out 0, bc_ BK585.out 1, bc_ BK585.out 2, bc_ BK585.out 3⟩ (fun hHeld => ?_)
    clear hK K
    refine norm_ (a' := ?_) ?_ ?_
    rotate_left
    ·show Act.put _ (some 7) _ = _
     simp only [Act.put, lI_, l0_, lS_, i64_w, i32_w]
     rfl
    refine one_ (i := 4) (N := some 19) #[true, true, true, true, true, true, true, true, true, false, true, false] rfl rfl (one_of HT_.out (by kernel_rfl)) (by decide) (fun K hK => ?_)
    refine goes_ Try.func77 (by kernel_rfl) rfl #[.agg #[.int .u64 t588, .int .u64 t589], .int .i64 ji3] (by rfl) rfl rfl (by (try simp only [List.map_toArray, List.map_cons, List.map_nil]); first | done | (simp only [hji3]; rfl) | rfl | (simp only [List.length_drop, List.length_take]; rfl)) ?_
    with_reducible refine (wide_Left.calls t588 t589 ji3 t590 t591 _ A5.out).mono ?_
    rintro e w19 ⟨rfl, hb⟩
    refine ⟨_, rfl, ?_⟩
    replace BK585 := A_ (bb_ BK585.out hb)
    replace BK586 := A_ (bb_ BK586.out hb)
    replace BK587 := A_ (bb_ BK587.out hb)
    replace BK592 := A_ (bb_ BK592.out hb)
    replace HB := A_ (below_step (hb4_ HB.out GE585.out GE586.out GE587.out GE592.out) hb);(try clear hb);(try clear hb2);(try clear hk);(try clear hi)
    refine hK.out _ _ ⟨bc_ BK585.out 0, bc_ BK585.out 1, bc_ BK585.out 2, bc_ BK585.out 3⟩ (fun hHeld => ?_)
    clear hK K
    refine norm_ (a' := ?_) ?_ ?_
    rotate_left
    ·show Act.put _ (some 19) _ = _
     simp only [Act.put, lI_, l0_, lS_, i64_w, i32_w]
     rfl
    refine pu_ 9 (some 24) #[true, true, true, true, true, true, true, true, true, true, true, false] rfl rfl (any_of HT_.out (by kernel_rfl)) ?_
    exact norm_ (by simp only [putAll, Act.put, lI_, l0_, lS_]) (hCont (gb592) _ ⟨hHeld, (bk_ BK585.out), (bk_ BK586.out), (bk_ BK587.out), (bk_ BK592.out), GW592.out, GE592.out, NB585_592.out, NB592_585.out, NB586_592.out, NB592_586.out, NB587_592.out, NB592_587.out, (hb4_ HB.out GE585.out GE586.out GE587.out GE592.out)⟩)
  ·skip
   refine box_step ?hg (N := 7) ?hd (cs := #[.int .u64 0, .int .u64 0, .int .u64 0, .int .u64 0, .int .i64 0, .bool false]) (t := 103) ?hr ?_; (case hd => rfl); (case hg => rfl); (case hr => first | (go_simp; done) | (go_simp; rfl))
   intro gb592 hg w17 hbox hb
   have BK592 := A_ (hbox)
   have GW592 := A_ (sz_ hg (hb3_ HB.out GE585.out GE586.out GE587.out))
   have GE592 := A_ (sz_ hg (hb3_ HB.out GE585.out GE586.out GE587.out))
   have NB585_592 := A_ (nl_ hg BK585.out)
   have NB592_585 := A_ (ng_ hg BK585.out)
   have NB586_592 := A_ (nl_ hg BK586.out)
   have NB592_586 := A_ (ng_ hg BK586.out)
   have NB587_592 := A_ (nl_ hg BK587.out)
   have NB592_587 := A_ (ng_ hg BK587.out)
   replace BK585 := A_ (bb_ BK585.out hb)
   replace BK586 := A_ (bb_ BK586.out hb)
   replace BK587 := A_ (bb_ BK587.out hb)
   replace HB := A_ (below_step (hb3_ HB.out GE585.out GE586.out GE587.out) hb);clear hb hbox hg
   refine hK.out _ _ ⟨bc_ BK585.out 0, bc_ BK585.out 1, bc_ BK585.out 2, bc_ BK585.out 3⟩ (fun hHeld => ?_)
   clear hK K
   refine norm_ (a' := ?_) ?_ ?_
   rotate_left
   ·show Act.put _ (some 7) _ = _
    simp only [Act.put, lI_, l0_, lS_, i64_w, i32_w]
    rfl
   refine one_ (i := 2) (N := some 17) #[true, true, true, true, false, true, true, true, true, false, true, false] rfl rfl (one_of HT_.out (by kernel_rfl)) (by decide) (fun K hK => ?_)
   refine goes_ Try.func58 (by kernel_rfl) rfl #[.int .u64 a0_3] (by rfl) rfl rfl mp_ ?_
   with_reducible refine (wide_Of.calls a0_3 t588 t589 _ A4.out).mono ?_
   rintro e w18 ⟨rfl, hb⟩
   refine ⟨_, rfl, ?_⟩
   replace BK585 := A_ (bb_ BK585.out hb)
   replace BK586 := A_ (bb_ BK586.out hb)
   replace BK587 := A_ (bb_ BK587.out hb)
   replace BK592 := A_ (bb_ BK592.out hb)
   replace HB := A_ (below_step (hb4_ HB.out GE585.out GE586.out GE587.out GE592.out) hb);(try clear hb);(try clear hb2);(try clear hk);(try clear hi)
   refine hK.out _ _ ⟨bc_ BK585.out 0, bc_ BK585.out 1, bc_ BK585.out 2, bc_ BK585.out 3⟩ (fun hHeld => ?_)
   clear hK K
   refine norm_ (a' := ?_) ?_ ?_
   rotate_left
   ·show Act.put _ (some 17) _ = _
    simp only [Act.put, lI_, l0_, lS_, i64_w, i32_w]
    rfl
   refine one_ (i := 4) (N := some 19) #[true, true, true, true, true, true, true, true, true, false, true, false] rfl rfl (one_of HT_.out (by kernel_rfl)) (by decide) (fun K hK => ?_)
   refine goes_ Try.func77 (by kernel_rfl) rfl #[.agg #[.int .u64 t588, .int .u64 t589], .int .i64 ji3] (by rfl) rfl rfl (by (try simp only [List.map_toArray, List.map_cons, List.map_nil]); first | done | (simp only [hji3]; rfl) | rfl | (simp only [List.length_drop, List.length_take]; rfl)) ?_
   with_reducible refine (wide_Left.calls t588 t589 ji3 t590 t591 _ A5.out).mono ?_
   rintro e w19 ⟨rfl, hb⟩
   refine ⟨_, rfl, ?_⟩
   replace BK585 := A_ (bb_ BK585.out hb)
   replace BK586 := A_ (bb_ BK586.out hb)
   replace BK587 := A_ (bb_ BK587.out hb)
   replace BK592 := A_ (bb_ BK592.out hb)
   replace HB := A_ (below_step (hb4_ HB.out GE585.out GE586.out GE587.out GE592.out) hb);(try clear hb);(try clear hb2);(try clear hk);(try clear hi)
   refine hK.out _ _ ⟨bc_ BK585.out 0, bc_ BK585.out 1, bc_ BK585.out 2, bc_ BK585.out 3⟩ (fun hHeld => ?_)
   clear hK K
   refine norm_ (a' := ?_) ?_ ?_
   rotate_left
   ·show Act.put _ (some 19) _ = _
    simp only [Act.put, lI_, l0_, lS_, i64_w, i32_w]
    rfl
   refine pu_ 9 (some 24) #[true, true, true, true, true, true, true, true, true, true, true, false] rfl rfl (any_of HT_.out (by kernel_rfl)) ?_
   exact norm_ (by simp only [putAll, Act.put, lI_, l0_, lS_]) (hCont (gb592) _ ⟨hHeld, (bk_ BK585.out), (bk_ BK586.out), (bk_ BK587.out), (bk_ BK592.out), GW592.out, GE592.out, NB585_592.out, NB592_585.out, NB586_592.out, NB592_586.out, NB587_592.out, NB592_587.out, (hb4_ HB.out GE585.out GE586.out GE587.out GE592.out)⟩)
 rintro gb592 w20 ⟨hS_, h0_, h1_, h2_, h3_, h4_, h5_, h6_, h7_, h8_, h9_, h10_, h11_, h12_⟩
 have n0_ : Aside0 (w20.heap[gb585]? = some (.cells #[.bool a0_0, .int .i64 a0_1, .int .i64 a0_2, .int .u64 a0_3] 36 (0, 0))) := ⟨h0_⟩
 have n1_ : Aside0 (w20.heap[gb586]? = some (.cells #[.bool a1_0, .int .i64 a1_1, .int .i64 a1_2, .int .u64 a1_3] 36 (0, 0))) := ⟨h1_⟩
 have n2_ : Aside0 (w20.heap[gb587]? = some (.cells #[.int .u64 0, .int .u64 0, .int .u64 0, .int .u64 0, .int .i64 0, .bool false] 103 (0, 0))) := ⟨h2_⟩
 have n3_ : Aside0 (w20.heap[gb592]? = some (.cells #[.int .u64 0, .int .u64 0, .int .u64 0, .int .u64 0, .int .i64 0, .bool false] 103 (0, 0))) := ⟨h3_⟩
 have n4_ : Aside0 (w.heap.size ≤ gb592) := ⟨h4_⟩
 have n5_ : Aside0 (w.heap.size ≤ gb592) := ⟨h5_⟩
 have n6_ : Aside0 (gb585 ≠ gb592) := ⟨h6_⟩
 have n7_ : Aside0 (gb592 ≠ gb585) := ⟨h7_⟩
 have n8_ : Aside0 (gb586 ≠ gb592) := ⟨h8_⟩
 have n9_ : Aside0 (gb592 ≠ gb586) := ⟨h9_⟩
 have n10_ : Aside0 (gb587 ≠ gb592) := ⟨h10_⟩
 have n11_ : Aside0 (gb592 ≠ gb587) := ⟨h11_⟩
 have n12_ : Aside0 (Below w.heap.size w w20) := ⟨h12_⟩
 clear BK585;clear BK586;clear BK587;clear HB;clear h0_ h1_ h2_ h3_ h4_ h5_ h6_ h7_ h8_ h9_ h10_ h11_ h12_;have BK585 := n0_;have BK586 := n1_;have BK587 := n2_;have BK592 := n3_;have GW592 := n4_;have GE592 := n5_;have NB585_592 := n6_;have NB592_585 := n7_;have NB586_592 := n8_;have NB592_586 := n9_;have NB587_592 := n10_;have NB592_587 := n11_;have HB := n12_;clear n0_ n1_ n2_ n3_ n4_ n5_ n6_ n7_ n8_ n9_ n10_ n11_ n12_
 have hHeld : w20.cell? ⟨gb585, 0, none⟩ = some (.bool a0_0) ∧ w20.cell? ⟨gb585, 1, none⟩ = some (.int .i64 a0_1) ∧ w20.cell? ⟨gb585, 2, none⟩ = some (.int .i64 a0_2) ∧ w20.cell? ⟨gb585, 3, none⟩ = some (.int .u64 a0_3) := hS_
 refine norm_ (a' := ?_) ?_ ?_
 rotate_left
 ·simp only [putAll, Act.put, lI_, l0_, lS_]
  rfl
 refine one_ (i := 11) (N := none) #[true, true, true, true, true, true, true, true, true, true, true, true] rfl rfl (one_of HT_.out (by kernel_rfl)) (by decide) (fun K hK => ?_)
 have hs21 : w20.cell? ⟨gb592, 0, none⟩ = some (.int .u64 0) := bc_ BK592.out 0
 have hfs21 := blk_frozen BK592.out 0
 have hns21_0 := NB585_592.out
 have hns21_1 := NB586_592.out
 have hns21_2 := NB587_592.out
 have hms21_0 := NB592_585.out
 have hms21_1 := NB592_586.out
 have hms21_2 := NB592_587.out
 have hs22 : w20.cell? ⟨gb592, 1, none⟩ = some (.int .u64 0) := bc_ BK592.out 1
 have hfs22 := blk_frozen BK592.out 1
 have hns22_0 := NB585_592.out
 have hns22_1 := NB586_592.out
 have hns22_2 := NB587_592.out
 have hms22_0 := NB592_585.out
 have hms22_1 := NB592_586.out
 have hms22_2 := NB592_587.out
 have hs23 : w20.cell? ⟨gb592, 2, none⟩ = some (.int .u64 0) := bc_ BK592.out 2
 have hfs23 := blk_frozen BK592.out 2
 have hns23_0 := NB585_592.out
 have hns23_1 := NB586_592.out
 have hns23_2 := NB587_592.out
 have hms23_0 := NB592_585.out
 have hms23_1 := NB592_586.out
 have hms23_2 := NB592_587.out
 have hs24 : w20.cell? ⟨gb592, 3, none⟩ = some (.int .u64 0) := bc_ BK592.out 3
 have hfs24 := blk_frozen BK592.out 3
 have hns24_0 := NB585_592.out
 have hns24_1 := NB586_592.out
 have hns24_2 := NB587_592.out
 have hms24_0 := NB592_585.out
 have hms24_1 := NB592_586.out
 have hms24_2 := NB592_587.out
 have hs25 : w20.cell? ⟨gb592, 4, none⟩ = some (.int .i64 0) := bc_ BK592.out 4
 have hfs25 := blk_frozen BK592.out 4
 have hns25_0 := NB585_592.out
 have hns25_1 := NB586_592.out
 have hns25_2 := NB587_592.out
 have hms25_0 := NB592_585.out
 have hms25_1 := NB592_586.out
 have hms25_2 := NB592_587.out
 have hs26 : w20.cell? ⟨gb592, 5, none⟩ = some (.bool false) := bc_ BK592.out 5
 have hfs26 := blk_frozen BK592.out 5
 have hns26_0 := NB585_592.out
 have hns26_1 := NB586_592.out
 have hns26_2 := NB587_592.out
 have hms26_0 := NB592_585.out
 have hms26_1 := NB592_586.out
 have hms26_2 := NB592_587.out
 refine skip_ (w1 := ?_) (by rfl) rfl ?_ ?_
 rotate_left
 ·go_simp
  rfl
 refine hK.out _ _ ⟨((cell_far (p := ⟨gb592, _, none⟩) NB585_592.out _).trans (((cell_far (p := ⟨gb592, _, none⟩) NB585_592.out _).trans (((cell_far (p := ⟨gb592, _, none⟩) NB585_592.out _).trans (((cell_far (p := ⟨gb592, _, none⟩) NB585_592.out _).trans (((cell_far (p := ⟨gb592, _, none⟩) NB585_592.out _).trans (((cell_far (p := ⟨gb592, _, none⟩) NB585_592.out _).trans (hHeld.1)))))))))))), ((cell_far (p := ⟨gb592, _, none⟩) NB585_592.out _).trans (((cell_far (p := ⟨gb592, _, none⟩) NB585_592.out _).trans (((cell_far (p := ⟨gb592, _, none⟩) NB585_592.out _).trans (((cell_far (p := ⟨gb592, _, none⟩) NB585_592.out _).trans (((cell_far (p := ⟨gb592, _, none⟩) NB585_592.out _).trans (((cell_far (p := ⟨gb592, _, none⟩) NB585_592.out _).trans (hHeld.2.1)))))))))))), ((cell_far (p := ⟨gb592, _, none⟩) NB585_592.out _).trans (((cell_far (p := ⟨gb592, _, none⟩) NB585_592.out _).trans (((cell_far (p := ⟨gb592, _, none⟩) NB585_592.out _).trans (((cell_far (p := ⟨gb592, _, none⟩) NB585_592.out _).trans (((cell_far (p := ⟨gb592, _, none⟩) NB585_592.out _).trans (((cell_far (p := ⟨gb592, _, none⟩) NB585_592.out _).trans (hHeld.2.2.1)))))))))))), ((cell_far (p := ⟨gb592, _, none⟩) NB585_592.out _).trans (((cell_far (p := ⟨gb592, _, none⟩) NB585_592.out _).trans (((cell_far (p := ⟨gb592, _, none⟩) NB585_592.out _).trans (((cell_far (p := ⟨gb592, _, none⟩) NB585_592.out _).trans (((cell_far (p := ⟨gb592, _, none⟩) NB585_592.out _).trans (((cell_far (p := ⟨gb592, _, none⟩) NB585_592.out _).trans (hHeld.2.2.2))))))))))))⟩ (fun hHeld => ?_)
 clear hK K
 refine done_ (done_of HT_.out (by kernel_rfl)) ?_
 have hnb27 := NB586_592.out
 have hnc27 := NB592_586.out
 have hcz28_0 := bv_ BK586.out 0
 have hcz28_1 := bv_ BK586.out 1
 have hcz28_2 := bv_ BK586.out 2
 have hcz28_3 := bv_ BK586.out 3
 have hfz28_0 := blk_frozen BK586.out 0
 have hfz28_1 := blk_frozen BK586.out 1
 have hfz28_2 := blk_frozen BK586.out 2
 have hfz28_3 := blk_frozen BK586.out 3
 try go_wp2_with (first | ((with_reducible refine gate_callee (f := 58) rfl ?_); refine gl_ (some 28) Try.func58 #[.int .u64 a1_3] ?_; (with_reducible refine (wide_Of.calls a1_3 t593 t594 _ A6.out).mono ?_); rintro e w29 ⟨rfl, hb⟩; refine ⟨_, rfl, ?_⟩; replace BK585 := A_ (blk_below (g := gb585) (o := .cells #[.bool a0_0, .int .i64 a0_1, .int .i64 a0_2, .int .u64 a0_3] 36 (0, 0)) (bf6_ BK585.out NB585_592.out NB585_592.out NB585_592.out NB585_592.out NB585_592.out NB585_592.out) hb); replace BK586 := A_ (blk_below (g := gb586) (o := .cells #[.bool a1_0, .int .i64 a1_1, .int .i64 a1_2, .int .u64 a1_3] 36 (0, 0)) (bf6_ BK586.out NB586_592.out NB586_592.out NB586_592.out NB586_592.out NB586_592.out NB586_592.out) hb); replace BK587 := A_ (blk_below (g := gb587) (o := .cells #[.int .u64 0, .int .u64 0, .int .u64 0, .int .u64 0, .int .i64 0, .bool false] 103 (0, 0)) (bf6_ BK587.out NB587_592.out NB587_592.out NB587_592.out NB587_592.out NB587_592.out NB587_592.out) hb); replace BK592 := A_ (blk_below (g := gb592) (o := .cells #[.int .u64 t590, .int .u64 t591, .int .u64 0, .int .u64 0, .int .i64 (wrap64 (a0_2 - (ji3))), .bool false] 103 (0, 0)) (by (with_reducible repeat (first | refine blk_drewN ?_ _ | refine blk_drew ?_ | refine blk_alloc ?_ _)); refine blk_put (cs := #[.int .u64 t590, .int .u64 t591, .int .u64 0, .int .u64 0, .int .i64 (wrap64 (a0_2 - (ji3))), .bool false]) ?_ 5 _ rfl; (with_reducible repeat (first | refine blk_drewN ?_ _ | refine blk_drew ?_ | refine blk_alloc ?_ _)); refine blk_put (cs := #[.int .u64 t590, .int .u64 t591, .int .u64 0, .int .u64 0, .int .i64 0, .bool false]) ?_ 4 _ rfl; (with_reducible repeat (first | refine blk_drewN ?_ _ | refine blk_drew ?_ | refine blk_alloc ?_ _)); refine blk_put (cs := #[.int .u64 t590, .int .u64 t591, .int .u64 0, .int .u64 0, .int .i64 0, .bool false]) ?_ 3 _ rfl; (with_reducible repeat (first | refine blk_drewN ?_ _ | refine blk_drew ?_ | refine blk_alloc ?_ _)); refine blk_put (cs := #[.int .u64 t590, .int .u64 t591, .int .u64 0, .int .u64 0, .int .i64 0, .bool false]) ?_ 2 _ rfl; (with_reducible repeat (first | refine blk_drewN ?_ _ | refine blk_drew ?_ | refine blk_alloc ?_ _)); refine blk_put (cs := #[.int .u64 t590, .int .u64 0, .int .u64 0, .int .u64 0, .int .i64 0, .bool false]) ?_ 1 _ rfl; (with_reducible repeat (first | refine blk_drewN ?_ _ | refine blk_drew ?_ | refine blk_alloc ?_ _)); refine blk_put (cs := #[.int .u64 0, .int .u64 0, .int .u64 0, .int .u64 0, .int .i64 0, .bool false]) ?_ 0 _ rfl; (with_reducible repeat (first | refine blk_drewN ?_ _ | refine blk_drew ?_ | refine blk_alloc ?_ _)); exact BK592.out) hb); replace HB := A_ (below_step (hb4_ HB.out GE585.out GE586.out GE587.out GE592.out) hb); (try clear hb); (try clear hb2); (try clear hk); (try clear hi)) | ((with_reducible refine gate_callee (f := 63) rfl ?_); refine goesL_ (some 32) rfl rfl Try.func63 (by kernel_rfl) rfl #[.agg #[.int .u64 t593, .int .u64 t594], .int .i64 (wrap64 ((wrap64 (a0_2 - a1_2)) - (ji3)))] rfl (by (try simp only [List.map_toArray, List.map_cons, List.map_nil]); first | done | (simp only [hji3]; rfl) | rfl | (simp only [List.length_drop, List.length_take]; rfl)) ?_; (with_reducible refine (wide_Right.calls t593 t594 (wrap64 ((wrap64 (a0_2 - a1_2)) - (ji3))) t595 t596 t597 _ A7.out).mono ?_); rintro e w30 ⟨rfl, hb⟩; refine ⟨_, rfl, ?_⟩; replace BK585 := A_ (bb_ BK585.out hb); replace BK586 := A_ (bb_ BK586.out hb); replace BK587 := A_ (bb_ BK587.out hb); replace BK592 := A_ (bb_ BK592.out hb); replace HB := A_ (below_step (hb4_ HB.out GE585.out GE586.out GE587.out GE592.out) hb); (try clear hb); (try clear hb2); (try clear hk); (try clear hi); have hnb31 := NB592_585.out; have hnc31 := NB585_592.out; have hnb32 := NB592_587.out; have hnc32 := NB587_592.out; have hcz33_0 := bv_ BK592.out 0; have hcz33_1 := bv_ BK592.out 1; have hcz33_2 := bv_ BK592.out 2; have hcz33_3 := bv_ BK592.out 3; have hcz33_4 := bv_ BK592.out 4; have hcz33_5 := bv_ BK592.out 5; have hfz33_0 := blk_frozen BK592.out 0; have hfz33_1 := blk_frozen BK592.out 1; have hfz33_2 := blk_frozen BK592.out 2; have hfz33_3 := blk_frozen BK592.out 3; have hfz33_4 := blk_frozen BK592.out 4; have hfz33_5 := blk_frozen BK592.out 5; have hcz34_0 := bv_ BK587.out 0; have hcz34_1 := bv_ BK587.out 1; have hcz34_2 := bv_ BK587.out 2; have hcz34_3 := bv_ BK587.out 3; have hcz34_4 := bv_ BK587.out 4; have hcz34_5 := bv_ BK587.out 5; have hfz34_0 := blk_frozen BK587.out 0; have hfz34_1 := blk_frozen BK587.out 1; have hfz34_2 := blk_frozen BK587.out 2; have hfz34_3 := blk_frozen BK587.out 3; have hfz34_4 := blk_frozen BK587.out 4; have hfz34_5 := blk_frozen BK587.out 5))
 refine bodyPost_ret (results_cell_row rfl _ _ gb587 103 #[.int .u64 t590, .int .u64 t591, .int .u64 t595, .int .u64 t596, .int .i64 (wrap64 (a0_2 - (ji3))), .bool t597] (0, 0) _ rfl (by (with_reducible repeat (first | refine blk_drewN ?_ _ | refine blk_drew ?_ | refine blk_alloc ?_ _)); refine blk_put (cs := #[.int .u64 t590, .int .u64 t591, .int .u64 t595, .int .u64 t596, .int .i64 (wrap64 (a0_2 - (ji3))), .bool false]) ?_ 5 _ rfl; (with_reducible repeat (first | refine blk_drewN ?_ _ | refine blk_drew ?_ | refine blk_alloc ?_ _)); refine blk_put (cs := #[.int .u64 t590, .int .u64 t591, .int .u64 t595, .int .u64 t596, .int .i64 0, .bool false]) ?_ 4 _ rfl; (with_reducible repeat (first | refine blk_drewN ?_ _ | refine blk_drew ?_ | refine blk_alloc ?_ _)); refine blk_put (cs := #[.int .u64 t590, .int .u64 t591, .int .u64 t595, .int .u64 0, .int .i64 0, .bool false]) ?_ 3 _ rfl; (with_reducible repeat (first | refine blk_drewN ?_ _ | refine blk_drew ?_ | refine blk_alloc ?_ _)); refine blk_put (cs := #[.int .u64 t590, .int .u64 t591, .int .u64 0, .int .u64 0, .int .i64 0, .bool false]) ?_ 2 _ rfl; (with_reducible repeat (first | refine blk_drewN ?_ _ | refine blk_drew ?_ | refine blk_alloc ?_ _)); refine blk_put (cs := #[.int .u64 t590, .int .u64 0, .int .u64 0, .int .u64 0, .int .i64 0, .bool false]) ?_ 1 _ rfl; (with_reducible repeat (first | refine blk_drewN ?_ _ | refine blk_drew ?_ | refine blk_alloc ?_ _)); refine blk_put (cs := #[.int .u64 0, .int .u64 0, .int .u64 0, .int .u64 0, .int .i64 0, .bool false]) ?_ 0 _ rfl; (with_reducible repeat (first | refine blk_drewN ?_ _ | refine blk_drew ?_ | refine blk_alloc ?_ _)); refine blk_far ?_ NB587_592.out _; (with_reducible repeat (first | refine blk_drewN ?_ _ | refine blk_drew ?_ | refine blk_alloc ?_ _)); refine blk_far ?_ NB587_592.out _; (with_reducible repeat (first | refine blk_drewN ?_ _ | refine blk_drew ?_ | refine blk_alloc ?_ _)); refine blk_far ?_ NB587_592.out _; (with_reducible repeat (first | refine blk_drewN ?_ _ | refine blk_drew ?_ | refine blk_alloc ?_ _)); exact BK587.out) Try.underlying103 rfl (by kernel_rfl)) rfl ?_
 exact ⟨by first | rfl | (simp [errW_none, errW_some] <;> rfl) | (simp only [← hji3]; first | rfl | (simp [errW_none, errW_some] <;> rfl)) | (simp [*, errW_none, errW_some] <;> rfl), hb4_ HB.out GE585.out GE586.out GE587.out GE592.out⟩
end Go.Proofs.Ythdeeoallfbjmaa.PA
