/- What the Go functions that the statement WideSums reaches compute, and the mathematics on it, in the order in which one leans on the other; for every input. -/
import Derived.Test.YtjjehbedpgdhgaaVWideSums0
import Derived.Test.YtjjehbedpgdhgaaMWideSums0
import Derived.Test.YtjjehbedpgdhgaaMWideSums1
import Derived.Test.YtjjehbedpgdhgaaMWideSums2
import Derived.Test.YtjjehbedpgdhgaaMWideSums3
namespace Go.Proofs.Ytjjehbedpgdhgaa.PA
open Go.RowKit Go.Proofs.YtjjehbedpgdhgaaW.PrintWords Go.Proofs.YtjjehbedpgdhgaaW.PrintLast Go.Proofs.YtjjehbedpgdhgaaW.PrintMore
attribute [local go_sem] max2_int min2_int max_two min_two max_three min_three max_four min_four   -- for this text's walks alone
set_option linter.unusedVariables false
set_option linter.unusedSimpArgs false
set_option maxHeartbeats 8000000
set_option maxRecDepth 100000
def L01_WideSums.f (k : Nat) (a0_0 : Int) (a0_1 : Int) (a1_0 : Int) (a1_1 : Int) : Option (Bool) := (L01_awake.f k).bind fun t621 => (if t621 = true then ((L01_Nat.f k a0_0 a0_1).bind fun t622 => ((L01_Nat.f k a1_0 a1_1).bind fun t625 => ((r1_Of.f k 1).bind fun t630 => ((r1_Shl.f k t630 128).bind fun t633 => ((r1_Add.f k t622 t633).bind fun t636 => ((r1_Sub.f k t636 t625).bind fun t639 => ((wide_Add.f a0_0 a0_1 a1_0 a1_1).bind fun bt643 => ((r1_Add.f k t622 t625).bind fun t645 => ((r1_Mod.f k t645).bind fun t648 => ((L01_is.f k bt643.1 bt643.2 t648).bind fun t651 => (if t651 = true then ((wide_Sub.f a0_0 a0_1 a1_0 a1_1).bind fun bt652 => ((r1_Mod.f k t639).bind fun t654 => ((L01_is.f k bt652.1 bt652.2 t654).bind fun t657 => (if t657 = true then ((wide_Mul.f a0_1 a1_1).bind fun bt658 => ((r1_Of.f k a0_1).bind fun t660 => ((r1_Of.f k a1_1).bind fun t663 => ((r1_Mul.f k t660 t663).bind fun t666 => ((L01_is.f k bt658.1 bt658.2 t666).bind fun t669 => (if t669 = true then ((wide_Cmp.f a0_0 a0_1 a1_0 a1_1).bind fun t670 => ((r1_Cmp.f k t622 t625).bind fun t671 => (if t670 = t671 then ((wide_Of.f a0_0).bind fun bt672 => ((r1_Of.f k a0_0).bind fun t674 => ((L01_is.f k bt672.1 bt672.2 t674).bind fun t677 => (some t677)))) else (some false)))) else (some false))))))) else (some false))))) else (some false)))))))))))) else (some false))
theorem L01_WideSums.mono : ∀ a0 a1 a2 a3 k, LeO (L01_WideSums.f k a0 a1 a2 a3) (L01_WideSums.f (k + 1) a0 a1 a2 a3) := by
 intro a0 a1 a2 a3 k
 unfold L01_WideSums.f
 repeat' first
   | (with_reducible exact L01_Nat.mono _ _ _)
   | (with_reducible exact L01_awake.mono _)
   | (with_reducible exact L01_is.mono _ _ _ _)
   | (with_reducible exact r1_Add.mono _ _ _)
   | (with_reducible exact r1_Cmp.mono _ _ _)
   | (with_reducible exact r1_Mod.mono _ _)
   | (with_reducible exact r1_Mul.mono _ _ _)
   | (with_reducible exact r1_Of.mono _ _)
   | (with_reducible exact r1_Shl.mono _ _ _)
   | (with_reducible exact r1_Sub.mono _ _ _)
   | (with_reducible exact LeO.refl _)
   | (with_reducible exact LeO.none _)
   | (with_reducible refine LeO.ite ?_ ?_)
   | (with_reducible refine LeO.bind ?_ (fun _ => ?_))
   | exact L01_Nat.mono _ _ _
   | exact L01_awake.mono _
   | exact L01_is.mono _ _ _ _
   | exact r1_Add.mono _ _ _
   | exact r1_Cmp.mono _ _ _
   | exact r1_Mod.mono _ _
   | exact r1_Mul.mono _ _ _
   | exact r1_Of.mono _ _
   | exact r1_Shl.mono _ _ _
   | exact r1_Sub.mono _ _ _
   | exact LeO.none _
   | refine LeO.ite ?_ ?_
   | refine LeO.bind ?_ (fun _ => ?_)
def L01_WideSums.T3 : Bool × List (List Nat × List Nat) := (true, [([], []), ([0], [0]), ([], []), ([2, 1], [2]), ([], []), ([], []), ([4, 1, 3, 0, 1, 4, 5], [1, 4]), ([5, 3, 6, 0, 1, 2, 3, 4, 5, 6], [3, 5])])
def L01_WideSums.B3 : List Nat := [0, 1, 0, 7, 0, 0, 63, 127]
theorem L01_WideSums.tab3 : rtab .any (opsOf Try.f7 3) = L01_WideSums.T3 := by kernel_rfl
theorem L01_WideSums.bits3 : waitsOk L01_WideSums.T3.2 L01_WideSums.B3 = true := by kernel_rfl
def L01_WideSums.T4 : Bool × List (List Nat × List Nat) := (true, [([], []), ([], []), ([1, 1], [1]), ([0, 2, 2], [0, 2]), ([], []), ([3, 4, 3], [3, 4]), ([], []), ([6, 5, 5, 0, 1, 2, 3, 4, 5, 6], [5, 6])])
def L01_WideSums.B4 : List Nat := [0, 0, 2, 7, 0, 31, 0, 127]
theorem L01_WideSums.tab4 : rtab .any (opsOf Try.f7 4) = L01_WideSums.T4 := by kernel_rfl
theorem L01_WideSums.bits4 : waitsOk L01_WideSums.T4.2 L01_WideSums.B4 = true := by kernel_rfl
def L01_WideSums.T5 : Bool × List (List Nat × List Nat) := (true, [([], []), ([], []), ([0, 1], [0, 1]), ([], []), ([], []), ([3, 4, 2], [3, 4]), ([5, 5], [5]), ([2, 6, 6], [2, 6]), ([7, 7], [7]), ([8], [8]), ([8], [8]), ([9, 10, 8, 8], [8, 9, 10]), ([8], [8]), ([12, 11, 8], [8, 12]), ([11, 13, 13, 8], [8, 11, 13]), ([8, 14], [8, 14]), ([15, 14], [15]), ([16], [16]), ([17, 16], [16, 17]), ([16], [16]), ([19, 16], [16, 19]), ([18, 20, 16, 16], [16, 18, 20]), ([16], [16]), ([22, 16], [16, 22]), ([23, 21, 16], [16, 23]), ([16], [16]), ([25, 16], [16, 25]), ([26, 24, 16], [16, 26]), ([24, 27, 27, 16], [16, 24, 27]), ([21, 28, 28, 16], [16, 21, 28]), ([16, 29], [16, 29]), ([30, 29], [30]), ([31], [31]), ([31], [31]), ([32, 33, 31, 31], [31, 32, 33]), ([31], [31]), ([31], [31]), ([35, 36, 34, 31], [31, 35, 36]), ([34, 37, 31], [31, 34, 37]), ([31, 38], [31, 38]), ([39, 37], [39]), ([40], [40]), ([41, 40], [40, 41]), ([42, 40, 40], [40, 42]), ([40], [40]), ([44, 40], [40, 44]), ([45, 43, 40], [40, 45]), ([43, 46, 46, 40], [40, 43, 46]), ([40, 47], [40, 47]), ([48, 47, 0, 1, 2, 3, 4, 5, 6, 7, 8, 9, 10, 11, 12, 13, 14, 15, 16, 17, 18, 19, 20, 21, 22, 23, 24, 25, 26, 27, 28, 29, 30, 31, 32, 33, 34, 35, 36, 37, 38, 39, 40, 41, 42, 43, 44, 45, 46, 47, 48], [48])])
def L01_WideSums.B5 : List Nat := [0, 0, 3, 0, 0, 31, 63, 127, 255, 511, 511, 2047, 511, 8191, 16383, 32767, 65535, 131071, 262143, 131071, 655359, 2097151, 131071, 4325375, 16777215, 131071, 33685503, 134217727, 268435455, 536870911, 1073741823, 2147483647, 4294967295, 4294967295, 17179869183, 4294967295, 4294967295, 137438953471, 274877906943, 549755813887, 1099511627775, 2199023255551, 4398046511103, 8796093022207, 2199023255551, 19791209299967, 70368744177663, 140737488355327, 281474976710655, 562949953421311]
theorem L01_WideSums.tab5 : rtab .any (opsOf Try.f7 5) = L01_WideSums.T5 := by kernel_rfl
theorem L01_WideSums.bits5 : waitsOk L01_WideSums.T5.2 L01_WideSums.B5 = true := by kernel_rfl
theorem L01_WideSums.calls (k : Nat) (a0_0 : Int) (a0_1 : Int) (a1_0 : Int) (a1_1 : Int) (r : Bool) (w : World) (h : L01_WideSums.f k a0_0 a0_1 a1_0 a1_1 = some r) (hr_ : Aside0 (r = true)) :
  Calls Try.prog 7 #[.agg #[.int .u64 a0_0, .int .u64 a0_1], .agg #[.int .u64 a1_0, .int .u64 a1_1]] w fun e w' => e = .returned (.bool r) ∧ Below w.heap.size w w' := by
 have hu50 := Try.underlying50
 have hu53 := Try.underlying53
 have HB := A_ (Below.refl w.heap.size w)
 have H : ((L01_awake.f k).bind fun t621 => (if t621 = true then ((L01_Nat.f k a0_0 a0_1).bind fun t622 => ((L01_Nat.f k a1_0 a1_1).bind fun t625 => ((r1_Of.f k 1).bind fun t630 => ((r1_Shl.f k t630 128).bind fun t633 => ((r1_Add.f k t622 t633).bind fun t636 => ((r1_Sub.f k t636 t625).bind fun t639 => ((wide_Add.f a0_0 a0_1 a1_0 a1_1).bind fun bt643 => ((r1_Add.f k t622 t625).bind fun t645 => ((r1_Mod.f k t645).bind fun t648 => ((L01_is.f k bt643.1 bt643.2 t648).bind fun t651 => (if t651 = true then ((wide_Sub.f a0_0 a0_1 a1_0 a1_1).bind fun bt652 => ((r1_Mod.f k t639).bind fun t654 => ((L01_is.f k bt652.1 bt652.2 t654).bind fun t657 => (if t657 = true then ((wide_Mul.f a0_1 a1_1).bind fun bt658 => ((r1_Of.f k a0_1).bind fun t660 => ((r1_Of.f k a1_1).bind fun t663 => ((r1_Mul.f k t660 t663).bind fun t666 => ((L01_is.f k bt658.1 bt658.2 t666).bind fun t669 => (if t669 = true then ((wide_Cmp.f a0_0 a0_1 a1_0 a1_1).bind fun t670 => ((r1_Cmp.f k t622 t625).bind fun t671 => (if t670 = t671 then ((wide_Of.f a0_0).bind fun bt672 => ((r1_Of.f k a0_0).bind fun t674 => ((L01_is.f k bt672.1 bt672.2 t674).bind fun t677 => (some t677)))) else (some false)))) else (some false))))))) else (some false))))) else (some false)))))))))))) else (some false))) = some r := h
 clear h
 replace H := ob_ H
 obtain ⟨t621, A30, H⟩ := H
 replace H : (if t621 = true then ((L01_Nat.f k a0_0 a0_1).bind fun t622 => ((L01_Nat.f k a1_0 a1_1).bind fun t625 => ((r1_Of.f k 1).bind fun t630 => ((r1_Shl.f k t630 128).bind fun t633 => ((r1_Add.f k t622 t633).bind fun t636 => ((r1_Sub.f k t636 t625).bind fun t639 => ((wide_Add.f a0_0 a0_1 a1_0 a1_1).bind fun bt643 => ((r1_Add.f k t622 t625).bind fun t645 => ((r1_Mod.f k t645).bind fun t648 => ((L01_is.f k bt643.1 bt643.2 t648).bind fun t651 => (if t651 = true then ((wide_Sub.f a0_0 a0_1 a1_0 a1_1).bind fun bt652 => ((r1_Mod.f k t639).bind fun t654 => ((L01_is.f k bt652.1 bt652.2 t654).bind fun t657 => (if t657 = true then ((wide_Mul.f a0_1 a1_1).bind fun bt658 => ((r1_Of.f k a0_1).bind fun t660 => ((r1_Of.f k a1_1).bind fun t663 => ((r1_Mul.f k t660 t663).bind fun t666 => ((L01_is.f k bt658.1 bt658.2 t666).bind fun t669 => (if t669 = true then ((wide_Cmp.f a0_0 a0_1 a1_0 a1_1).bind fun t670 => ((r1_Cmp.f k t622 t625).bind fun t671 => (if t670 = t671 then ((wide_Of.f a0_0).bind fun bt672 => ((r1_Of.f k a0_0).bind fun t674 => ((L01_is.f k bt672.1 bt672.2 t674).bind fun t677 => (some t677)))) else (some false)))) else (some false))))))) else (some false))))) else (some false)))))))))))) else (some false)) = some r := H
 have A3 := A_ A30;clear A30
 by_cases c4 : t621 = true
 ·subst c4
  have H1 : ((L01_Nat.f k a0_0 a0_1).bind fun t622 => ((L01_Nat.f k a1_0 a1_1).bind fun t625 => ((r1_Of.f k 1).bind fun t630 => ((r1_Shl.f k t630 128).bind fun t633 => ((r1_Add.f k t622 t633).bind fun t636 => ((r1_Sub.f k t636 t625).bind fun t639 => ((wide_Add.f a0_0 a0_1 a1_0 a1_1).bind fun bt643 => ((r1_Add.f k t622 t625).bind fun t645 => ((r1_Mod.f k t645).bind fun t648 => ((L01_is.f k bt643.1 bt643.2 t648).bind fun t651 => (if t651 = true then ((wide_Sub.f a0_0 a0_1 a1_0 a1_1).bind fun bt652 => ((r1_Mod.f k t639).bind fun t654 => ((L01_is.f k bt652.1 bt652.2 t654).bind fun t657 => (if t657 = true then ((wide_Mul.f a0_1 a1_1).bind fun bt658 => ((r1_Of.f k a0_1).bind fun t660 => ((r1_Of.f k a1_1).bind fun t663 => ((r1_Mul.f k t660 t663).bind fun t666 => ((L01_is.f k bt658.1 bt658.2 t666).bind fun t669 => (if t669 = true then ((wide_Cmp.f a0_0 a0_1 a1_0 a1_1).bind fun t670 => ((r1_Cmp.f k t622 t625).bind fun t671 => (if t670 = t671 then ((wide_Of.f a0_0).bind fun bt672 => ((r1_Of.f k a0_0).bind fun t674 => ((L01_is.f k bt672.1 bt672.2 t674).bind fun t677 => (some t677)))) else (some false)))) else (some false))))))) else (some false))))) else (some false)))))))))))) = some r := by rw [if_pos rfl] at H; exact H
  clear H;have H := H1;clear H1
  replace H := ob_ H
  obtain ⟨t622, A50, H⟩ := H
  replace H : ((L01_Nat.f k a1_0 a1_1).bind fun t625 => ((r1_Of.f k 1).bind fun t630 => ((r1_Shl.f k t630 128).bind fun t633 => ((r1_Add.f k t622 t633).bind fun t636 => ((r1_Sub.f k t636 t625).bind fun t639 => ((wide_Add.f a0_0 a0_1 a1_0 a1_1).bind fun bt643 => ((r1_Add.f k t622 t625).bind fun t645 => ((r1_Mod.f k t645).bind fun t648 => ((L01_is.f k bt643.1 bt643.2 t648).bind fun t651 => (if t651 = true then ((wide_Sub.f a0_0 a0_1 a1_0 a1_1).bind fun bt652 => ((r1_Mod.f k t639).bind fun t654 => ((L01_is.f k bt652.1 bt652.2 t654).bind fun t657 => (if t657 = true then ((wide_Mul.f a0_1 a1_1).bind fun bt658 => ((r1_Of.f k a0_1).bind fun t660 => ((r1_Of.f k a1_1).bind fun t663 => ((r1_Mul.f k t660 t663).bind fun t666 => ((L01_is.f k bt658.1 bt658.2 t666).bind fun t669 => (if t669 = true then ((wide_Cmp.f a0_0 a0_1 a1_0 a1_1).bind fun t670 => ((r1_Cmp.f k t622 t625).bind fun t671 => (if t670 = t671 then ((wide_Of.f a0_0).bind fun bt672 => ((r1_Of.f k a0_0).bind fun t674 => ((L01_is.f k bt672.1 bt672.2 t674).bind fun t677 => (some t677)))) else (some false)))) else (some false))))))) else (some false))))) else (some false))))))))))) = some r := H
  have A5 := A_ A50;clear A50
  replace H := ob_ H
  obtain ⟨t625, A60, H⟩ := H
  replace H : ((r1_Of.f k 1).bind fun t630 => ((r1_Shl.f k t630 128).bind fun t633 => ((r1_Add.f k t622 t633).bind fun t636 => ((r1_Sub.f k t636 t625).bind fun t639 => ((wide_Add.f a0_0 a0_1 a1_0 a1_1).bind fun bt643 => ((r1_Add.f k t622 t625).bind fun t645 => ((r1_Mod.f k t645).bind fun t648 => ((L01_is.f k bt643.1 bt643.2 t648).bind fun t651 => (if t651 = true then ((wide_Sub.f a0_0 a0_1 a1_0 a1_1).bind fun bt652 => ((r1_Mod.f k t639).bind fun t654 => ((L01_is.f k bt652.1 bt652.2 t654).bind fun t657 => (if t657 = true then ((wide_Mul.f a0_1 a1_1).bind fun bt658 => ((r1_Of.f k a0_1).bind fun t660 => ((r1_Of.f k a1_1).bind fun t663 => ((r1_Mul.f k t660 t663).bind fun t666 => ((L01_is.f k bt658.1 bt658.2 t666).bind fun t669 => (if t669 = true then ((wide_Cmp.f a0_0 a0_1 a1_0 a1_1).bind fun t670 => ((r1_Cmp.f k t622 t625).bind fun t671 => (if t670 = t671 then ((wide_Of.f a0_0).bind fun bt672 => ((r1_Of.f k a0_0).bind fun t674 => ((L01_is.f k bt672.1 bt672.2 t674).bind fun t677 => (some t677)))) else (some false)))) else (some false))))))) else (some false))))) else (some false)))))))))) = some r := H
  have A6 := A_ A60;clear A60
  replace H := ob_ H
  obtain ⟨t630, A70, H⟩ := H
  replace H : ((r1_Shl.f k t630 128).bind fun t633 => ((r1_Add.f k t622 t633).bind fun t636 => ((r1_Sub.f k t636 t625).bind fun t639 => ((wide_Add.f a0_0 a0_1 a1_0 a1_1).bind fun bt643 => ((r1_Add.f k t622 t625).bind fun t645 => ((r1_Mod.f k t645).bind fun t648 => ((L01_is.f k bt643.1 bt643.2 t648).bind fun t651 => (if t651 = true then ((wide_Sub.f a0_0 a0_1 a1_0 a1_1).bind fun bt652 => ((r1_Mod.f k t639).bind fun t654 => ((L01_is.f k bt652.1 bt652.2 t654).bind fun t657 => (if t657 = true then ((wide_Mul.f a0_1 a1_1).bind fun bt658 => ((r1_Of.f k a0_1).bind fun t660 => ((r1_Of.f k a1_1).bind fun t663 => ((r1_Mul.f k t660 t663).bind fun t666 => ((L01_is.f k bt658.1 bt658.2 t666).bind fun t669 => (if t669 = true then ((wide_Cmp.f a0_0 a0_1 a1_0 a1_1).bind fun t670 => ((r1_Cmp.f k t622 t625).bind fun t671 => (if t670 = t671 then ((wide_Of.f a0_0).bind fun bt672 => ((r1_Of.f k a0_0).bind fun t674 => ((L01_is.f k bt672.1 bt672.2 t674).bind fun t677 => (some t677)))) else (some false)))) else (some false))))))) else (some false))))) else (some false))))))))) = some r := H
  have A7 := A_ A70;clear A70
  replace H := ob_ H
  obtain ⟨t633, A80, H⟩ := H
  replace H : ((r1_Add.f k t622 t633).bind fun t636 => ((r1_Sub.f k t636 t625).bind fun t639 => ((wide_Add.f a0_0 a0_1 a1_0 a1_1).bind fun bt643 => ((r1_Add.f k t622 t625).bind fun t645 => ((r1_Mod.f k t645).bind fun t648 => ((L01_is.f k bt643.1 bt643.2 t648).bind fun t651 => (if t651 = true then ((wide_Sub.f a0_0 a0_1 a1_0 a1_1).bind fun bt652 => ((r1_Mod.f k t639).bind fun t654 => ((L01_is.f k bt652.1 bt652.2 t654).bind fun t657 => (if t657 = true then ((wide_Mul.f a0_1 a1_1).bind fun bt658 => ((r1_Of.f k a0_1).bind fun t660 => ((r1_Of.f k a1_1).bind fun t663 => ((r1_Mul.f k t660 t663).bind fun t666 => ((L01_is.f k bt658.1 bt658.2 t666).bind fun t669 => (if t669 = true then ((wide_Cmp.f a0_0 a0_1 a1_0 a1_1).bind fun t670 => ((r1_Cmp.f k t622 t625).bind fun t671 => (if t670 = t671 then ((wide_Of.f a0_0).bind fun bt672 => ((r1_Of.f k a0_0).bind fun t674 => ((L01_is.f k bt672.1 bt672.2 t674).bind fun t677 => (some t677)))) else (some false)))) else (some false))))))) else (some false))))) else (some false)))))))) = some r := H
  have A8 := A_ A80;clear A80
  replace H := ob_ H
  obtain ⟨t636, A90, H⟩ := H
  replace H : ((r1_Sub.f k t636 t625).bind fun t639 => ((wide_Add.f a0_0 a0_1 a1_0 a1_1).bind fun bt643 => ((r1_Add.f k t622 t625).bind fun t645 => ((r1_Mod.f k t645).bind fun t648 => ((L01_is.f k bt643.1 bt643.2 t648).bind fun t651 => (if t651 = true then ((wide_Sub.f a0_0 a0_1 a1_0 a1_1).bind fun bt652 => ((r1_Mod.f k t639).bind fun t654 => ((L01_is.f k bt652.1 bt652.2 t654).bind fun t657 => (if t657 = true then ((wide_Mul.f a0_1 a1_1).bind fun bt658 => ((r1_Of.f k a0_1).bind fun t660 => ((r1_Of.f k a1_1).bind fun t663 => ((r1_Mul.f k t660 t663).bind fun t666 => ((L01_is.f k bt658.1 bt658.2 t666).bind fun t669 => (if t669 = true then ((wide_Cmp.f a0_0 a0_1 a1_0 a1_1).bind fun t670 => ((r1_Cmp.f k t622 t625).bind fun t671 => (if t670 = t671 then ((wide_Of.f a0_0).bind fun bt672 => ((r1_Of.f k a0_0).bind fun t674 => ((L01_is.f k bt672.1 bt672.2 t674).bind fun t677 => (some t677)))) else (some false)))) else (some false))))))) else (some false))))) else (some false))))))) = some r := H
  have A9 := A_ A90;clear A90
  replace H := ob_ H
  obtain ⟨t639, A100, H⟩ := H
  replace H : ((wide_Add.f a0_0 a0_1 a1_0 a1_1).bind fun bt643 => ((r1_Add.f k t622 t625).bind fun t645 => ((r1_Mod.f k t645).bind fun t648 => ((L01_is.f k bt643.1 bt643.2 t648).bind fun t651 => (if t651 = true then ((wide_Sub.f a0_0 a0_1 a1_0 a1_1).bind fun bt652 => ((r1_Mod.f k t639).bind fun t654 => ((L01_is.f k bt652.1 bt652.2 t654).bind fun t657 => (if t657 = true then ((wide_Mul.f a0_1 a1_1).bind fun bt658 => ((r1_Of.f k a0_1).bind fun t660 => ((r1_Of.f k a1_1).bind fun t663 => ((r1_Mul.f k t660 t663).bind fun t666 => ((L01_is.f k bt658.1 bt658.2 t666).bind fun t669 => (if t669 = true then ((wide_Cmp.f a0_0 a0_1 a1_0 a1_1).bind fun t670 => ((r1_Cmp.f k t622 t625).bind fun t671 => (if t670 = t671 then ((wide_Of.f a0_0).bind fun bt672 => ((r1_Of.f k a0_0).bind fun t674 => ((L01_is.f k bt672.1 bt672.2 t674).bind fun t677 => (some t677)))) else (some false)))) else (some false))))))) else (some false))))) else (some false)))))) = some r := H
  have A10 := A_ A100;clear A100
  replace H := ob_ H
  obtain ⟨⟨t643, t644⟩, A110, H⟩ := H
  replace H : ((r1_Add.f k t622 t625).bind fun t645 => ((r1_Mod.f k t645).bind fun t648 => ((L01_is.f k t643 t644 t648).bind fun t651 => (if t651 = true then ((wide_Sub.f a0_0 a0_1 a1_0 a1_1).bind fun bt652 => ((r1_Mod.f k t639).bind fun t654 => ((L01_is.f k bt652.1 bt652.2 t654).bind fun t657 => (if t657 = true then ((wide_Mul.f a0_1 a1_1).bind fun bt658 => ((r1_Of.f k a0_1).bind fun t660 => ((r1_Of.f k a1_1).bind fun t663 => ((r1_Mul.f k t660 t663).bind fun t666 => ((L01_is.f k bt658.1 bt658.2 t666).bind fun t669 => (if t669 = true then ((wide_Cmp.f a0_0 a0_1 a1_0 a1_1).bind fun t670 => ((r1_Cmp.f k t622 t625).bind fun t671 => (if t670 = t671 then ((wide_Of.f a0_0).bind fun bt672 => ((r1_Of.f k a0_0).bind fun t674 => ((L01_is.f k bt672.1 bt672.2 t674).bind fun t677 => (some t677)))) else (some false)))) else (some false))))))) else (some false))))) else (some false))))) = some r := H
  have A11 := A_ A110;clear A110
  replace H := ob_ H
  obtain ⟨t645, A120, H⟩ := H
  replace H : ((r1_Mod.f k t645).bind fun t648 => ((L01_is.f k t643 t644 t648).bind fun t651 => (if t651 = true then ((wide_Sub.f a0_0 a0_1 a1_0 a1_1).bind fun bt652 => ((r1_Mod.f k t639).bind fun t654 => ((L01_is.f k bt652.1 bt652.2 t654).bind fun t657 => (if t657 = true then ((wide_Mul.f a0_1 a1_1).bind fun bt658 => ((r1_Of.f k a0_1).bind fun t660 => ((r1_Of.f k a1_1).bind fun t663 => ((r1_Mul.f k t660 t663).bind fun t666 => ((L01_is.f k bt658.1 bt658.2 t666).bind fun t669 => (if t669 = true then ((wide_Cmp.f a0_0 a0_1 a1_0 a1_1).bind fun t670 => ((r1_Cmp.f k t622 t625).bind fun t671 => (if t670 = t671 then ((wide_Of.f a0_0).bind fun bt672 => ((r1_Of.f k a0_0).bind fun t674 => ((L01_is.f k bt672.1 bt672.2 t674).bind fun t677 => (some t677)))) else (some false)))) else (some false))))))) else (some false))))) else (some false)))) = some r := H
  have A12 := A_ A120;clear A120
  replace H := ob_ H
  obtain ⟨t648, A130, H⟩ := H
  replace H : ((L01_is.f k t643 t644 t648).bind fun t651 => (if t651 = true then ((wide_Sub.f a0_0 a0_1 a1_0 a1_1).bind fun bt652 => ((r1_Mod.f k t639).bind fun t654 => ((L01_is.f k bt652.1 bt652.2 t654).bind fun t657 => (if t657 = true then ((wide_Mul.f a0_1 a1_1).bind fun bt658 => ((r1_Of.f k a0_1).bind fun t660 => ((r1_Of.f k a1_1).bind fun t663 => ((r1_Mul.f k t660 t663).bind fun t666 => ((L01_is.f k bt658.1 bt658.2 t666).bind fun t669 => (if t669 = true then ((wide_Cmp.f a0_0 a0_1 a1_0 a1_1).bind fun t670 => ((r1_Cmp.f k t622 t625).bind fun t671 => (if t670 = t671 then ((wide_Of.f a0_0).bind fun bt672 => ((r1_Of.f k a0_0).bind fun t674 => ((L01_is.f k bt672.1 bt672.2 t674).bind fun t677 => (some t677)))) else (some false)))) else (some false))))))) else (some false))))) else (some false))) = some r := H
  have A13 := A_ A130;clear A130
  replace H := ob_ H
  obtain ⟨t651, A140, H⟩ := H
  replace H : (if t651 = true then ((wide_Sub.f a0_0 a0_1 a1_0 a1_1).bind fun bt652 => ((r1_Mod.f k t639).bind fun t654 => ((L01_is.f k bt652.1 bt652.2 t654).bind fun t657 => (if t657 = true then ((wide_Mul.f a0_1 a1_1).bind fun bt658 => ((r1_Of.f k a0_1).bind fun t660 => ((r1_Of.f k a1_1).bind fun t663 => ((r1_Mul.f k t660 t663).bind fun t666 => ((L01_is.f k bt658.1 bt658.2 t666).bind fun t669 => (if t669 = true then ((wide_Cmp.f a0_0 a0_1 a1_0 a1_1).bind fun t670 => ((r1_Cmp.f k t622 t625).bind fun t671 => (if t670 = t671 then ((wide_Of.f a0_0).bind fun bt672 => ((r1_Of.f k a0_0).bind fun t674 => ((L01_is.f k bt672.1 bt672.2 t674).bind fun t677 => (some t677)))) else (some false)))) else (some false))))))) else (some false))))) else (some false)) = some r := H
  have A14 := A_ A140;clear A140
  by_cases c15 : t651 = true
  ·subst c15
   have H1 : ((wide_Sub.f a0_0 a0_1 a1_0 a1_1).bind fun bt652 => ((r1_Mod.f k t639).bind fun t654 => ((L01_is.f k bt652.1 bt652.2 t654).bind fun t657 => (if t657 = true then ((wide_Mul.f a0_1 a1_1).bind fun bt658 => ((r1_Of.f k a0_1).bind fun t660 => ((r1_Of.f k a1_1).bind fun t663 => ((r1_Mul.f k t660 t663).bind fun t666 => ((L01_is.f k bt658.1 bt658.2 t666).bind fun t669 => (if t669 = true then ((wide_Cmp.f a0_0 a0_1 a1_0 a1_1).bind fun t670 => ((r1_Cmp.f k t622 t625).bind fun t671 => (if t670 = t671 then ((wide_Of.f a0_0).bind fun bt672 => ((r1_Of.f k a0_0).bind fun t674 => ((L01_is.f k bt672.1 bt672.2 t674).bind fun t677 => (some t677)))) else (some false)))) else (some false))))))) else (some false))))) = some r := by rw [if_pos rfl] at H; exact H
   clear H;have H := H1;clear H1
   replace H := ob_ H
   obtain ⟨⟨t652, t653⟩, A160, H⟩ := H
   replace H : ((r1_Mod.f k t639).bind fun t654 => ((L01_is.f k t652 t653 t654).bind fun t657 => (if t657 = true then ((wide_Mul.f a0_1 a1_1).bind fun bt658 => ((r1_Of.f k a0_1).bind fun t660 => ((r1_Of.f k a1_1).bind fun t663 => ((r1_Mul.f k t660 t663).bind fun t666 => ((L01_is.f k bt658.1 bt658.2 t666).bind fun t669 => (if t669 = true then ((wide_Cmp.f a0_0 a0_1 a1_0 a1_1).bind fun t670 => ((r1_Cmp.f k t622 t625).bind fun t671 => (if t670 = t671 then ((wide_Of.f a0_0).bind fun bt672 => ((r1_Of.f k a0_0).bind fun t674 => ((L01_is.f k bt672.1 bt672.2 t674).bind fun t677 => (some t677)))) else (some false)))) else (some false))))))) else (some false)))) = some r := H
   have A16 := A_ A160;clear A160
   replace H := ob_ H
   obtain ⟨t654, A170, H⟩ := H
   replace H : ((L01_is.f k t652 t653 t654).bind fun t657 => (if t657 = true then ((wide_Mul.f a0_1 a1_1).bind fun bt658 => ((r1_Of.f k a0_1).bind fun t660 => ((r1_Of.f k a1_1).bind fun t663 => ((r1_Mul.f k t660 t663).bind fun t666 => ((L01_is.f k bt658.1 bt658.2 t666).bind fun t669 => (if t669 = true then ((wide_Cmp.f a0_0 a0_1 a1_0 a1_1).bind fun t670 => ((r1_Cmp.f k t622 t625).bind fun t671 => (if t670 = t671 then ((wide_Of.f a0_0).bind fun bt672 => ((r1_Of.f k a0_0).bind fun t674 => ((L01_is.f k bt672.1 bt672.2 t674).bind fun t677 => (some t677)))) else (some false)))) else (some false))))))) else (some false))) = some r := H
   have A17 := A_ A170;clear A170
   replace H := ob_ H
   obtain ⟨t657, A180, H⟩ := H
   replace H : (if t657 = true then ((wide_Mul.f a0_1 a1_1).bind fun bt658 => ((r1_Of.f k a0_1).bind fun t660 => ((r1_Of.f k a1_1).bind fun t663 => ((r1_Mul.f k t660 t663).bind fun t666 => ((L01_is.f k bt658.1 bt658.2 t666).bind fun t669 => (if t669 = true then ((wide_Cmp.f a0_0 a0_1 a1_0 a1_1).bind fun t670 => ((r1_Cmp.f k t622 t625).bind fun t671 => (if t670 = t671 then ((wide_Of.f a0_0).bind fun bt672 => ((r1_Of.f k a0_0).bind fun t674 => ((L01_is.f k bt672.1 bt672.2 t674).bind fun t677 => (some t677)))) else (some false)))) else (some false))))))) else (some false)) = some r := H
   have A18 := A_ A180;clear A180
   by_cases c19 : t657 = true
   ·subst c19
    have H1 : ((wide_Mul.f a0_1 a1_1).bind fun bt658 => ((r1_Of.f k a0_1).bind fun t660 => ((r1_Of.f k a1_1).bind fun t663 => ((r1_Mul.f k t660 t663).bind fun t666 => ((L01_is.f k bt658.1 bt658.2 t666).bind fun t669 => (if t669 = true then ((wide_Cmp.f a0_0 a0_1 a1_0 a1_1).bind fun t670 => ((r1_Cmp.f k t622 t625).bind fun t671 => (if t670 = t671 then ((wide_Of.f a0_0).bind fun bt672 => ((r1_Of.f k a0_0).bind fun t674 => ((L01_is.f k bt672.1 bt672.2 t674).bind fun t677 => (some t677)))) else (some false)))) else (some false))))))) = some r := by rw [if_pos rfl] at H; exact H
    clear H;have H := H1;clear H1
    replace H := ob_ H
    obtain ⟨⟨t658, t659⟩, A200, H⟩ := H
    replace H : ((r1_Of.f k a0_1).bind fun t660 => ((r1_Of.f k a1_1).bind fun t663 => ((r1_Mul.f k t660 t663).bind fun t666 => ((L01_is.f k t658 t659 t666).bind fun t669 => (if t669 = true then ((wide_Cmp.f a0_0 a0_1 a1_0 a1_1).bind fun t670 => ((r1_Cmp.f k t622 t625).bind fun t671 => (if t670 = t671 then ((wide_Of.f a0_0).bind fun bt672 => ((r1_Of.f k a0_0).bind fun t674 => ((L01_is.f k bt672.1 bt672.2 t674).bind fun t677 => (some t677)))) else (some false)))) else (some false)))))) = some r := H
    have A20 := A_ A200;clear A200
    replace H := ob_ H
    obtain ⟨t660, A210, H⟩ := H
    replace H : ((r1_Of.f k a1_1).bind fun t663 => ((r1_Mul.f k t660 t663).bind fun t666 => ((L01_is.f k t658 t659 t666).bind fun t669 => (if t669 = true then ((wide_Cmp.f a0_0 a0_1 a1_0 a1_1).bind fun t670 => ((r1_Cmp.f k t622 t625).bind fun t671 => (if t670 = t671 then ((wide_Of.f a0_0).bind fun bt672 => ((r1_Of.f k a0_0).bind fun t674 => ((L01_is.f k bt672.1 bt672.2 t674).bind fun t677 => (some t677)))) else (some false)))) else (some false))))) = some r := H
    have A21 := A_ A210;clear A210
    replace H := ob_ H
    obtain ⟨t663, A220, H⟩ := H
    replace H : ((r1_Mul.f k t660 t663).bind fun t666 => ((L01_is.f k t658 t659 t666).bind fun t669 => (if t669 = true then ((wide_Cmp.f a0_0 a0_1 a1_0 a1_1).bind fun t670 => ((r1_Cmp.f k t622 t625).bind fun t671 => (if t670 = t671 then ((wide_Of.f a0_0).bind fun bt672 => ((r1_Of.f k a0_0).bind fun t674 => ((L01_is.f k bt672.1 bt672.2 t674).bind fun t677 => (some t677)))) else (some false)))) else (some false)))) = some r := H
    have A22 := A_ A220;clear A220
    replace H := ob_ H
    obtain ⟨t666, A230, H⟩ := H
    replace H : ((L01_is.f k t658 t659 t666).bind fun t669 => (if t669 = true then ((wide_Cmp.f a0_0 a0_1 a1_0 a1_1).bind fun t670 => ((r1_Cmp.f k t622 t625).bind fun t671 => (if t670 = t671 then ((wide_Of.f a0_0).bind fun bt672 => ((r1_Of.f k a0_0).bind fun t674 => ((L01_is.f k bt672.1 bt672.2 t674).bind fun t677 => (some t677)))) else (some false)))) else (some false))) = some r := H
    have A23 := A_ A230;clear A230
    replace H := ob_ H
    obtain ⟨t669, A240, H⟩ := H
    replace H : (if t669 = true then ((wide_Cmp.f a0_0 a0_1 a1_0 a1_1).bind fun t670 => ((r1_Cmp.f k t622 t625).bind fun t671 => (if t670 = t671 then ((wide_Of.f a0_0).bind fun bt672 => ((r1_Of.f k a0_0).bind fun t674 => ((L01_is.f k bt672.1 bt672.2 t674).bind fun t677 => (some t677)))) else (some false)))) else (some false)) = some r := H
    have A24 := A_ A240;clear A240
    by_cases c25 : t669 = true
    ·subst c25
     have H1 : ((wide_Cmp.f a0_0 a0_1 a1_0 a1_1).bind fun t670 => ((r1_Cmp.f k t622 t625).bind fun t671 => (if t670 = t671 then ((wide_Of.f a0_0).bind fun bt672 => ((r1_Of.f k a0_0).bind fun t674 => ((L01_is.f k bt672.1 bt672.2 t674).bind fun t677 => (some t677)))) else (some false)))) = some r := by rw [if_pos rfl] at H; exact H
     clear H;have H := H1;clear H1
     replace H := ob_ H
     obtain ⟨t670, A260, H⟩ := H
     replace H : ((r1_Cmp.f k t622 t625).bind fun t671 => (if t670 = t671 then ((wide_Of.f a0_0).bind fun bt672 => ((r1_Of.f k a0_0).bind fun t674 => ((L01_is.f k bt672.1 bt672.2 t674).bind fun t677 => (some t677)))) else (some false))) = some r := H
     have A26 := A_ A260;clear A260
     replace H := ob_ H
     obtain ⟨t671, A270, H⟩ := H
     replace H : (if t670 = t671 then ((wide_Of.f a0_0).bind fun bt672 => ((r1_Of.f k a0_0).bind fun t674 => ((L01_is.f k bt672.1 bt672.2 t674).bind fun t677 => (some t677)))) else (some false)) = some r := H
     have A27 := A_ A270;clear A270
     by_cases c28 : t670 = t671
     ·rw [if_pos c28] at H
      have c28b0 : (t670 == t671) = true := beq_iff_eq.mpr c28
      have c28b1 : (t670 != t671) = false := bne_eq_false_iff_eq.mpr c28
      clear c28
      replace H := ob_ H
      obtain ⟨⟨t672, t673⟩, A290, H⟩ := H
      replace H : ((r1_Of.f k a0_0).bind fun t674 => ((L01_is.f k t672 t673 t674).bind fun t677 => (some t677))) = some r := H
      have A29 := A_ A290;clear A290
      replace H := ob_ H
      obtain ⟨t674, A300, H⟩ := H
      replace H : ((L01_is.f k t672 t673 t674).bind fun t677 => (some t677)) = some r := H
      have A30 := A_ A300;clear A300
      replace H := ob_ H
      obtain ⟨t677, A310, H⟩ := H
      replace H : (some t677) = some r := H
      have A31 := A_ A310;clear A310
      obtain rfl := Option.some.inj H
      go_enter Try.func7, Try.ntmps7
      try go_wp2_with (first | ((with_reducible refine gate_dst (N := 2) rfl ?_); refine be_ 2 #[.int .u64 a0_0, .int .u64 a0_1] 50 ?_; intro gb619 hg w32 hbox hb; have BK619 := A_ (hbox); have GW619 := A_ (sz_ hg (hb_ HB.out)); have GE619 := A_ (sz_ hg (hb_ HB.out)); replace HB := A_ (below_step (hb_ HB.out) hb); clear hb hbox hg) | ((with_reducible refine gate_dst (N := 3) rfl ?_); refine be_ 3 #[.int .u64 a1_0, .int .u64 a1_1] 50 ?_; intro gb620 hg w33 hbox hb; have BK620 := A_ (hbox); have GW620 := A_ (sz_ hg (hb1_ HB.out GE619.out)); have GE620 := A_ (sz_ hg (hb1_ HB.out GE619.out)); have NB619_620 := A_ (nl_ hg BK619.out); have NB620_619 := A_ (ng_ hg BK619.out); replace BK619 := A_ (bb_ BK619.out hb); replace HB := A_ (below_step (hb1_ HB.out GE619.out) hb); clear hb hbox hg) | ((with_reducible refine gate_callee (f := 28) rfl ?_); refine gl_ (some 8) Try.func28 #[] ?_; (with_reducible refine (L01_awake.calls k  true _ A3.out).mono ?_); rintro e w34 ⟨rfl, hb⟩; refine ⟨_, rfl, ?_⟩; replace BK619 := A_ (bb_ BK619.out hb); replace BK620 := A_ (bb_ BK620.out hb); replace HB := A_ (below_step (hb2_ HB.out GE619.out GE620.out) hb); (try clear hb); (try clear hb2); (try clear hk); (try clear hi)))
      replace BK619 := A_ (blk_drew BK619.out)
      replace BK620 := A_ (blk_drew BK620.out)
      replace HB := A_ (below_drew1 HB.out)
      refine start_ (n := 8) (S := fun w' => w'.cell? ⟨gb619, 0, none⟩ = some (.int .u64 a0_0) ∧ w'.cell? ⟨gb619, 1, none⟩ = some (.int .u64 a0_1) ∧ w'.cell? ⟨gb620, 0, none⟩ = some (.int .u64 a1_0) ∧ w'.cell? ⟨gb620, 1, none⟩ = some (.int .u64 a1_1)) (ds := []) #[false, false, false, false, false, false, false, false] (by kernel_rfl) rfl rfl ⟨bc_ BK619.out 0, bc_ BK619.out 1, bc_ BK620.out 0, bc_ BK620.out 1⟩ (fun hHeld => ?_); refine with_tabW L01_WideSums.tab3 L01_WideSums.bits3 (fun HT_ HW_ => ?_)
      generalize w34.drew = w35 at BK619 BK620 HB hHeld ⊢
      refine tk4_ 0 (some 10) #[true, false, false, false, false, false, false, false] rfl rfl (take_ofW HT_.out HW_.out (by kernel_rfl)) hHeld ?_
      refine tk4_ 2 (some 12) #[true, false, true, false, false, false, false, false] rfl rfl (take_ofW HT_.out HW_.out (by kernel_rfl)) hHeld ?_
      refine join_ (σ := Value × Value × Nat × Nat) 2 #[true, true, true, true, true, true, false, false] (fun s_ => [(11, .agg #[s_.1]), (13, .agg #[s_.2.1]), (5, .pointer (some ⟨s_.2.2.1, 0, none⟩)), (6, .pointer (some ⟨s_.2.2.2, 0, none⟩))]) (fun s_ w' => (w'.cell? ⟨gb619, 0, none⟩ = some (.int .u64 a0_0) ∧ w'.cell? ⟨gb619, 1, none⟩ = some (.int .u64 a0_1) ∧ w'.cell? ⟨gb620, 0, none⟩ = some (.int .u64 a1_0) ∧ w'.cell? ⟨gb620, 1, none⟩ = some (.int .u64 a1_1)) ∧ (Kd.R (Kd.int .u64) 22 w' w.heap.size (fun k_ => some k_ ≠ (s_.2.1 : Value).ownBlock) s_.1 t622) ∧ (Kd.R (Kd.int .u64) 22 w' w.heap.size (fun k_ => some k_ ≠ (s_.1 : Value).ownBlock) s_.2.1 t625) ∧ (w'.heap[gb619]? = some (.cells #[.int .u64 a0_0, .int .u64 a0_1] 50 (0, 0))) ∧ (w'.heap[gb620]? = some (.cells #[.int .u64 a1_0, .int .u64 a1_1] 50 (0, 0))) ∧ (w'.heap[s_.2.2.1]? = some (.cells #[.slice none 0 0] 53 (0, 0))) ∧ (w'.heap[s_.2.2.2]? = some (.cells #[.slice none 0 0] 53 (0, 0))) ∧ (w.heap.size ≤ s_.2.2.1) ∧ (w.heap.size ≤ s_.2.2.1) ∧ (gb619 ≠ s_.2.2.1) ∧ (s_.2.2.1 ≠ gb619) ∧ (gb620 ≠ s_.2.2.1) ∧ (s_.2.2.1 ≠ gb620) ∧ (s_.2.2.2 ≠ s_.2.2.1) ∧ (s_.2.2.1 ≠ s_.2.2.2) ∧ (w.heap.size ≤ s_.2.2.2) ∧ (w.heap.size ≤ s_.2.2.2) ∧ (gb619 ≠ s_.2.2.2) ∧ (s_.2.2.2 ≠ gb619) ∧ (gb620 ≠ s_.2.2.2) ∧ (s_.2.2.2 ≠ gb620) ∧ (Below w.heap.size w w')) ?_ ?_
      rotate_left
      ·intro hJ1_3_4_5
       refine join_ (σ := Value × Value × Nat) 3 #[true, true, true, true, true, false, false, false] (fun s_ => [(11, .agg #[s_.1]), (13, .agg #[s_.2.1]), (5, .pointer (some ⟨s_.2.2, 0, none⟩))]) (fun s_ w' => (w'.cell? ⟨gb619, 0, none⟩ = some (.int .u64 a0_0) ∧ w'.cell? ⟨gb619, 1, none⟩ = some (.int .u64 a0_1) ∧ w'.cell? ⟨gb620, 0, none⟩ = some (.int .u64 a1_0) ∧ w'.cell? ⟨gb620, 1, none⟩ = some (.int .u64 a1_1)) ∧ (Kd.R (Kd.int .u64) 22 w' w.heap.size (fun k_ => some k_ ≠ (s_.2.1 : Value).ownBlock) s_.1 t622) ∧ (Kd.R (Kd.int .u64) 22 w' w.heap.size (fun k_ => some k_ ≠ (s_.1 : Value).ownBlock) s_.2.1 t625) ∧ (w'.heap[gb619]? = some (.cells #[.int .u64 a0_0, .int .u64 a0_1] 50 (0, 0))) ∧ (w'.heap[gb620]? = some (.cells #[.int .u64 a1_0, .int .u64 a1_1] 50 (0, 0))) ∧ (w'.heap[s_.2.2]? = some (.cells #[.slice none 0 0] 53 (0, 0))) ∧ (w.heap.size ≤ s_.2.2) ∧ (w.heap.size ≤ s_.2.2) ∧ (gb619 ≠ s_.2.2) ∧ (s_.2.2 ≠ gb619) ∧ (gb620 ≠ s_.2.2) ∧ (s_.2.2 ≠ gb620) ∧ (Below w.heap.size w w')) ?_ ?_
       rotate_left
       ·intro hJ1_3_4
        refine join_ (σ := Value × Value × Nat) 3 #[true, true, true, true, false, true, false, false] (fun s_ => [(11, .agg #[s_.1]), (13, .agg #[s_.2.1]), (6, .pointer (some ⟨s_.2.2, 0, none⟩))]) (fun s_ w' => (w'.cell? ⟨gb619, 0, none⟩ = some (.int .u64 a0_0) ∧ w'.cell? ⟨gb619, 1, none⟩ = some (.int .u64 a0_1) ∧ w'.cell? ⟨gb620, 0, none⟩ = some (.int .u64 a1_0) ∧ w'.cell? ⟨gb620, 1, none⟩ = some (.int .u64 a1_1)) ∧ (Kd.R (Kd.int .u64) 22 w' w.heap.size (fun k_ => some k_ ≠ (s_.2.1 : Value).ownBlock) s_.1 t622) ∧ (Kd.R (Kd.int .u64) 22 w' w.heap.size (fun k_ => some k_ ≠ (s_.1 : Value).ownBlock) s_.2.1 t625) ∧ (w'.heap[gb619]? = some (.cells #[.int .u64 a0_0, .int .u64 a0_1] 50 (0, 0))) ∧ (w'.heap[gb620]? = some (.cells #[.int .u64 a1_0, .int .u64 a1_1] 50 (0, 0))) ∧ (w'.heap[s_.2.2]? = some (.cells #[.slice none 0 0] 53 (0, 0))) ∧ (w.heap.size ≤ s_.2.2) ∧ (w.heap.size ≤ s_.2.2) ∧ (gb619 ≠ s_.2.2) ∧ (s_.2.2 ≠ gb619) ∧ (gb620 ≠ s_.2.2) ∧ (s_.2.2 ≠ gb620) ∧ (Below w.heap.size w w')) ?_ ?_
        rotate_left
        ·intro hJ1_3_5
         refine join_ (σ := Value × Nat × Nat) 3 #[true, true, true, false, true, true, false, false] (fun s_ => [(11, .agg #[s_.1]), (5, .pointer (some ⟨s_.2.1, 0, none⟩)), (6, .pointer (some ⟨s_.2.2, 0, none⟩))]) (fun s_ w' => (w'.cell? ⟨gb619, 0, none⟩ = some (.int .u64 a0_0) ∧ w'.cell? ⟨gb619, 1, none⟩ = some (.int .u64 a0_1) ∧ w'.cell? ⟨gb620, 0, none⟩ = some (.int .u64 a1_0) ∧ w'.cell? ⟨gb620, 1, none⟩ = some (.int .u64 a1_1)) ∧ (Kd.R (Kd.int .u64) 22 w' w.heap.size (fun _ => True) s_.1 t622) ∧ (w'.heap[gb619]? = some (.cells #[.int .u64 a0_0, .int .u64 a0_1] 50 (0, 0))) ∧ (w'.heap[gb620]? = some (.cells #[.int .u64 a1_0, .int .u64 a1_1] 50 (0, 0))) ∧ (w'.heap[s_.2.1]? = some (.cells #[.slice none 0 0] 53 (0, 0))) ∧ (w'.heap[s_.2.2]? = some (.cells #[.slice none 0 0] 53 (0, 0))) ∧ (w.heap.size ≤ s_.2.1) ∧ (w.heap.size ≤ s_.2.1) ∧ (gb619 ≠ s_.2.1) ∧ (s_.2.1 ≠ gb619) ∧ (gb620 ≠ s_.2.1) ∧ (s_.2.1 ≠ gb620) ∧ (s_.2.2 ≠ s_.2.1) ∧ (s_.2.1 ≠ s_.2.2) ∧ (w.heap.size ≤ s_.2.2) ∧ (w.heap.size ≤ s_.2.2) ∧ (gb619 ≠ s_.2.2) ∧ (s_.2.2 ≠ gb619) ∧ (gb620 ≠ s_.2.2) ∧ (s_.2.2 ≠ gb620) ∧ (Below w.heap.size w w')) ?_ ?_
         rotate_left
         ·intro hJ1_4_5
          refine join_ (σ := Value × Value) 4 #[true, true, true, true, false, false, false, false] (fun s_ => [(11, .agg #[s_.1]), (13, .agg #[s_.2])]) (fun s_ w' => (w'.cell? ⟨gb619, 0, none⟩ = some (.int .u64 a0_0) ∧ w'.cell? ⟨gb619, 1, none⟩ = some (.int .u64 a0_1) ∧ w'.cell? ⟨gb620, 0, none⟩ = some (.int .u64 a1_0) ∧ w'.cell? ⟨gb620, 1, none⟩ = some (.int .u64 a1_1)) ∧ (Kd.R (Kd.int .u64) 22 w' w.heap.size (fun k_ => some k_ ≠ (s_.2 : Value).ownBlock) s_.1 t622) ∧ (Kd.R (Kd.int .u64) 22 w' w.heap.size (fun k_ => some k_ ≠ (s_.1 : Value).ownBlock) s_.2 t625) ∧ (w'.heap[gb619]? = some (.cells #[.int .u64 a0_0, .int .u64 a0_1] 50 (0, 0))) ∧ (w'.heap[gb620]? = some (.cells #[.int .u64 a1_0, .int .u64 a1_1] 50 (0, 0))) ∧ (Below w.heap.size w w')) ?_ ?_
          rotate_left
          ·intro hJ1_3
           refine join_ (σ := Value × Nat) 4 #[true, true, true, false, true, false, false, false] (fun s_ => [(11, .agg #[s_.1]), (5, .pointer (some ⟨s_.2, 0, none⟩))]) (fun s_ w' => (w'.cell? ⟨gb619, 0, none⟩ = some (.int .u64 a0_0) ∧ w'.cell? ⟨gb619, 1, none⟩ = some (.int .u64 a0_1) ∧ w'.cell? ⟨gb620, 0, none⟩ = some (.int .u64 a1_0) ∧ w'.cell? ⟨gb620, 1, none⟩ = some (.int .u64 a1_1)) ∧ (Kd.R (Kd.int .u64) 22 w' w.heap.size (fun _ => True) s_.1 t622) ∧ (w'.heap[gb619]? = some (.cells #[.int .u64 a0_0, .int .u64 a0_1] 50 (0, 0))) ∧ (w'.heap[gb620]? = some (.cells #[.int .u64 a1_0, .int .u64 a1_1] 50 (0, 0))) ∧ (w'.heap[s_.2]? = some (.cells #[.slice none 0 0] 53 (0, 0))) ∧ (w.heap.size ≤ s_.2) ∧ (w.heap.size ≤ s_.2) ∧ (gb619 ≠ s_.2) ∧ (s_.2 ≠ gb619) ∧ (gb620 ≠ s_.2) ∧ (s_.2 ≠ gb620) ∧ (Below w.heap.size w w')) ?_ ?_
           rotate_left
           ·intro hJ1_4
            refine join_ (σ := Value × Nat) 4 #[true, true, true, false, false, true, false, false] (fun s_ => [(11, .agg #[s_.1]), (6, .pointer (some ⟨s_.2, 0, none⟩))]) (fun s_ w' => (w'.cell? ⟨gb619, 0, none⟩ = some (.int .u64 a0_0) ∧ w'.cell? ⟨gb619, 1, none⟩ = some (.int .u64 a0_1) ∧ w'.cell? ⟨gb620, 0, none⟩ = some (.int .u64 a1_0) ∧ w'.cell? ⟨gb620, 1, none⟩ = some (.int .u64 a1_1)) ∧ (Kd.R (Kd.int .u64) 22 w' w.heap.size (fun _ => True) s_.1 t622) ∧ (w'.heap[gb619]? = some (.cells #[.int .u64 a0_0, .int .u64 a0_1] 50 (0, 0))) ∧ (w'.heap[gb620]? = some (.cells #[.int .u64 a1_0, .int .u64 a1_1] 50 (0, 0))) ∧ (w'.heap[s_.2]? = some (.cells #[.slice none 0 0] 53 (0, 0))) ∧ (w.heap.size ≤ s_.2) ∧ (w.heap.size ≤ s_.2) ∧ (gb619 ≠ s_.2) ∧ (s_.2 ≠ gb619) ∧ (gb620 ≠ s_.2) ∧ (s_.2 ≠ gb620) ∧ (Below w.heap.size w w')) ?_ ?_
            rotate_left
            ·intro hJ1_5
             refine join_ (σ := Nat × Nat) 4 #[true, false, true, false, true, true, false, false] (fun s_ => [(5, .pointer (some ⟨s_.1, 0, none⟩)), (6, .pointer (some ⟨s_.2, 0, none⟩))]) (fun s_ w' => (w'.cell? ⟨gb619, 0, none⟩ = some (.int .u64 a0_0) ∧ w'.cell? ⟨gb619, 1, none⟩ = some (.int .u64 a0_1) ∧ w'.cell? ⟨gb620, 0, none⟩ = some (.int .u64 a1_0) ∧ w'.cell? ⟨gb620, 1, none⟩ = some (.int .u64 a1_1)) ∧ (w'.heap[gb619]? = some (.cells #[.int .u64 a0_0, .int .u64 a0_1] 50 (0, 0))) ∧ (w'.heap[gb620]? = some (.cells #[.int .u64 a1_0, .int .u64 a1_1] 50 (0, 0))) ∧ (w'.heap[s_.1]? = some (.cells #[.slice none 0 0] 53 (0, 0))) ∧ (w'.heap[s_.2]? = some (.cells #[.slice none 0 0] 53 (0, 0))) ∧ (w.heap.size ≤ s_.1) ∧ (w.heap.size ≤ s_.1) ∧ (gb619 ≠ s_.1) ∧ (s_.1 ≠ gb619) ∧ (gb620 ≠ s_.1) ∧ (s_.1 ≠ gb620) ∧ (s_.2 ≠ s_.1) ∧ (s_.1 ≠ s_.2) ∧ (w.heap.size ≤ s_.2) ∧ (w.heap.size ≤ s_.2) ∧ (gb619 ≠ s_.2) ∧ (s_.2 ≠ gb619) ∧ (gb620 ≠ s_.2) ∧ (s_.2 ≠ gb620) ∧ (Below w.heap.size w w')) ?_ ?_
             rotate_left
             ·intro hJ4_5
              refine join_ (σ := Value) 5 #[true, true, true, false, false, false, false, false] (fun s_ => [(11, .agg #[s_])]) (fun s_ w' => (w'.cell? ⟨gb619, 0, none⟩ = some (.int .u64 a0_0) ∧ w'.cell? ⟨gb619, 1, none⟩ = some (.int .u64 a0_1) ∧ w'.cell? ⟨gb620, 0, none⟩ = some (.int .u64 a1_0) ∧ w'.cell? ⟨gb620, 1, none⟩ = some (.int .u64 a1_1)) ∧ (Kd.R (Kd.int .u64) 22 w' w.heap.size (fun _ => True) s_ t622) ∧ (w'.heap[gb619]? = some (.cells #[.int .u64 a0_0, .int .u64 a0_1] 50 (0, 0))) ∧ (w'.heap[gb620]? = some (.cells #[.int .u64 a1_0, .int .u64 a1_1] 50 (0, 0))) ∧ (Below w.heap.size w w')) ?_ ?_
              rotate_left
              ·intro hJ1
               refine join_ (σ := Nat) 5 #[true, false, true, false, true, false, false, false] (fun s_ => [(5, .pointer (some ⟨s_, 0, none⟩))]) (fun s_ w' => (w'.cell? ⟨gb619, 0, none⟩ = some (.int .u64 a0_0) ∧ w'.cell? ⟨gb619, 1, none⟩ = some (.int .u64 a0_1) ∧ w'.cell? ⟨gb620, 0, none⟩ = some (.int .u64 a1_0) ∧ w'.cell? ⟨gb620, 1, none⟩ = some (.int .u64 a1_1)) ∧ (w'.heap[gb619]? = some (.cells #[.int .u64 a0_0, .int .u64 a0_1] 50 (0, 0))) ∧ (w'.heap[gb620]? = some (.cells #[.int .u64 a1_0, .int .u64 a1_1] 50 (0, 0))) ∧ (w'.heap[s_]? = some (.cells #[.slice none 0 0] 53 (0, 0))) ∧ (w.heap.size ≤ s_) ∧ (w.heap.size ≤ s_) ∧ (gb619 ≠ s_) ∧ (s_ ≠ gb619) ∧ (gb620 ≠ s_) ∧ (s_ ≠ gb620) ∧ (Below w.heap.size w w')) ?_ ?_
               rotate_left
               ·intro hJ4
                refine join_ (σ := Nat) 5 #[true, false, true, false, false, true, false, false] (fun s_ => [(6, .pointer (some ⟨s_, 0, none⟩))]) (fun s_ w' => (w'.cell? ⟨gb619, 0, none⟩ = some (.int .u64 a0_0) ∧ w'.cell? ⟨gb619, 1, none⟩ = some (.int .u64 a0_1) ∧ w'.cell? ⟨gb620, 0, none⟩ = some (.int .u64 a1_0) ∧ w'.cell? ⟨gb620, 1, none⟩ = some (.int .u64 a1_1)) ∧ (w'.heap[gb619]? = some (.cells #[.int .u64 a0_0, .int .u64 a0_1] 50 (0, 0))) ∧ (w'.heap[gb620]? = some (.cells #[.int .u64 a1_0, .int .u64 a1_1] 50 (0, 0))) ∧ (w'.heap[s_]? = some (.cells #[.slice none 0 0] 53 (0, 0))) ∧ (w.heap.size ≤ s_) ∧ (w.heap.size ≤ s_) ∧ (gb619 ≠ s_) ∧ (s_ ≠ gb619) ∧ (gb620 ≠ s_) ∧ (s_ ≠ gb620) ∧ (Below w.heap.size w w')) ?_ ?_
                rotate_left
                ·intro hJ5
                 refine three_ (i := 1) (j := 4) (k := 5) (Ni := some 11) (Nj := some 5) (Nk := some 6) #[true, true, true, false, false, false, false, false] #[true, false, true, false, true, false, false, false] #[true, false, true, false, false, true, false, false] rfl rfl rfl rfl rfl rfl (three_of HT_.out (by kernel_rfl)) (by decide) (by decide) (by decide) (fun K hK => ?_) (fun K hK => ?_) (fun K hK => ?_)
                 ·skip
                  refine goes_ Try.func29 (by kernel_rfl) rfl #[.agg #[.int .u64 a0_0, .int .u64 a0_1]] (by rfl) rfl rfl mp_ ?_
                  with_reducible refine (L01_Nat.calls k a0_0 a0_1 t622 _ A5.out).mono ?_
                  rintro e w36 ⟨v623, rfl, ho0, hb⟩
                  refine ⟨_, rfl, ?_⟩
                  have HO624 := A_ (Kd.R_lower ho0 (below_size (hb2_ HB.out GE619.out GE620.out)))
                  replace BK619 := A_ (bb_ BK619.out hb)
                  replace BK620 := A_ (bb_ BK620.out hb)
                  replace HB := A_ (below_step (hb2_ HB.out GE619.out GE620.out) hb);(try clear hb);(try clear hb2);(try clear hk);(try clear hi);(try clear ho0)
                  refine hK.out _ _ ⟨bc_ BK619.out 0, bc_ BK619.out 1, bc_ BK620.out 0, bc_ BK620.out 1⟩ (fun hHeld => ?_)
                  clear hK K
                  refine norm_ (a' := ?_) ?_ ?_
                  rotate_left
                  ·show Act.put _ (some 11) _ = _
                   simp only [Act.put, lI_, l0_, lS_, i64_w, i32_w]
                   rfl
                  exact norm_ pa_ (hJ1 (_) _ ⟨hHeld, (kr_ HO624.out), (bk_ BK619.out), (bk_ BK620.out), (hb2_ HB.out GE619.out GE620.out)⟩)
                 ·skip
                  refine box_step ?hg (N := 5) ?hd (cs := #[.slice none 0 0]) (t := 53) ?hr ?_; (case hd => rfl); (case hg => rfl); (case hr => first | (go_simp; done) | (go_simp; rfl))
                  intro gb628 hg w36 hbox hb
                  have BK628 := A_ (hbox)
                  have GW628 := A_ (sz_ hg (hb2_ HB.out GE619.out GE620.out))
                  have GE628 := A_ (sz_ hg (hb2_ HB.out GE619.out GE620.out))
                  have NB619_628 := A_ (nl_ hg BK619.out)
                  have NB628_619 := A_ (ng_ hg BK619.out)
                  have NB620_628 := A_ (nl_ hg BK620.out)
                  have NB628_620 := A_ (ng_ hg BK620.out)
                  replace BK619 := A_ (bb_ BK619.out hb)
                  replace BK620 := A_ (bb_ BK620.out hb)
                  replace HB := A_ (below_step (hb2_ HB.out GE619.out GE620.out) hb);clear hb hbox hg
                  refine hK.out _ _ ⟨bc_ BK619.out 0, bc_ BK619.out 1, bc_ BK620.out 0, bc_ BK620.out 1⟩ (fun hHeld => ?_)
                  clear hK K
                  refine norm_ (a' := ?_) ?_ ?_
                  rotate_left
                  ·show Act.put _ (some 5) _ = _
                   simp only [Act.put, lI_, l0_, lS_, i64_w, i32_w]
                   rfl
                  exact norm_ pa_ (hJ4 (gb628) _ ⟨hHeld, (bk_ BK619.out), (bk_ BK620.out), (bk_ BK628.out), GW628.out, GE628.out, NB619_628.out, NB628_619.out, NB620_628.out, NB628_620.out, (hb3_ HB.out GE619.out GE620.out GE628.out)⟩)
                 ·skip
                  refine box_step ?hg (N := 6) ?hd (cs := #[.slice none 0 0]) (t := 53) ?hr ?_; (case hd => rfl); (case hg => rfl); (case hr => first | (go_simp; done) | (go_simp; rfl))
                  intro gb629 hg w36 hbox hb
                  have BK629 := A_ (hbox)
                  have GW629 := A_ (sz_ hg (hb2_ HB.out GE619.out GE620.out))
                  have GE629 := A_ (sz_ hg (hb2_ HB.out GE619.out GE620.out))
                  have NB619_629 := A_ (nl_ hg BK619.out)
                  have NB629_619 := A_ (ng_ hg BK619.out)
                  have NB620_629 := A_ (nl_ hg BK620.out)
                  have NB629_620 := A_ (ng_ hg BK620.out)
                  replace BK619 := A_ (bb_ BK619.out hb)
                  replace BK620 := A_ (bb_ BK620.out hb)
                  replace HB := A_ (below_step (hb2_ HB.out GE619.out GE620.out) hb);clear hb hbox hg
                  refine hK.out _ _ ⟨bc_ BK619.out 0, bc_ BK619.out 1, bc_ BK620.out 0, bc_ BK620.out 1⟩ (fun hHeld => ?_)
                  clear hK K
                  refine norm_ (a' := ?_) ?_ ?_
                  rotate_left
                  ·show Act.put _ (some 6) _ = _
                   simp only [Act.put, lI_, l0_, lS_, i64_w, i32_w]
                   rfl
                  exact norm_ pa_ (hJ5 (gb629) _ ⟨hHeld, (bk_ BK619.out), (bk_ BK620.out), (bk_ BK629.out), GW629.out, GE629.out, NB619_629.out, NB629_619.out, NB620_629.out, NB629_620.out, (hb3_ HB.out GE619.out GE620.out GE629.out)⟩)
                ·skip
                 rintro gb629 w37 ⟨hS_, h0_, h1_, h2_, h3_, h4_, h5_, h6_, h7_, h8_, h9_⟩
                 have n0_ : Aside0 (w37.heap[gb619]? = some (.cells #[.int .u64 a0_0, .int .u64 a0_1] 50 (0, 0))) := ⟨h0_⟩
                 have n1_ : Aside0 (w37.heap[gb620]? = some (.cells #[.int .u64 a1_0, .int .u64 a1_1] 50 (0, 0))) := ⟨h1_⟩
                 have n2_ : Aside0 (w37.heap[gb629]? = some (.cells #[.slice none 0 0] 53 (0, 0))) := ⟨h2_⟩
                 have n3_ : Aside0 (w.heap.size ≤ gb629) := ⟨h3_⟩
                 have n4_ : Aside0 (w.heap.size ≤ gb629) := ⟨h4_⟩
                 have n5_ : Aside0 (gb619 ≠ gb629) := ⟨h5_⟩
                 have n6_ : Aside0 (gb629 ≠ gb619) := ⟨h6_⟩
                 have n7_ : Aside0 (gb620 ≠ gb629) := ⟨h7_⟩
                 have n8_ : Aside0 (gb629 ≠ gb620) := ⟨h8_⟩
                 have n9_ : Aside0 (Below w.heap.size w w37) := ⟨h9_⟩
                 clear BK619;clear BK620;clear HB;clear h0_ h1_ h2_ h3_ h4_ h5_ h6_ h7_ h8_ h9_;have BK619 := n0_;have BK620 := n1_;have BK629 := n2_;have GW629 := n3_;have GE629 := n4_;have NB619_629 := n5_;have NB629_619 := n6_;have NB620_629 := n7_;have NB629_620 := n8_;have HB := n9_;clear n0_ n1_ n2_ n3_ n4_ n5_ n6_ n7_ n8_ n9_
                 have hHeld : w37.cell? ⟨gb619, 0, none⟩ = some (.int .u64 a0_0) ∧ w37.cell? ⟨gb619, 1, none⟩ = some (.int .u64 a0_1) ∧ w37.cell? ⟨gb620, 0, none⟩ = some (.int .u64 a1_0) ∧ w37.cell? ⟨gb620, 1, none⟩ = some (.int .u64 a1_1) := hS_
                 refine norm_ (a' := ?_) ?_ ?_
                 rotate_left
                 ·simp only [putAll, Act.put, lI_, l0_, lS_]
                  rfl
                 refine two_ (i := 1) (j := 4) (Ni := some 11) (Nj := some 5) #[true, true, true, false, false, true, false, false] #[true, false, true, false, true, true, false, false] rfl rfl rfl rfl (two_of HT_.out (by kernel_rfl)) (by decide) (by decide) (fun K hK => ?_) (fun K hK => ?_)
                 ·skip
                  refine goes_ Try.func29 (by kernel_rfl) rfl #[.agg #[.int .u64 a0_0, .int .u64 a0_1]] (by rfl) rfl rfl mp_ ?_
                  with_reducible refine (L01_Nat.calls k a0_0 a0_1 t622 _ A5.out).mono ?_
                  rintro e w38 ⟨v623, rfl, ho0, hb⟩
                  refine ⟨_, rfl, ?_⟩
                  have HO624 := A_ (Kd.R_lower ho0 (below_size (hb3_ HB.out GE619.out GE620.out GE629.out)))
                  replace BK619 := A_ (bb_ BK619.out hb)
                  replace BK620 := A_ (bb_ BK620.out hb)
                  replace BK629 := A_ (bb_ BK629.out hb)
                  replace HB := A_ (below_step (hb3_ HB.out GE619.out GE620.out GE629.out) hb);(try clear hb);(try clear hb2);(try clear hk);(try clear hi);(try clear ho0)
                  refine hK.out _ _ ⟨bc_ BK619.out 0, bc_ BK619.out 1, bc_ BK620.out 0, bc_ BK620.out 1⟩ (fun hHeld => ?_)
                  clear hK K
                  refine norm_ (a' := ?_) ?_ ?_
                  rotate_left
                  ·show Act.put _ (some 11) _ = _
                   simp only [Act.put, lI_, l0_, lS_, i64_w, i32_w]
                   rfl
                  exact norm_ pa_ (hJ1_5 (_, gb629) _ ⟨hHeld, (kr_ HO624.out), (bk_ BK619.out), (bk_ BK620.out), (bk_ BK629.out), GW629.out, GE629.out, NB619_629.out, NB629_619.out, NB620_629.out, NB629_620.out, (hb3_ HB.out GE619.out GE620.out GE629.out)⟩)
                 ·skip
                  refine box_step ?hg (N := 5) ?hd (cs := #[.slice none 0 0]) (t := 53) ?hr ?_; (case hd => rfl); (case hg => rfl); (case hr => first | (go_simp; done) | (go_simp; rfl))
                  intro gb628 hg w38 hbox hb
                  have BK628 := A_ (hbox)
                  have GW628 := A_ (sz_ hg (hb3_ HB.out GE619.out GE620.out GE629.out))
                  have GE628 := A_ (sz_ hg (hb3_ HB.out GE619.out GE620.out GE629.out))
                  have NB619_628 := A_ (nl_ hg BK619.out)
                  have NB628_619 := A_ (ng_ hg BK619.out)
                  have NB620_628 := A_ (nl_ hg BK620.out)
                  have NB628_620 := A_ (ng_ hg BK620.out)
                  have NB629_628 := A_ (nl_ hg BK629.out)
                  have NB628_629 := A_ (ng_ hg BK629.out)
                  replace BK619 := A_ (bb_ BK619.out hb)
                  replace BK620 := A_ (bb_ BK620.out hb)
                  replace BK629 := A_ (bb_ BK629.out hb)
                  replace HB := A_ (below_step (hb3_ HB.out GE619.out GE620.out GE629.out) hb);clear hb hbox hg
                  refine hK.out _ _ ⟨bc_ BK619.out 0, bc_ BK619.out 1, bc_ BK620.out 0, bc_ BK620.out 1⟩ (fun hHeld => ?_)
                  clear hK K
                  refine norm_ (a' := ?_) ?_ ?_
                  rotate_left
                  ·show Act.put _ (some 5) _ = _
                   simp only [Act.put, lI_, l0_, lS_, i64_w, i32_w]
                   rfl
                  exact norm_ pa_ (hJ4_5 (gb628, gb629) _ ⟨hHeld, (bk_ BK619.out), (bk_ BK620.out), (bk_ BK628.out), (bk_ BK629.out), GW628.out, GE628.out, NB619_628.out, NB628_619.out, NB620_628.out, NB628_620.out, NB629_628.out, NB628_629.out, GW629.out, GE629.out, NB619_629.out, NB629_619.out, NB620_629.out, NB629_620.out, (hb4_ HB.out GE619.out GE620.out GE629.out GE628.out)⟩)
               ·skip
                rintro gb628 w37 ⟨hS_, h0_, h1_, h2_, h3_, h4_, h5_, h6_, h7_, h8_, h9_⟩
                have n0_ : Aside0 (w37.heap[gb619]? = some (.cells #[.int .u64 a0_0, .int .u64 a0_1] 50 (0, 0))) := ⟨h0_⟩
                have n1_ : Aside0 (w37.heap[gb620]? = some (.cells #[.int .u64 a1_0, .int .u64 a1_1] 50 (0, 0))) := ⟨h1_⟩
                have n2_ : Aside0 (w37.heap[gb628]? = some (.cells #[.slice none 0 0] 53 (0, 0))) := ⟨h2_⟩
                have n3_ : Aside0 (w.heap.size ≤ gb628) := ⟨h3_⟩
                have n4_ : Aside0 (w.heap.size ≤ gb628) := ⟨h4_⟩
                have n5_ : Aside0 (gb619 ≠ gb628) := ⟨h5_⟩
                have n6_ : Aside0 (gb628 ≠ gb619) := ⟨h6_⟩
                have n7_ : Aside0 (gb620 ≠ gb628) := ⟨h7_⟩
                have n8_ : Aside0 (gb628 ≠ gb620) := ⟨h8_⟩
                have n9_ : Aside0 (Below w.heap.size w w37) := ⟨h9_⟩
                clear BK619;clear BK620;clear HB;clear h0_ h1_ h2_ h3_ h4_ h5_ h6_ h7_ h8_ h9_;have BK619 := n0_;have BK620 := n1_;have BK628 := n2_;have GW628 := n3_;have GE628 := n4_;have NB619_628 := n5_;have NB628_619 := n6_;have NB620_628 := n7_;have NB628_620 := n8_;have HB := n9_;clear n0_ n1_ n2_ n3_ n4_ n5_ n6_ n7_ n8_ n9_
                have hHeld : w37.cell? ⟨gb619, 0, none⟩ = some (.int .u64 a0_0) ∧ w37.cell? ⟨gb619, 1, none⟩ = some (.int .u64 a0_1) ∧ w37.cell? ⟨gb620, 0, none⟩ = some (.int .u64 a1_0) ∧ w37.cell? ⟨gb620, 1, none⟩ = some (.int .u64 a1_1) := hS_
                refine norm_ (a' := ?_) ?_ ?_
                rotate_left
                ·simp only [putAll, Act.put, lI_, l0_, lS_]
                 rfl
                refine two_ (i := 1) (j := 5) (Ni := some 11) (Nj := some 6) #[true, true, true, false, true, false, false, false] #[true, false, true, false, true, true, false, false] rfl rfl rfl rfl (two_of HT_.out (by kernel_rfl)) (by decide) (by decide) (fun K hK => ?_) (fun K hK => ?_)
                ·skip
                 refine goes_ Try.func29 (by kernel_rfl) rfl #[.agg #[.int .u64 a0_0, .int .u64 a0_1]] (by rfl) rfl rfl mp_ ?_
                 with_reducible refine (L01_Nat.calls k a0_0 a0_1 t622 _ A5.out).mono ?_
                 rintro e w38 ⟨v623, rfl, ho0, hb⟩
                 refine ⟨_, rfl, ?_⟩
                 have HO624 := A_ (Kd.R_lower ho0 (below_size (hb3_ HB.out GE619.out GE620.out GE628.out)))
                 replace BK619 := A_ (bb_ BK619.out hb)
                 replace BK620 := A_ (bb_ BK620.out hb)
                 replace BK628 := A_ (bb_ BK628.out hb)
                 replace HB := A_ (below_step (hb3_ HB.out GE619.out GE620.out GE628.out) hb);(try clear hb);(try clear hb2);(try clear hk);(try clear hi);(try clear ho0)
                 refine hK.out _ _ ⟨bc_ BK619.out 0, bc_ BK619.out 1, bc_ BK620.out 0, bc_ BK620.out 1⟩ (fun hHeld => ?_)
                 clear hK K
                 refine norm_ (a' := ?_) ?_ ?_
                 rotate_left
                 ·show Act.put _ (some 11) _ = _
                  simp only [Act.put, lI_, l0_, lS_, i64_w, i32_w]
                  rfl
                 exact norm_ pa_ (hJ1_4 (_, gb628) _ ⟨hHeld, (kr_ HO624.out), (bk_ BK619.out), (bk_ BK620.out), (bk_ BK628.out), GW628.out, GE628.out, NB619_628.out, NB628_619.out, NB620_628.out, NB628_620.out, (hb3_ HB.out GE619.out GE620.out GE628.out)⟩)
                ·skip
                 refine box_step ?hg (N := 6) ?hd (cs := #[.slice none 0 0]) (t := 53) ?hr ?_; (case hd => rfl); (case hg => rfl); (case hr => first | (go_simp; done) | (go_simp; rfl))
                 intro gb629 hg w38 hbox hb
                 have BK629 := A_ (hbox)
                 have GW629 := A_ (sz_ hg (hb3_ HB.out GE619.out GE620.out GE628.out))
                 have GE629 := A_ (sz_ hg (hb3_ HB.out GE619.out GE620.out GE628.out))
                 have NB619_629 := A_ (nl_ hg BK619.out)
                 have NB629_619 := A_ (ng_ hg BK619.out)
                 have NB620_629 := A_ (nl_ hg BK620.out)
                 have NB629_620 := A_ (ng_ hg BK620.out)
                 have NB628_629 := A_ (nl_ hg BK628.out)
                 have NB629_628 := A_ (ng_ hg BK628.out)
                 replace BK619 := A_ (bb_ BK619.out hb)
                 replace BK620 := A_ (bb_ BK620.out hb)
                 replace BK628 := A_ (bb_ BK628.out hb)
                 replace HB := A_ (below_step (hb3_ HB.out GE619.out GE620.out GE628.out) hb);clear hb hbox hg
                 refine hK.out _ _ ⟨bc_ BK619.out 0, bc_ BK619.out 1, bc_ BK620.out 0, bc_ BK620.out 1⟩ (fun hHeld => ?_)
                 clear hK K
                 refine norm_ (a' := ?_) ?_ ?_
                 rotate_left
                 ·show Act.put _ (some 6) _ = _
                  simp only [Act.put, lI_, l0_, lS_, i64_w, i32_w]
                  rfl
                 exact norm_ pa_ (hJ4_5 (gb628, gb629) _ ⟨hHeld, (bk_ BK619.out), (bk_ BK620.out), (bk_ BK628.out), (bk_ BK629.out), GW628.out, GE628.out, NB619_628.out, NB628_619.out, NB620_628.out, NB628_620.out, NB629_628.out, NB628_629.out, GW629.out, GE629.out, NB619_629.out, NB629_619.out, NB620_629.out, NB629_620.out, (hb4_ HB.out GE619.out GE620.out GE628.out GE629.out)⟩)
              ·skip
               rintro v623 w37 ⟨hS_, h0_, h1_, h2_, h3_⟩
               have n0_ : Aside0 (Kd.R (Kd.int .u64) 22 w37 w.heap.size (fun _ => True) v623 t622) := ⟨h0_⟩
               have n1_ : Aside0 (w37.heap[gb619]? = some (.cells #[.int .u64 a0_0, .int .u64 a0_1] 50 (0, 0))) := ⟨h1_⟩
               have n2_ : Aside0 (w37.heap[gb620]? = some (.cells #[.int .u64 a1_0, .int .u64 a1_1] 50 (0, 0))) := ⟨h2_⟩
               have n3_ : Aside0 (Below w.heap.size w w37) := ⟨h3_⟩
               clear BK619;clear BK620;clear HB;clear h0_ h1_ h2_ h3_;have HO624 := n0_;have BK619 := n1_;have BK620 := n2_;have HB := n3_;clear n0_ n1_ n2_ n3_
               have hHeld : w37.cell? ⟨gb619, 0, none⟩ = some (.int .u64 a0_0) ∧ w37.cell? ⟨gb619, 1, none⟩ = some (.int .u64 a0_1) ∧ w37.cell? ⟨gb620, 0, none⟩ = some (.int .u64 a1_0) ∧ w37.cell? ⟨gb620, 1, none⟩ = some (.int .u64 a1_1) := hS_
               refine norm_ (a' := ?_) ?_ ?_
               rotate_left
               ·simp only [putAll, Act.put, lI_, l0_, lS_]
                rfl
               refine three_ (i := 3) (j := 4) (k := 5) (Ni := some 13) (Nj := some 5) (Nk := some 6) #[true, true, true, true, false, false, false, false] #[true, true, true, false, true, false, false, false] #[true, true, true, false, false, true, false, false] rfl rfl rfl rfl rfl rfl (three_of HT_.out (by kernel_rfl)) (by decide) (by decide) (by decide) (fun K hK => ?_) (fun K hK => ?_) (fun K hK => ?_)
               ·skip
                refine goes_ Try.func29 (by kernel_rfl) rfl #[.agg #[.int .u64 a1_0, .int .u64 a1_1]] (by rfl) rfl rfl mp_ ?_
                with_reducible refine (L01_Nat.calls k a1_0 a1_1 t625 _ A6.out).mono ?_
                rintro e w38 ⟨v626, rfl, ho0, hb⟩
                refine ⟨_, rfl, ?_⟩
                have HO627 := A_ (Kd.R_lower (Kd.R_new' ho0 (Kd.R_lt (kr_ HO624.out))) (below_size (hb2_ HB.out GE619.out GE620.out)))
                replace HO624 := A_ (Kd.R_elder' (kr_ HO624.out) (Kd.R_base ho0) hb)
                replace BK619 := A_ (bb_ BK619.out hb)
                replace BK620 := A_ (bb_ BK620.out hb)
                replace HB := A_ (below_step (hb2_ HB.out GE619.out GE620.out) hb);(try clear hb);(try clear hb2);(try clear hk);(try clear hi);(try clear ho0)
                refine hK.out _ _ ⟨bc_ BK619.out 0, bc_ BK619.out 1, bc_ BK620.out 0, bc_ BK620.out 1⟩ (fun hHeld => ?_)
                clear hK K
                refine norm_ (a' := ?_) ?_ ?_
                rotate_left
                ·show Act.put _ (some 13) _ = _
                 simp only [Act.put, lI_, l0_, lS_, i64_w, i32_w]
                 rfl
                exact norm_ pa_ (hJ1_3 (_, _) _ ⟨hHeld, (by (with_reducible repeat (first | apply Kd.R_alloc | apply Kd.R_drewN | apply Kd.R_drew)); exact Kd.R_mono HO624.out (fun _ hk => hk.2)), (by (with_reducible repeat (first | apply Kd.R_alloc | apply Kd.R_drewN | apply Kd.R_drew)); exact Kd.R_mono HO627.out (fun _ hk => hk.2)), (bk_ BK619.out), (bk_ BK620.out), (hb2_ HB.out GE619.out GE620.out)⟩)
               ·skip
                refine box_step ?hg (N := 5) ?hd (cs := #[.slice none 0 0]) (t := 53) ?hr ?_; (case hd => rfl); (case hg => rfl); (case hr => first | (go_simp; done) | (go_simp; rfl))
                intro gb628 hg w38 hbox hb
                have BK628 := A_ (hbox)
                have GW628 := A_ (sz_ hg (hb2_ HB.out GE619.out GE620.out))
                have GE628 := A_ (sz_ hg (hb2_ HB.out GE619.out GE620.out))
                have NB619_628 := A_ (nl_ hg BK619.out)
                have NB628_619 := A_ (ng_ hg BK619.out)
                have NB620_628 := A_ (nl_ hg BK620.out)
                have NB628_620 := A_ (ng_ hg BK620.out)
                replace HO624 := A_ (Kd.R_below (kr_ HO624.out) hb)
                replace BK619 := A_ (bb_ BK619.out hb)
                replace BK620 := A_ (bb_ BK620.out hb)
                replace HB := A_ (below_step (hb2_ HB.out GE619.out GE620.out) hb);clear hb hbox hg
                refine hK.out _ _ ⟨bc_ BK619.out 0, bc_ BK619.out 1, bc_ BK620.out 0, bc_ BK620.out 1⟩ (fun hHeld => ?_)
                clear hK K
                refine norm_ (a' := ?_) ?_ ?_
                rotate_left
                ·show Act.put _ (some 5) _ = _
                 simp only [Act.put, lI_, l0_, lS_, i64_w, i32_w]
                 rfl
                exact norm_ pa_ (hJ1_4 (_, gb628) _ ⟨hHeld, (kr_ HO624.out), (bk_ BK619.out), (bk_ BK620.out), (bk_ BK628.out), GW628.out, GE628.out, NB619_628.out, NB628_619.out, NB620_628.out, NB628_620.out, (hb3_ HB.out GE619.out GE620.out GE628.out)⟩)
               ·skip
                refine box_step ?hg (N := 6) ?hd (cs := #[.slice none 0 0]) (t := 53) ?hr ?_; (case hd => rfl); (case hg => rfl); (case hr => first | (go_simp; done) | (go_simp; rfl))
                intro gb629 hg w38 hbox hb
                have BK629 := A_ (hbox)
                have GW629 := A_ (sz_ hg (hb2_ HB.out GE619.out GE620.out))
                have GE629 := A_ (sz_ hg (hb2_ HB.out GE619.out GE620.out))
                have NB619_629 := A_ (nl_ hg BK619.out)
                have NB629_619 := A_ (ng_ hg BK619.out)
                have NB620_629 := A_ (nl_ hg BK620.out)
                have NB629_620 := A_ (ng_ hg BK620.out)
                replace HO624 := A_ (Kd.R_below (kr_ HO624.out) hb)
                replace BK619 := A_ (bb_ BK619.out hb)
                replace BK620 := A_ (bb_ BK620.out hb)
                replace HB := A_ (below_step (hb2_ HB.out GE619.out GE620.out) hb);clear hb hbox hg
                refine hK.out _ _ ⟨bc_ BK619.out 0, bc_ BK619.out 1, bc_ BK620.out 0, bc_ BK620.out 1⟩ (fun hHeld => ?_)
                clear hK K
                refine norm_ (a' := ?_) ?_ ?_
                rotate_left
                ·show Act.put _ (some 6) _ = _
                 simp only [Act.put, lI_, l0_, lS_, i64_w, i32_w]
                 rfl
                exact norm_ pa_ (hJ1_5 (_, gb629) _ ⟨hHeld, (kr_ HO624.out), (bk_ BK619.out), (bk_ BK620.out), (bk_ BK629.out), GW629.out, GE629.out, NB619_629.out, NB629_619.out, NB620_629.out, NB629_620.out, (hb3_ HB.out GE619.out GE620.out GE629.out)⟩)
             ·skip
              rintro ⟨gb628, gb629⟩ w38 ⟨hS_, h0_, h1_, h2_, h3_, h4_, h5_, h6_, h7_, h8_, h9_, h10_, h11_, h12_, h13_, h14_, h15_, h16_, h17_, h18_⟩
              have n0_ : Aside0 (w38.heap[gb619]? = some (.cells #[.int .u64 a0_0, .int .u64 a0_1] 50 (0, 0))) := ⟨h0_⟩
              have n1_ : Aside0 (w38.heap[gb620]? = some (.cells #[.int .u64 a1_0, .int .u64 a1_1] 50 (0, 0))) := ⟨h1_⟩
              have n2_ : Aside0 (w38.heap[gb628]? = some (.cells #[.slice none 0 0] 53 (0, 0))) := ⟨h2_⟩
              have n3_ : Aside0 (w38.heap[gb629]? = some (.cells #[.slice none 0 0] 53 (0, 0))) := ⟨h3_⟩
              have n4_ : Aside0 (w.heap.size ≤ gb628) := ⟨h4_⟩
              have n5_ : Aside0 (w.heap.size ≤ gb628) := ⟨h5_⟩
              have n6_ : Aside0 (gb619 ≠ gb628) := ⟨h6_⟩
              have n7_ : Aside0 (gb628 ≠ gb619) := ⟨h7_⟩
              have n8_ : Aside0 (gb620 ≠ gb628) := ⟨h8_⟩
              have n9_ : Aside0 (gb628 ≠ gb620) := ⟨h9_⟩
              have n10_ : Aside0 (gb629 ≠ gb628) := ⟨h10_⟩
              have n11_ : Aside0 (gb628 ≠ gb629) := ⟨h11_⟩
              have n12_ : Aside0 (w.heap.size ≤ gb629) := ⟨h12_⟩
              have n13_ : Aside0 (w.heap.size ≤ gb629) := ⟨h13_⟩
              have n14_ : Aside0 (gb619 ≠ gb629) := ⟨h14_⟩
              have n15_ : Aside0 (gb629 ≠ gb619) := ⟨h15_⟩
              have n16_ : Aside0 (gb620 ≠ gb629) := ⟨h16_⟩
              have n17_ : Aside0 (gb629 ≠ gb620) := ⟨h17_⟩
              have n18_ : Aside0 (Below w.heap.size w w38) := ⟨h18_⟩
              clear BK619;clear BK620;clear HB;clear h0_ h1_ h2_ h3_ h4_ h5_ h6_ h7_ h8_ h9_ h10_ h11_ h12_ h13_ h14_ h15_ h16_ h17_ h18_;have BK619 := n0_;have BK620 := n1_;have BK628 := n2_;have BK629 := n3_;have GW628 := n4_;have GE628 := n5_;have NB619_628 := n6_;have NB628_619 := n7_;have NB620_628 := n8_;have NB628_620 := n9_;have NB629_628 := n10_;have NB628_629 := n11_;have GW629 := n12_;have GE629 := n13_;have NB619_629 := n14_;have NB629_619 := n15_;have NB620_629 := n16_;have NB629_620 := n17_;have HB := n18_;clear n0_ n1_ n2_ n3_ n4_ n5_ n6_ n7_ n8_ n9_ n10_ n11_ n12_ n13_ n14_ n15_ n16_ n17_ n18_
              have hHeld : w38.cell? ⟨gb619, 0, none⟩ = some (.int .u64 a0_0) ∧ w38.cell? ⟨gb619, 1, none⟩ = some (.int .u64 a0_1) ∧ w38.cell? ⟨gb620, 0, none⟩ = some (.int .u64 a1_0) ∧ w38.cell? ⟨gb620, 1, none⟩ = some (.int .u64 a1_1) := hS_
              refine norm_ (a' := ?_) ?_ ?_
              rotate_left
              ·simp only [putAll, Act.put, lI_, l0_, lS_]
               rfl
              refine one_ (i := 1) (N := some 11) #[true, true, true, false, true, true, false, false] rfl rfl (one_of HT_.out (by kernel_rfl)) (by decide) (fun K hK => ?_)
              refine goes_ Try.func29 (by kernel_rfl) rfl #[.agg #[.int .u64 a0_0, .int .u64 a0_1]] (by rfl) rfl rfl mp_ ?_
              with_reducible refine (L01_Nat.calls k a0_0 a0_1 t622 _ A5.out).mono ?_
              rintro e w39 ⟨v623, rfl, ho0, hb⟩
              refine ⟨_, rfl, ?_⟩
              have HO624 := A_ (Kd.R_lower ho0 (below_size (hb4_ HB.out GE619.out GE620.out GE628.out GE629.out)))
              replace BK619 := A_ (bb_ BK619.out hb)
              replace BK620 := A_ (bb_ BK620.out hb)
              replace BK628 := A_ (bb_ BK628.out hb)
              replace BK629 := A_ (bb_ BK629.out hb)
              replace HB := A_ (below_step (hb4_ HB.out GE619.out GE620.out GE628.out GE629.out) hb);(try clear hb);(try clear hb2);(try clear hk);(try clear hi);(try clear ho0)
              refine hK.out _ _ ⟨bc_ BK619.out 0, bc_ BK619.out 1, bc_ BK620.out 0, bc_ BK620.out 1⟩ (fun hHeld => ?_)
              clear hK K
              refine norm_ (a' := ?_) ?_ ?_
              rotate_left
              ·show Act.put _ (some 11) _ = _
               simp only [Act.put, lI_, l0_, lS_, i64_w, i32_w]
               rfl
              exact norm_ pa_ (hJ1_4_5 (_, gb628, gb629) _ ⟨hHeld, (kr_ HO624.out), (bk_ BK619.out), (bk_ BK620.out), (bk_ BK628.out), (bk_ BK629.out), GW628.out, GE628.out, NB619_628.out, NB628_619.out, NB620_628.out, NB628_620.out, NB629_628.out, NB628_629.out, GW629.out, GE629.out, NB619_629.out, NB629_619.out, NB620_629.out, NB629_620.out, (hb4_ HB.out GE619.out GE620.out GE628.out GE629.out)⟩)
            ·skip
             rintro ⟨v623, gb629⟩ w38 ⟨hS_, h0_, h1_, h2_, h3_, h4_, h5_, h6_, h7_, h8_, h9_, h10_⟩
             have n0_ : Aside0 (Kd.R (Kd.int .u64) 22 w38 w.heap.size (fun _ => True) v623 t622) := ⟨h0_⟩
             have n1_ : Aside0 (w38.heap[gb619]? = some (.cells #[.int .u64 a0_0, .int .u64 a0_1] 50 (0, 0))) := ⟨h1_⟩
             have n2_ : Aside0 (w38.heap[gb620]? = some (.cells #[.int .u64 a1_0, .int .u64 a1_1] 50 (0, 0))) := ⟨h2_⟩
             have n3_ : Aside0 (w38.heap[gb629]? = some (.cells #[.slice none 0 0] 53 (0, 0))) := ⟨h3_⟩
             have n4_ : Aside0 (w.heap.size ≤ gb629) := ⟨h4_⟩
             have n5_ : Aside0 (w.heap.size ≤ gb629) := ⟨h5_⟩
             have n6_ : Aside0 (gb619 ≠ gb629) := ⟨h6_⟩
             have n7_ : Aside0 (gb629 ≠ gb619) := ⟨h7_⟩
             have n8_ : Aside0 (gb620 ≠ gb629) := ⟨h8_⟩
             have n9_ : Aside0 (gb629 ≠ gb620) := ⟨h9_⟩
             have n10_ : Aside0 (Below w.heap.size w w38) := ⟨h10_⟩
             clear BK619;clear BK620;clear HB;clear h0_ h1_ h2_ h3_ h4_ h5_ h6_ h7_ h8_ h9_ h10_;have HO624 := n0_;have BK619 := n1_;have BK620 := n2_;have BK629 := n3_;have GW629 := n4_;have GE629 := n5_;have NB619_629 := n6_;have NB629_619 := n7_;have NB620_629 := n8_;have NB629_620 := n9_;have HB := n10_;clear n0_ n1_ n2_ n3_ n4_ n5_ n6_ n7_ n8_ n9_ n10_
             have hHeld : w38.cell? ⟨gb619, 0, none⟩ = some (.int .u64 a0_0) ∧ w38.cell? ⟨gb619, 1, none⟩ = some (.int .u64 a0_1) ∧ w38.cell? ⟨gb620, 0, none⟩ = some (.int .u64 a1_0) ∧ w38.cell? ⟨gb620, 1, none⟩ = some (.int .u64 a1_1) := hS_
             refine norm_ (a' := ?_) ?_ ?_
             rotate_left
             ·simp only [putAll, Act.put, lI_, l0_, lS_]
              rfl
             refine two_ (i := 3) (j := 4) (Ni := some 13) (Nj := some 5) #[true, true, true, true, false, true, false, false] #[true, true, true, false, true, true, false, false] rfl rfl rfl rfl (two_of HT_.out (by kernel_rfl)) (by decide) (by decide) (fun K hK => ?_) (fun K hK => ?_)
             ·skip
              refine goes_ Try.func29 (by kernel_rfl) rfl #[.agg #[.int .u64 a1_0, .int .u64 a1_1]] (by rfl) rfl rfl mp_ ?_
              with_reducible refine (L01_Nat.calls k a1_0 a1_1 t625 _ A6.out).mono ?_
              rintro e w39 ⟨v626, rfl, ho0, hb⟩
              refine ⟨_, rfl, ?_⟩
              have HO627 := A_ (Kd.R_lower (Kd.R_new' ho0 (Kd.R_lt (kr_ HO624.out))) (below_size (hb3_ HB.out GE619.out GE620.out GE629.out)))
              replace HO624 := A_ (Kd.R_elder' (kr_ HO624.out) (Kd.R_base ho0) hb)
              replace BK619 := A_ (bb_ BK619.out hb)
              replace BK620 := A_ (bb_ BK620.out hb)
              replace BK629 := A_ (bb_ BK629.out hb)
              replace HB := A_ (below_step (hb3_ HB.out GE619.out GE620.out GE629.out) hb);(try clear hb);(try clear hb2);(try clear hk);(try clear hi);(try clear ho0)
              refine hK.out _ _ ⟨bc_ BK619.out 0, bc_ BK619.out 1, bc_ BK620.out 0, bc_ BK620.out 1⟩ (fun hHeld => ?_)
              clear hK K
              refine norm_ (a' := ?_) ?_ ?_
              rotate_left
              ·show Act.put _ (some 13) _ = _
               simp only [Act.put, lI_, l0_, lS_, i64_w, i32_w]
               rfl
              exact norm_ pa_ (hJ1_3_5 (_, _, gb629) _ ⟨hHeld, (by (with_reducible repeat (first | apply Kd.R_alloc | apply Kd.R_drewN | apply Kd.R_drew)); exact Kd.R_mono HO624.out (fun _ hk => hk.2)), (by (with_reducible repeat (first | apply Kd.R_alloc | apply Kd.R_drewN | apply Kd.R_drew)); exact Kd.R_mono HO627.out (fun _ hk => hk.2)), (bk_ BK619.out), (bk_ BK620.out), (bk_ BK629.out), GW629.out, GE629.out, NB619_629.out, NB629_619.out, NB620_629.out, NB629_620.out, (hb3_ HB.out GE619.out GE620.out GE629.out)⟩)
             ·skip
              refine box_step ?hg (N := 5) ?hd (cs := #[.slice none 0 0]) (t := 53) ?hr ?_; (case hd => rfl); (case hg => rfl); (case hr => first | (go_simp; done) | (go_simp; rfl))
              intro gb628 hg w39 hbox hb
              have BK628 := A_ (hbox)
              have GW628 := A_ (sz_ hg (hb3_ HB.out GE619.out GE620.out GE629.out))
              have GE628 := A_ (sz_ hg (hb3_ HB.out GE619.out GE620.out GE629.out))
              have NB619_628 := A_ (nl_ hg BK619.out)
              have NB628_619 := A_ (ng_ hg BK619.out)
              have NB620_628 := A_ (nl_ hg BK620.out)
              have NB628_620 := A_ (ng_ hg BK620.out)
              have NB629_628 := A_ (nl_ hg BK629.out)
              have NB628_629 := A_ (ng_ hg BK629.out)
              replace HO624 := A_ (Kd.R_below (kr_ HO624.out) hb)
              replace BK619 := A_ (bb_ BK619.out hb)
              replace BK620 := A_ (bb_ BK620.out hb)
              replace BK629 := A_ (bb_ BK629.out hb)
              replace HB := A_ (below_step (hb3_ HB.out GE619.out GE620.out GE629.out) hb);clear hb hbox hg
              refine hK.out _ _ ⟨bc_ BK619.out 0, bc_ BK619.out 1, bc_ BK620.out 0, bc_ BK620.out 1⟩ (fun hHeld => ?_)
              clear hK K
              refine norm_ (a' := ?_) ?_ ?_
              rotate_left
              ·show Act.put _ (some 5) _ = _
               simp only [Act.put, lI_, l0_, lS_, i64_w, i32_w]
               rfl
              exact norm_ pa_ (hJ1_4_5 (_, gb628, gb629) _ ⟨hHeld, (kr_ HO624.out), (bk_ BK619.out), (bk_ BK620.out), (bk_ BK628.out), (bk_ BK629.out), GW628.out, GE628.out, NB619_628.out, NB628_619.out, NB620_628.out, NB628_620.out, NB629_628.out, NB628_629.out, GW629.out, GE629.out, NB619_629.out, NB629_619.out, NB620_629.out, NB629_620.out, (hb4_ HB.out GE619.out GE620.out GE629.out GE628.out)⟩)
           ·skip
            rintro ⟨v623, gb628⟩ w38 ⟨hS_, h0_, h1_, h2_, h3_, h4_, h5_, h6_, h7_, h8_, h9_, h10_⟩
            have n0_ : Aside0 (Kd.R (Kd.int .u64) 22 w38 w.heap.size (fun _ => True) v623 t622) := ⟨h0_⟩
            have n1_ : Aside0 (w38.heap[gb619]? = some (.cells #[.int .u64 a0_0, .int .u64 a0_1] 50 (0, 0))) := ⟨h1_⟩
            have n2_ : Aside0 (w38.heap[gb620]? = some (.cells #[.int .u64 a1_0, .int .u64 a1_1] 50 (0, 0))) := ⟨h2_⟩
            have n3_ : Aside0 (w38.heap[gb628]? = some (.cells #[.slice none 0 0] 53 (0, 0))) := ⟨h3_⟩
            have n4_ : Aside0 (w.heap.size ≤ gb628) := ⟨h4_⟩
            have n5_ : Aside0 (w.heap.size ≤ gb628) := ⟨h5_⟩
            have n6_ : Aside0 (gb619 ≠ gb628) := ⟨h6_⟩
            have n7_ : Aside0 (gb628 ≠ gb619) := ⟨h7_⟩
            have n8_ : Aside0 (gb620 ≠ gb628) := ⟨h8_⟩
            have n9_ : Aside0 (gb628 ≠ gb620) := ⟨h9_⟩
            have n10_ : Aside0 (Below w.heap.size w w38) := ⟨h10_⟩
            clear BK619;clear BK620;clear HB;clear h0_ h1_ h2_ h3_ h4_ h5_ h6_ h7_ h8_ h9_ h10_;have HO624 := n0_;have BK619 := n1_;have BK620 := n2_;have BK628 := n3_;have GW628 := n4_;have GE628 := n5_;have NB619_628 := n6_;have NB628_619 := n7_;have NB620_628 := n8_;have NB628_620 := n9_;have HB := n10_;clear n0_ n1_ n2_ n3_ n4_ n5_ n6_ n7_ n8_ n9_ n10_
            have hHeld : w38.cell? ⟨gb619, 0, none⟩ = some (.int .u64 a0_0) ∧ w38.cell? ⟨gb619, 1, none⟩ = some (.int .u64 a0_1) ∧ w38.cell? ⟨gb620, 0, none⟩ = some (.int .u64 a1_0) ∧ w38.cell? ⟨gb620, 1, none⟩ = some (.int .u64 a1_1) := hS_
            refine norm_ (a' := ?_) ?_ ?_
            rotate_left
            ·simp only [putAll, Act.put, lI_, l0_, lS_]
             rfl
            refine two_ (i := 3) (j := 5) (Ni := some 13) (Nj := some 6) #[true, true, true, true, true, false, false, false] #[true, true, true, false, true, true, false, false] rfl rfl rfl rfl (two_of HT_.out (by kernel_rfl)) (by decide) (by decide) (fun K hK => ?_) (fun K hK => ?_)
            ·skip
             refine goes_ Try.func29 (by kernel_rfl) rfl #[.agg #[.int .u64 a1_0, .int .u64 a1_1]] (by rfl) rfl rfl mp_ ?_
             with_reducible refine (L01_Nat.calls k a1_0 a1_1 t625 _ A6.out).mono ?_
             rintro e w39 ⟨v626, rfl, ho0, hb⟩
             refine ⟨_, rfl, ?_⟩
             have HO627 := A_ (Kd.R_lower (Kd.R_new' ho0 (Kd.R_lt (kr_ HO624.out))) (below_size (hb3_ HB.out GE619.out GE620.out GE628.out)))
             replace HO624 := A_ (Kd.R_elder' (kr_ HO624.out) (Kd.R_base ho0) hb)
             replace BK619 := A_ (bb_ BK619.out hb)
             replace BK620 := A_ (bb_ BK620.out hb)
             replace BK628 := A_ (bb_ BK628.out hb)
             replace HB := A_ (below_step (hb3_ HB.out GE619.out GE620.out GE628.out) hb);(try clear hb);(try clear hb2);(try clear hk);(try clear hi);(try clear ho0)
             refine hK.out _ _ ⟨bc_ BK619.out 0, bc_ BK619.out 1, bc_ BK620.out 0, bc_ BK620.out 1⟩ (fun hHeld => ?_)
             clear hK K
             refine norm_ (a' := ?_) ?_ ?_
             rotate_left
             ·show Act.put _ (some 13) _ = _
              simp only [Act.put, lI_, l0_, lS_, i64_w, i32_w]
              rfl
             exact norm_ pa_ (hJ1_3_4 (_, _, gb628) _ ⟨hHeld, (by (with_reducible repeat (first | apply Kd.R_alloc | apply Kd.R_drewN | apply Kd.R_drew)); exact Kd.R_mono HO624.out (fun _ hk => hk.2)), (by (with_reducible repeat (first | apply Kd.R_alloc | apply Kd.R_drewN | apply Kd.R_drew)); exact Kd.R_mono HO627.out (fun _ hk => hk.2)), (bk_ BK619.out), (bk_ BK620.out), (bk_ BK628.out), GW628.out, GE628.out, NB619_628.out, NB628_619.out, NB620_628.out, NB628_620.out, (hb3_ HB.out GE619.out GE620.out GE628.out)⟩)
            ·skip
             refine box_step ?hg (N := 6) ?hd (cs := #[.slice none 0 0]) (t := 53) ?hr ?_; (case hd => rfl); (case hg => rfl); (case hr => first | (go_simp; done) | (go_simp; rfl))
             intro gb629 hg w39 hbox hb
             have BK629 := A_ (hbox)
             have GW629 := A_ (sz_ hg (hb3_ HB.out GE619.out GE620.out GE628.out))
             have GE629 := A_ (sz_ hg (hb3_ HB.out GE619.out GE620.out GE628.out))
             have NB619_629 := A_ (nl_ hg BK619.out)
             have NB629_619 := A_ (ng_ hg BK619.out)
             have NB620_629 := A_ (nl_ hg BK620.out)
             have NB629_620 := A_ (ng_ hg BK620.out)
             have NB628_629 := A_ (nl_ hg BK628.out)
             have NB629_628 := A_ (ng_ hg BK628.out)
             replace HO624 := A_ (Kd.R_below (kr_ HO624.out) hb)
             replace BK619 := A_ (bb_ BK619.out hb)
             replace BK620 := A_ (bb_ BK620.out hb)
             replace BK628 := A_ (bb_ BK628.out hb)
             replace HB := A_ (below_step (hb3_ HB.out GE619.out GE620.out GE628.out) hb);clear hb hbox hg
             refine hK.out _ _ ⟨bc_ BK619.out 0, bc_ BK619.out 1, bc_ BK620.out 0, bc_ BK620.out 1⟩ (fun hHeld => ?_)
             clear hK K
             refine norm_ (a' := ?_) ?_ ?_
             rotate_left
             ·show Act.put _ (some 6) _ = _
              simp only [Act.put, lI_, l0_, lS_, i64_w, i32_w]
              rfl
             exact norm_ pa_ (hJ1_4_5 (_, gb628, gb629) _ ⟨hHeld, (kr_ HO624.out), (bk_ BK619.out), (bk_ BK620.out), (bk_ BK628.out), (bk_ BK629.out), GW628.out, GE628.out, NB619_628.out, NB628_619.out, NB620_628.out, NB628_620.out, NB629_628.out, NB628_629.out, GW629.out, GE629.out, NB619_629.out, NB629_619.out, NB620_629.out, NB629_620.out, (hb4_ HB.out GE619.out GE620.out GE628.out GE629.out)⟩)
          ·skip
           rintro ⟨v623, v626⟩ w38 ⟨hS_, h0_, h1_, h2_, h3_, h4_⟩
           have n0_ : Aside0 (Kd.R (Kd.int .u64) 22 w38 w.heap.size (fun k_ => some k_ ≠ (v626 : Value).ownBlock) v623 t622) := ⟨h0_⟩
           have n1_ : Aside0 (Kd.R (Kd.int .u64) 22 w38 w.heap.size (fun k_ => some k_ ≠ (v623 : Value).ownBlock) v626 t625) := ⟨h1_⟩
           have n2_ : Aside0 (w38.heap[gb619]? = some (.cells #[.int .u64 a0_0, .int .u64 a0_1] 50 (0, 0))) := ⟨h2_⟩
           have n3_ : Aside0 (w38.heap[gb620]? = some (.cells #[.int .u64 a1_0, .int .u64 a1_1] 50 (0, 0))) := ⟨h3_⟩
           have n4_ : Aside0 (Below w.heap.size w w38) := ⟨h4_⟩
           clear BK619;clear BK620;clear HB;clear h0_ h1_ h2_ h3_ h4_;have HO624 := n0_;have HO627 := n1_;have BK619 := n2_;have BK620 := n3_;have HB := n4_;clear n0_ n1_ n2_ n3_ n4_
           have hHeld : w38.cell? ⟨gb619, 0, none⟩ = some (.int .u64 a0_0) ∧ w38.cell? ⟨gb619, 1, none⟩ = some (.int .u64 a0_1) ∧ w38.cell? ⟨gb620, 0, none⟩ = some (.int .u64 a1_0) ∧ w38.cell? ⟨gb620, 1, none⟩ = some (.int .u64 a1_1) := hS_
           refine norm_ (a' := ?_) ?_ ?_
           rotate_left
           ·simp only [putAll, Act.put, lI_, l0_, lS_]
            rfl
           refine two_ (i := 4) (j := 5) (Ni := some 5) (Nj := some 6) #[true, true, true, true, true, false, false, false] #[true, true, true, true, false, true, false, false] rfl rfl rfl rfl (two_of HT_.out (by kernel_rfl)) (by decide) (by decide) (fun K hK => ?_) (fun K hK => ?_)
           ·skip
            refine box_step ?hg (N := 5) ?hd (cs := #[.slice none 0 0]) (t := 53) ?hr ?_; (case hd => rfl); (case hg => rfl); (case hr => first | (go_simp; done) | (go_simp; rfl))
            intro gb628 hg w39 hbox hb
            have BK628 := A_ (hbox)
            have GW628 := A_ (sz_ hg (hb2_ HB.out GE619.out GE620.out))
            have GE628 := A_ (sz_ hg (hb2_ HB.out GE619.out GE620.out))
            have NB619_628 := A_ (nl_ hg BK619.out)
            have NB628_619 := A_ (ng_ hg BK619.out)
            have NB620_628 := A_ (nl_ hg BK620.out)
            have NB628_620 := A_ (ng_ hg BK620.out)
            replace HO624 := A_ (Kd.R_below (kr_ HO624.out) hb)
            replace HO627 := A_ (Kd.R_below (kr_ HO627.out) hb)
            replace BK619 := A_ (bb_ BK619.out hb)
            replace BK620 := A_ (bb_ BK620.out hb)
            replace HB := A_ (below_step (hb2_ HB.out GE619.out GE620.out) hb);clear hb hbox hg
            refine hK.out _ _ ⟨bc_ BK619.out 0, bc_ BK619.out 1, bc_ BK620.out 0, bc_ BK620.out 1⟩ (fun hHeld => ?_)
            clear hK K
            refine norm_ (a' := ?_) ?_ ?_
            rotate_left
            ·show Act.put _ (some 5) _ = _
             simp only [Act.put, lI_, l0_, lS_, i64_w, i32_w]
             rfl
            exact norm_ pa_ (hJ1_3_4 (_, _, gb628) _ ⟨hHeld, (kr_ HO624.out), (kr_ HO627.out), (bk_ BK619.out), (bk_ BK620.out), (bk_ BK628.out), GW628.out, GE628.out, NB619_628.out, NB628_619.out, NB620_628.out, NB628_620.out, (hb3_ HB.out GE619.out GE620.out GE628.out)⟩)
           ·skip
            refine box_step ?hg (N := 6) ?hd (cs := #[.slice none 0 0]) (t := 53) ?hr ?_; (case hd => rfl); (case hg => rfl); (case hr => first | (go_simp; done) | (go_simp; rfl))
            intro gb629 hg w39 hbox hb
            have BK629 := A_ (hbox)
            have GW629 := A_ (sz_ hg (hb2_ HB.out GE619.out GE620.out))
            have GE629 := A_ (sz_ hg (hb2_ HB.out GE619.out GE620.out))
            have NB619_629 := A_ (nl_ hg BK619.out)
            have NB629_619 := A_ (ng_ hg BK619.out)
            have NB620_629 := A_ (nl_ hg BK620.out)
            have NB629_620 := A_ (ng_ hg BK620.out)
            replace HO624 := A_ (Kd.R_below (kr_ HO624.out) hb)
            replace HO627 := A_ (Kd.R_below (kr_ HO627.out) hb)
            replace BK619 := A_ (bb_ BK619.out hb)
            replace BK620 := A_ (bb_ BK620.out hb)
            replace HB := A_ (below_step (hb2_ HB.out GE619.out GE620.out) hb);clear hb hbox hg
            refine hK.out _ _ ⟨bc_ BK619.out 0, bc_ BK619.out 1, bc_ BK620.out 0, bc_ BK620.out 1⟩ (fun hHeld => ?_)
            clear hK K
            refine norm_ (a' := ?_) ?_ ?_
            rotate_left
            ·show Act.put _ (some 6) _ = _
             simp only [Act.put, lI_, l0_, lS_, i64_w, i32_w]
             rfl
            exact norm_ pa_ (hJ1_3_5 (_, _, gb629) _ ⟨hHeld, (kr_ HO624.out), (kr_ HO627.out), (bk_ BK619.out), (bk_ BK620.out), (bk_ BK629.out), GW629.out, GE629.out, NB619_629.out, NB629_619.out, NB620_629.out, NB629_620.out, (hb3_ HB.out GE619.out GE620.out GE629.out)⟩)
         ·skip
          rintro ⟨v623, gb628, gb629⟩ w39 ⟨hS_, h0_, h1_, h2_, h3_, h4_, h5_, h6_, h7_, h8_, h9_, h10_, h11_, h12_, h13_, h14_, h15_, h16_, h17_, h18_, h19_⟩
          have n0_ : Aside0 (Kd.R (Kd.int .u64) 22 w39 w.heap.size (fun _ => True) v623 t622) := ⟨h0_⟩
          have n1_ : Aside0 (w39.heap[gb619]? = some (.cells #[.int .u64 a0_0, .int .u64 a0_1] 50 (0, 0))) := ⟨h1_⟩
          have n2_ : Aside0 (w39.heap[gb620]? = some (.cells #[.int .u64 a1_0, .int .u64 a1_1] 50 (0, 0))) := ⟨h2_⟩
          have n3_ : Aside0 (w39.heap[gb628]? = some (.cells #[.slice none 0 0] 53 (0, 0))) := ⟨h3_⟩
          have n4_ : Aside0 (w39.heap[gb629]? = some (.cells #[.slice none 0 0] 53 (0, 0))) := ⟨h4_⟩
          have n5_ : Aside0 (w.heap.size ≤ gb628) := ⟨h5_⟩
          have n6_ : Aside0 (w.heap.size ≤ gb628) := ⟨h6_⟩
          have n7_ : Aside0 (gb619 ≠ gb628) := ⟨h7_⟩
          have n8_ : Aside0 (gb628 ≠ gb619) := ⟨h8_⟩
          have n9_ : Aside0 (gb620 ≠ gb628) := ⟨h9_⟩
          have n10_ : Aside0 (gb628 ≠ gb620) := ⟨h10_⟩
          have n11_ : Aside0 (gb629 ≠ gb628) := ⟨h11_⟩
          have n12_ : Aside0 (gb628 ≠ gb629) := ⟨h12_⟩
          have n13_ : Aside0 (w.heap.size ≤ gb629) := ⟨h13_⟩
          have n14_ : Aside0 (w.heap.size ≤ gb629) := ⟨h14_⟩
          have n15_ : Aside0 (gb619 ≠ gb629) := ⟨h15_⟩
          have n16_ : Aside0 (gb629 ≠ gb619) := ⟨h16_⟩
          have n17_ : Aside0 (gb620 ≠ gb629) := ⟨h17_⟩
          have n18_ : Aside0 (gb629 ≠ gb620) := ⟨h18_⟩
          have n19_ : Aside0 (Below w.heap.size w w39) := ⟨h19_⟩
          clear BK619;clear BK620;clear HB;clear h0_ h1_ h2_ h3_ h4_ h5_ h6_ h7_ h8_ h9_ h10_ h11_ h12_ h13_ h14_ h15_ h16_ h17_ h18_ h19_;have HO624 := n0_;have BK619 := n1_;have BK620 := n2_;have BK628 := n3_;have BK629 := n4_;have GW628 := n5_;have GE628 := n6_;have NB619_628 := n7_;have NB628_619 := n8_;have NB620_628 := n9_;have NB628_620 := n10_;have NB629_628 := n11_;have NB628_629 := n12_;have GW629 := n13_;have GE629 := n14_;have NB619_629 := n15_;have NB629_619 := n16_;have NB620_629 := n17_;have NB629_620 := n18_;have HB := n19_;clear n0_ n1_ n2_ n3_ n4_ n5_ n6_ n7_ n8_ n9_ n10_ n11_ n12_ n13_ n14_ n15_ n16_ n17_ n18_ n19_
          have hHeld : w39.cell? ⟨gb619, 0, none⟩ = some (.int .u64 a0_0) ∧ w39.cell? ⟨gb619, 1, none⟩ = some (.int .u64 a0_1) ∧ w39.cell? ⟨gb620, 0, none⟩ = some (.int .u64 a1_0) ∧ w39.cell? ⟨gb620, 1, none⟩ = some (.int .u64 a1_1) := hS_
          refine norm_ (a' := ?_) ?_ ?_
          rotate_left
          ·simp only [putAll, Act.put, lI_, l0_, lS_]
           rfl
          refine one_ (i := 3) (N := some 13) #[true, true, true, true, true, true, false, false] rfl rfl (one_of HT_.out (by kernel_rfl)) (by decide) (fun K hK => ?_)
          refine goes_ Try.func29 (by kernel_rfl) rfl #[.agg #[.int .u64 a1_0, .int .u64 a1_1]] (by rfl) rfl rfl mp_ ?_
          with_reducible refine (L01_Nat.calls k a1_0 a1_1 t625 _ A6.out).mono ?_
          rintro e w40 ⟨v626, rfl, ho0, hb⟩
          refine ⟨_, rfl, ?_⟩
          have HO627 := A_ (Kd.R_lower (Kd.R_new' ho0 (Kd.R_lt (kr_ HO624.out))) (below_size (hb4_ HB.out GE619.out GE620.out GE628.out GE629.out)))
          replace HO624 := A_ (Kd.R_elder' (kr_ HO624.out) (Kd.R_base ho0) hb)
          replace BK619 := A_ (bb_ BK619.out hb)
          replace BK620 := A_ (bb_ BK620.out hb)
          replace BK628 := A_ (bb_ BK628.out hb)
          replace BK629 := A_ (bb_ BK629.out hb)
          replace HB := A_ (below_step (hb4_ HB.out GE619.out GE620.out GE628.out GE629.out) hb);(try clear hb);(try clear hb2);(try clear hk);(try clear hi);(try clear ho0)
          refine hK.out _ _ ⟨bc_ BK619.out 0, bc_ BK619.out 1, bc_ BK620.out 0, bc_ BK620.out 1⟩ (fun hHeld => ?_)
          clear hK K
          refine norm_ (a' := ?_) ?_ ?_
          rotate_left
          ·show Act.put _ (some 13) _ = _
           simp only [Act.put, lI_, l0_, lS_, i64_w, i32_w]
           rfl
          exact norm_ pa_ (hJ1_3_4_5 (_, _, gb628, gb629) _ ⟨hHeld, (by (with_reducible repeat (first | apply Kd.R_alloc | apply Kd.R_drewN | apply Kd.R_drew)); exact Kd.R_mono HO624.out (fun _ hk => hk.2)), (by (with_reducible repeat (first | apply Kd.R_alloc | apply Kd.R_drewN | apply Kd.R_drew)); exact Kd.R_mono HO627.out (fun _ hk => hk.2)), (bk_ BK619.out), (bk_ BK620.out), (bk_ BK628.out), (bk_ BK629.out), GW628.out, GE628.out, NB619_628.out, NB628_619.out, NB620_628.out, NB628_620.out, NB629_628.out, NB628_629.out, GW629.out, GE629.out, NB619_629.out, NB629_619.out, NB620_629.out, NB629_620.out, (hb4_ HB.out GE619.out GE620.out GE628.out GE629.out)⟩)
        ·skip
         rintro ⟨v623, v626, gb629⟩ w39 ⟨hS_, h0_, h1_, h2_, h3_, h4_, h5_, h6_, h7_, h8_, h9_, h10_, h11_⟩
         have n0_ : Aside0 (Kd.R (Kd.int .u64) 22 w39 w.heap.size (fun k_ => some k_ ≠ (v626 : Value).ownBlock) v623 t622) := ⟨h0_⟩
         have n1_ : Aside0 (Kd.R (Kd.int .u64) 22 w39 w.heap.size (fun k_ => some k_ ≠ (v623 : Value).ownBlock) v626 t625) := ⟨h1_⟩
         have n2_ : Aside0 (w39.heap[gb619]? = some (.cells #[.int .u64 a0_0, .int .u64 a0_1] 50 (0, 0))) := ⟨h2_⟩
         have n3_ : Aside0 (w39.heap[gb620]? = some (.cells #[.int .u64 a1_0, .int .u64 a1_1] 50 (0, 0))) := ⟨h3_⟩
         have n4_ : Aside0 (w39.heap[gb629]? = some (.cells #[.slice none 0 0] 53 (0, 0))) := ⟨h4_⟩
         have n5_ : Aside0 (w.heap.size ≤ gb629) := ⟨h5_⟩
         have n6_ : Aside0 (w.heap.size ≤ gb629) := ⟨h6_⟩
         have n7_ : Aside0 (gb619 ≠ gb629) := ⟨h7_⟩
         have n8_ : Aside0 (gb629 ≠ gb619) := ⟨h8_⟩
         have n9_ : Aside0 (gb620 ≠ gb629) := ⟨h9_⟩
         have n10_ : Aside0 (gb629 ≠ gb620) := ⟨h10_⟩
         have n11_ : Aside0 (Below w.heap.size w w39) := ⟨h11_⟩
         clear BK619;clear BK620;clear HB;clear h0_ h1_ h2_ h3_ h4_ h5_ h6_ h7_ h8_ h9_ h10_ h11_;have HO624 := n0_;have HO627 := n1_;have BK619 := n2_;have BK620 := n3_;have BK629 := n4_;have GW629 := n5_;have GE629 := n6_;have NB619_629 := n7_;have NB629_619 := n8_;have NB620_629 := n9_;have NB629_620 := n10_;have HB := n11_;clear n0_ n1_ n2_ n3_ n4_ n5_ n6_ n7_ n8_ n9_ n10_ n11_
         have hHeld : w39.cell? ⟨gb619, 0, none⟩ = some (.int .u64 a0_0) ∧ w39.cell? ⟨gb619, 1, none⟩ = some (.int .u64 a0_1) ∧ w39.cell? ⟨gb620, 0, none⟩ = some (.int .u64 a1_0) ∧ w39.cell? ⟨gb620, 1, none⟩ = some (.int .u64 a1_1) := hS_
         refine norm_ (a' := ?_) ?_ ?_
         rotate_left
         ·simp only [putAll, Act.put, lI_, l0_, lS_]
          rfl
         refine one_ (i := 4) (N := some 5) #[true, true, true, true, true, true, false, false] rfl rfl (one_of HT_.out (by kernel_rfl)) (by decide) (fun K hK => ?_)
         refine box_step ?hg (N := 5) ?hd (cs := #[.slice none 0 0]) (t := 53) ?hr ?_; (case hd => rfl); (case hg => rfl); (case hr => first | (go_simp; done) | (go_simp; rfl))
         intro gb628 hg w40 hbox hb
         have BK628 := A_ (hbox)
         have GW628 := A_ (sz_ hg (hb3_ HB.out GE619.out GE620.out GE629.out))
         have GE628 := A_ (sz_ hg (hb3_ HB.out GE619.out GE620.out GE629.out))
         have NB619_628 := A_ (nl_ hg BK619.out)
         have NB628_619 := A_ (ng_ hg BK619.out)
         have NB620_628 := A_ (nl_ hg BK620.out)
         have NB628_620 := A_ (ng_ hg BK620.out)
         have NB629_628 := A_ (nl_ hg BK629.out)
         have NB628_629 := A_ (ng_ hg BK629.out)
         replace HO624 := A_ (Kd.R_below (kr_ HO624.out) hb)
         replace HO627 := A_ (Kd.R_below (kr_ HO627.out) hb)
         replace BK619 := A_ (bb_ BK619.out hb)
         replace BK620 := A_ (bb_ BK620.out hb)
         replace BK629 := A_ (bb_ BK629.out hb)
         replace HB := A_ (below_step (hb3_ HB.out GE619.out GE620.out GE629.out) hb);clear hb hbox hg
         refine hK.out _ _ ⟨bc_ BK619.out 0, bc_ BK619.out 1, bc_ BK620.out 0, bc_ BK620.out 1⟩ (fun hHeld => ?_)
         clear hK K
         refine norm_ (a' := ?_) ?_ ?_
         rotate_left
         ·show Act.put _ (some 5) _ = _
          simp only [Act.put, lI_, l0_, lS_, i64_w, i32_w]
          rfl
         exact norm_ pa_ (hJ1_3_4_5 (_, _, gb628, gb629) _ ⟨hHeld, (kr_ HO624.out), (kr_ HO627.out), (bk_ BK619.out), (bk_ BK620.out), (bk_ BK628.out), (bk_ BK629.out), GW628.out, GE628.out, NB619_628.out, NB628_619.out, NB620_628.out, NB628_620.out, NB629_628.out, NB628_629.out, GW629.out, GE629.out, NB619_629.out, NB629_619.out, NB620_629.out, NB629_620.out, (hb4_ HB.out GE619.out GE620.out GE629.out GE628.out)⟩)
       ·skip
        rintro ⟨v623, v626, gb628⟩ w39 ⟨hS_, h0_, h1_, h2_, h3_, h4_, h5_, h6_, h7_, h8_, h9_, h10_, h11_⟩
        have n0_ : Aside0 (Kd.R (Kd.int .u64) 22 w39 w.heap.size (fun k_ => some k_ ≠ (v626 : Value).ownBlock) v623 t622) := ⟨h0_⟩
        have n1_ : Aside0 (Kd.R (Kd.int .u64) 22 w39 w.heap.size (fun k_ => some k_ ≠ (v623 : Value).ownBlock) v626 t625) := ⟨h1_⟩
        have n2_ : Aside0 (w39.heap[gb619]? = some (.cells #[.int .u64 a0_0, .int .u64 a0_1] 50 (0, 0))) := ⟨h2_⟩
        have n3_ : Aside0 (w39.heap[gb620]? = some (.cells #[.int .u64 a1_0, .int .u64 a1_1] 50 (0, 0))) := ⟨h3_⟩
        have n4_ : Aside0 (w39.heap[gb628]? = some (.cells #[.slice none 0 0] 53 (0, 0))) := ⟨h4_⟩
        have n5_ : Aside0 (w.heap.size ≤ gb628) := ⟨h5_⟩
        have n6_ : Aside0 (w.heap.size ≤ gb628) := ⟨h6_⟩
        have n7_ : Aside0 (gb619 ≠ gb628) := ⟨h7_⟩
        have n8_ : Aside0 (gb628 ≠ gb619) := ⟨h8_⟩
        have n9_ : Aside0 (gb620 ≠ gb628) := ⟨h9_⟩
        have n10_ : Aside0 (gb628 ≠ gb620) := ⟨h10_⟩
        have n11_ : Aside0 (Below w.heap.size w w39) := ⟨h11_⟩
        clear BK619;clear BK620;clear HB;clear h0_ h1_ h2_ h3_ h4_ h5_ h6_ h7_ h8_ h9_ h10_ h11_;have HO624 := n0_;have HO627 := n1_;have BK619 := n2_;have BK620 := n3_;have BK628 := n4_;have GW628 := n5_;have GE628 := n6_;have NB619_628 := n7_;have NB628_619 := n8_;have NB620_628 := n9_;have NB628_620 := n10_;have HB := n11_;clear n0_ n1_ n2_ n3_ n4_ n5_ n6_ n7_ n8_ n9_ n10_ n11_
        have hHeld : w39.cell? ⟨gb619, 0, none⟩ = some (.int .u64 a0_0) ∧ w39.cell? ⟨gb619, 1, none⟩ = some (.int .u64 a0_1) ∧ w39.cell? ⟨gb620, 0, none⟩ = some (.int .u64 a1_0) ∧ w39.cell? ⟨gb620, 1, none⟩ = some (.int .u64 a1_1) := hS_
        refine norm_ (a' := ?_) ?_ ?_
        rotate_left
        ·simp only [putAll, Act.put, lI_, l0_, lS_]
         rfl
        refine one_ (i := 5) (N := some 6) #[true, true, true, true, true, true, false, false] rfl rfl (one_of HT_.out (by kernel_rfl)) (by decide) (fun K hK => ?_)
        refine box_step ?hg (N := 6) ?hd (cs := #[.slice none 0 0]) (t := 53) ?hr ?_; (case hd => rfl); (case hg => rfl); (case hr => first | (go_simp; done) | (go_simp; rfl))
        intro gb629 hg w40 hbox hb
        have BK629 := A_ (hbox)
        have GW629 := A_ (sz_ hg (hb3_ HB.out GE619.out GE620.out GE628.out))
        have GE629 := A_ (sz_ hg (hb3_ HB.out GE619.out GE620.out GE628.out))
        have NB619_629 := A_ (nl_ hg BK619.out)
        have NB629_619 := A_ (ng_ hg BK619.out)
        have NB620_629 := A_ (nl_ hg BK620.out)
        have NB629_620 := A_ (ng_ hg BK620.out)
        have NB628_629 := A_ (nl_ hg BK628.out)
        have NB629_628 := A_ (ng_ hg BK628.out)
        replace HO624 := A_ (Kd.R_below (kr_ HO624.out) hb)
        replace HO627 := A_ (Kd.R_below (kr_ HO627.out) hb)
        replace BK619 := A_ (bb_ BK619.out hb)
        replace BK620 := A_ (bb_ BK620.out hb)
        replace BK628 := A_ (bb_ BK628.out hb)
        replace HB := A_ (below_step (hb3_ HB.out GE619.out GE620.out GE628.out) hb);clear hb hbox hg
        refine hK.out _ _ ⟨bc_ BK619.out 0, bc_ BK619.out 1, bc_ BK620.out 0, bc_ BK620.out 1⟩ (fun hHeld => ?_)
        clear hK K
        refine norm_ (a' := ?_) ?_ ?_
        rotate_left
        ·show Act.put _ (some 6) _ = _
         simp only [Act.put, lI_, l0_, lS_, i64_w, i32_w]
         rfl
        exact norm_ pa_ (hJ1_3_4_5 (_, _, gb628, gb629) _ ⟨hHeld, (kr_ HO624.out), (kr_ HO627.out), (bk_ BK619.out), (bk_ BK620.out), (bk_ BK628.out), (bk_ BK629.out), GW628.out, GE628.out, NB619_628.out, NB628_619.out, NB620_628.out, NB628_620.out, NB629_628.out, NB628_629.out, GW629.out, GE629.out, NB619_629.out, NB629_619.out, NB620_629.out, NB629_620.out, (hb4_ HB.out GE619.out GE620.out GE628.out GE629.out)⟩)
      rintro ⟨v623, v626, gb628, gb629⟩ w40 ⟨hS_, h0_, h1_, h2_, h3_, h4_, h5_, h6_, h7_, h8_, h9_, h10_, h11_, h12_, h13_, h14_, h15_, h16_, h17_, h18_, h19_, h20_⟩
      have n0_ : Aside0 (Kd.R (Kd.int .u64) 22 w40 w.heap.size (fun k_ => some k_ ≠ (v626 : Value).ownBlock) v623 t622) := ⟨h0_⟩
      have n1_ : Aside0 (Kd.R (Kd.int .u64) 22 w40 w.heap.size (fun k_ => some k_ ≠ (v623 : Value).ownBlock) v626 t625) := ⟨h1_⟩
      have n2_ : Aside0 (w40.heap[gb619]? = some (.cells #[.int .u64 a0_0, .int .u64 a0_1] 50 (0, 0))) := ⟨h2_⟩
      have n3_ : Aside0 (w40.heap[gb620]? = some (.cells #[.int .u64 a1_0, .int .u64 a1_1] 50 (0, 0))) := ⟨h3_⟩
      have n4_ : Aside0 (w40.heap[gb628]? = some (.cells #[.slice none 0 0] 53 (0, 0))) := ⟨h4_⟩
      have n5_ : Aside0 (w40.heap[gb629]? = some (.cells #[.slice none 0 0] 53 (0, 0))) := ⟨h5_⟩
      have n6_ : Aside0 (w.heap.size ≤ gb628) := ⟨h6_⟩
      have n7_ : Aside0 (w.heap.size ≤ gb628) := ⟨h7_⟩
      have n8_ : Aside0 (gb619 ≠ gb628) := ⟨h8_⟩
      have n9_ : Aside0 (gb628 ≠ gb619) := ⟨h9_⟩
      have n10_ : Aside0 (gb620 ≠ gb628) := ⟨h10_⟩
      have n11_ : Aside0 (gb628 ≠ gb620) := ⟨h11_⟩
      have n12_ : Aside0 (gb629 ≠ gb628) := ⟨h12_⟩
      have n13_ : Aside0 (gb628 ≠ gb629) := ⟨h13_⟩
      have n14_ : Aside0 (w.heap.size ≤ gb629) := ⟨h14_⟩
      have n15_ : Aside0 (w.heap.size ≤ gb629) := ⟨h15_⟩
      have n16_ : Aside0 (gb619 ≠ gb629) := ⟨h16_⟩
      have n17_ : Aside0 (gb629 ≠ gb619) := ⟨h17_⟩
      have n18_ : Aside0 (gb620 ≠ gb629) := ⟨h18_⟩
      have n19_ : Aside0 (gb629 ≠ gb620) := ⟨h19_⟩
      have n20_ : Aside0 (Below w.heap.size w w40) := ⟨h20_⟩
      clear BK619;clear BK620;clear HB;clear h0_ h1_ h2_ h3_ h4_ h5_ h6_ h7_ h8_ h9_ h10_ h11_ h12_ h13_ h14_ h15_ h16_ h17_ h18_ h19_ h20_;have HO624 := n0_;have HO627 := n1_;have BK619 := n2_;have BK620 := n3_;have BK628 := n4_;have BK629 := n5_;have GW628 := n6_;have GE628 := n7_;have NB619_628 := n8_;have NB628_619 := n9_;have NB620_628 := n10_;have NB628_620 := n11_;have NB629_628 := n12_;have NB628_629 := n13_;have GW629 := n14_;have GE629 := n15_;have NB619_629 := n16_;have NB629_619 := n17_;have NB620_629 := n18_;have NB629_620 := n19_;have HB := n20_;clear n0_ n1_ n2_ n3_ n4_ n5_ n6_ n7_ n8_ n9_ n10_ n11_ n12_ n13_ n14_ n15_ n16_ n17_ n18_ n19_ n20_
      have hHeld : w40.cell? ⟨gb619, 0, none⟩ = some (.int .u64 a0_0) ∧ w40.cell? ⟨gb619, 1, none⟩ = some (.int .u64 a0_1) ∧ w40.cell? ⟨gb620, 0, none⟩ = some (.int .u64 a1_0) ∧ w40.cell? ⟨gb620, 1, none⟩ = some (.int .u64 a1_1) := hS_
      obtain ⟨Ao41, co41, eo41⟩ := Kd.R_slice HO624.out
      (first | subst eo41 | (injection eo41 with f1_ f2_ f3_; have f4_ := f1_.symm; have f5_ := f3_.symm; clear f1_ f2_ f3_; subst f4_; subst f5_))
      obtain ⟨Ao43, co43, eo43⟩ := Kd.R_slice HO627.out
      (first | subst eo43 | (injection eo43 with f1_ f2_ f3_; have f4_ := f1_.symm; have f5_ := f3_.symm; clear f1_ f2_ f3_; subst f4_; subst f5_))
      refine norm_ (a' := ?_) ?_ ?_
      rotate_left
      ·simp only [putAll, Act.put, lI_, l0_, lS_]
       rfl
      refine one_ (i := 6) (N := none) #[true, true, true, true, true, true, true, false] rfl rfl (one_of HT_.out (by kernel_rfl)) (by decide) (fun K hK => ?_)
      have hs42 : w40.cell? ⟨gb628, 0, none⟩ = some (.slice none 0 0) := bc_ BK628.out 0
      have hfs42 := blk_frozen BK628.out 0
      have hns42_0 := NB619_628.out
      have hns42_1 := NB620_628.out
      have hns42_3 := NB629_628.out
      have hms42_0 := NB628_619.out
      have hms42_1 := NB628_620.out
      have hms42_3 := NB628_629.out
      refine skip_ (w1 := ?_) (by rfl) rfl ?_ ?_
      rotate_left
      ·go_simp
       rfl
      refine hK.out _ _ ⟨((cell_far (p := ⟨gb628, _, none⟩) NB619_628.out _).trans (hHeld.1)), ((cell_far (p := ⟨gb628, _, none⟩) NB619_628.out _).trans (hHeld.2.1)), ((cell_far (p := ⟨gb628, _, none⟩) NB620_628.out _).trans (hHeld.2.2.1)), ((cell_far (p := ⟨gb628, _, none⟩) NB620_628.out _).trans (hHeld.2.2.2))⟩ (fun hHeld => ?_)
      clear hK K
      refine one_ (i := 7) (N := none) #[true, true, true, true, true, true, true, true] rfl rfl (one_of HT_.out (by kernel_rfl)) (by decide) (fun K hK => ?_)
      have hs44 : w40.cell? ⟨gb629, 0, none⟩ = some (.slice none 0 0) := bc_ BK629.out 0
      have hfs44 := blk_frozen BK629.out 0
      have hns44_0 := NB619_629.out
      have hns44_1 := NB620_629.out
      have hns44_2 := NB628_629.out
      have hms44_0 := NB629_619.out
      have hms44_1 := NB629_620.out
      have hms44_2 := NB629_628.out
      refine skip_ (w1 := ?_) (by rfl) rfl ?_ ?_
      rotate_left
      ·go_simp
       rfl
      refine hK.out _ _ ⟨((cell_far (p := ⟨gb629, _, none⟩) NB619_629.out _).trans (hHeld.1)), ((cell_far (p := ⟨gb629, _, none⟩) NB619_629.out _).trans (hHeld.2.1)), ((cell_far (p := ⟨gb629, _, none⟩) NB620_629.out _).trans (hHeld.2.2.1)), ((cell_far (p := ⟨gb629, _, none⟩) NB620_629.out _).trans (hHeld.2.2.2))⟩ (fun hHeld => ?_)
      clear hK K
      refine done_ (done_of HT_.out (by kernel_rfl)) ?_
      try go_wp2
      have n0_ : Aside0 (Kd.R (Kd.int .u64) 22 ((w40.setCell ⟨gb628, 0, none⟩ (.slice Ao41 t622.length co41)).setCell ⟨gb629, 0, none⟩ (.slice Ao43 t625.length co43)) w.heap.size (fun k_ => some k_ ≠ (.slice Ao43 t625.length co43 : Value).ownBlock) (.slice Ao41 t622.length co41) t622) := ⟨by (with_reducible repeat (first | apply Kd.R_alloc | apply Kd.R_drewN | apply Kd.R_drew)); exact Kd.R_mono (Kd.R_far (p := ⟨gb629, 0, none⟩) (Kd.R_far (p := ⟨gb628, 0, none⟩) (Kd.R_types (Kd.R_types HO624.out BK628.out (by decide)) BK629.out (by decide)) (fun _ hk => hk.1.2) (.slice Ao41 t622.length co41)) (fun _ hk => hk.2) (.slice Ao43 t625.length co43)) (fun _ hk => hk.1.1)⟩
      have n1_ : Aside0 (Kd.R (Kd.int .u64) 22 ((w40.setCell ⟨gb628, 0, none⟩ (.slice Ao41 t622.length co41)).setCell ⟨gb629, 0, none⟩ (.slice Ao43 t625.length co43)) w.heap.size (fun k_ => some k_ ≠ (.slice Ao41 t622.length co41 : Value).ownBlock) (.slice Ao43 t625.length co43) t625) := ⟨by (with_reducible repeat (first | apply Kd.R_alloc | apply Kd.R_drewN | apply Kd.R_drew)); exact Kd.R_mono (Kd.R_far (p := ⟨gb629, 0, none⟩) (Kd.R_far (p := ⟨gb628, 0, none⟩) (Kd.R_types (Kd.R_types HO627.out BK628.out (by decide)) BK629.out (by decide)) (fun _ hk => hk.1.2) (.slice Ao41 t622.length co41)) (fun _ hk => hk.2) (.slice Ao43 t625.length co43)) (fun _ hk => hk.1.1)⟩
      have n2_ : Aside0 (((w40.setCell ⟨gb628, 0, none⟩ (.slice Ao41 t622.length co41)).setCell ⟨gb629, 0, none⟩ (.slice Ao43 t625.length co43)).heap[gb619]? = some (.cells #[.int .u64 a0_0, .int .u64 a0_1] 50 (0, 0))) := ⟨bf2_ BK619.out NB619_629.out NB619_628.out⟩
      have n3_ : Aside0 (((w40.setCell ⟨gb628, 0, none⟩ (.slice Ao41 t622.length co41)).setCell ⟨gb629, 0, none⟩ (.slice Ao43 t625.length co43)).heap[gb620]? = some (.cells #[.int .u64 a1_0, .int .u64 a1_1] 50 (0, 0))) := ⟨bf2_ BK620.out NB620_629.out NB620_628.out⟩
      have n4_ : Aside0 (((w40.setCell ⟨gb628, 0, none⟩ (.slice Ao41 t622.length co41)).setCell ⟨gb629, 0, none⟩ (.slice Ao43 t625.length co43)).heap[gb628]? = some (.cells #[.slice Ao41 t622.length co41] 53 (0, 0))) := ⟨by (with_reducible repeat (first | refine blk_drewN ?_ _ | refine blk_drew ?_ | refine blk_alloc ?_ _)); refine blk_far ?_ NB628_629.out _; (with_reducible repeat (first | refine blk_drewN ?_ _ | refine blk_drew ?_ | refine blk_alloc ?_ _)); refine blk_put (cs := #[.slice none 0 0]) ?_ 0 _ rfl; (with_reducible repeat (first | refine blk_drewN ?_ _ | refine blk_drew ?_ | refine blk_alloc ?_ _)); exact BK628.out⟩
      have n5_ : Aside0 (((w40.setCell ⟨gb628, 0, none⟩ (.slice Ao41 t622.length co41)).setCell ⟨gb629, 0, none⟩ (.slice Ao43 t625.length co43)).heap[gb629]? = some (.cells #[.slice Ao43 t625.length co43] 53 (0, 0))) := ⟨by (with_reducible repeat (first | refine blk_drewN ?_ _ | refine blk_drew ?_ | refine blk_alloc ?_ _)); refine blk_put (cs := #[.slice none 0 0]) ?_ 0 _ rfl; (with_reducible repeat (first | refine blk_drewN ?_ _ | refine blk_drew ?_ | refine blk_alloc ?_ _)); refine blk_far ?_ NB629_628.out _; (with_reducible repeat (first | refine blk_drewN ?_ _ | refine blk_drew ?_ | refine blk_alloc ?_ _)); exact BK629.out⟩
      have n6_ : Aside0 (Below w.heap.size w ((w40.setCell ⟨gb628, 0, none⟩ (.slice Ao41 t622.length co41)).setCell ⟨gb629, 0, none⟩ (.slice Ao43 t625.length co43))) := ⟨hb4_ HB.out GE619.out GE620.out GE628.out GE629.out⟩
      (try clear HO624);(try clear HO627);(try clear BK619);(try clear BK620);(try clear BK628);(try clear BK629);(try clear HB)
      generalize ((w40.setCell ⟨gb628, 0, none⟩ (.slice Ao41 t622.length co41)).setCell ⟨gb629, 0, none⟩ (.slice Ao43 t625.length co43)) = w45 at n0_ n1_ n2_ n3_ n4_ n5_ n6_ ⊢
      have HO624 := n0_;have HO627 := n1_;have BK619 := n2_;have BK620 := n3_;have BK628 := n4_;have BK629 := n5_;have HB := n6_;clear n0_ n1_ n2_ n3_ n4_ n5_ n6_
      replace HO624 := A_ (Kd.R_drew HO624.out)
      replace HO627 := A_ (Kd.R_drew HO627.out)
      replace BK619 := A_ (blk_drew BK619.out)
      replace BK620 := A_ (blk_drew BK620.out)
      replace BK628 := A_ (blk_drew BK628.out)
      replace BK629 := A_ (blk_drew BK629.out)
      replace HB := A_ (below_drew1 HB.out)
      refine start_ (n := 8) (S := fun w' => w'.cell? ⟨gb628, 0, none⟩ = some (.slice Ao41 t622.length co41) ∧ w'.cell? ⟨gb629, 0, none⟩ = some (.slice Ao43 t625.length co43)) (ds := []) #[false, false, false, false, false, false, false, false] (by kernel_rfl) rfl rfl ⟨bc_ BK628.out 0, bc_ BK629.out 0⟩ (fun hHeld => ?_); refine with_tabW L01_WideSums.tab4 L01_WideSums.bits4 (fun HT_ HW_ => ?_)
      generalize w45.drew = w46 at HO624 HO627 BK619 BK620 BK628 BK629 HB hHeld ⊢
      refine tk2_ 0 (some 14) #[true, false, false, false, false, false, false, false] rfl rfl (take_ofW HT_.out HW_.out (by kernel_rfl)) hHeld ?_
      refine tk2_ 4 (some 18) #[true, false, false, false, true, false, false, false] rfl rfl (take_ofW HT_.out HW_.out (by kernel_rfl)) hHeld ?_
      refine join_ (σ := Value × Value × Value × Value × Nat) 1 #[true, true, true, true, true, true, true, false] (fun s_ => [(15, .agg #[s_.1]), (16, .agg #[s_.2.1]), (17, .agg #[s_.2.2.1]), (19, .agg #[s_.2.2.2.1]), (7, .pointer (some ⟨s_.2.2.2.2, 0, none⟩))]) (fun s_ w' => (w'.cell? ⟨gb628, 0, none⟩ = some (.slice Ao41 t622.length co41) ∧ w'.cell? ⟨gb629, 0, none⟩ = some (.slice Ao43 t625.length co43)) ∧ (Kd.R (Kd.int .u64) 22 w' w.heap.size (fun k_ => some k_ ≠ (.slice Ao43 t625.length co43 : Value).ownBlock ∧ some k_ ≠ (s_.1 : Value).ownBlock ∧ some k_ ≠ (s_.2.1 : Value).ownBlock ∧ some k_ ≠ (s_.2.2.1 : Value).ownBlock ∧ some k_ ≠ (s_.2.2.2.1 : Value).ownBlock) (.slice Ao41 t622.length co41) t622) ∧ (Kd.R (Kd.int .u64) 22 w' w.heap.size (fun k_ => some k_ ≠ (.slice Ao41 t622.length co41 : Value).ownBlock ∧ some k_ ≠ (s_.1 : Value).ownBlock ∧ some k_ ≠ (s_.2.1 : Value).ownBlock ∧ some k_ ≠ (s_.2.2.1 : Value).ownBlock ∧ some k_ ≠ (s_.2.2.2.1 : Value).ownBlock) (.slice Ao43 t625.length co43) t625) ∧ (Kd.R (Kd.int .u64) 22 w' w.heap.size (fun k_ => some k_ ≠ (.slice Ao41 t622.length co41 : Value).ownBlock ∧ some k_ ≠ (.slice Ao43 t625.length co43 : Value).ownBlock ∧ some k_ ≠ (s_.2.1 : Value).ownBlock ∧ some k_ ≠ (s_.2.2.1 : Value).ownBlock ∧ some k_ ≠ (s_.2.2.2.1 : Value).ownBlock) s_.1 t630) ∧ (Kd.R (Kd.int .u64) 22 w' w.heap.size (fun k_ => some k_ ≠ (.slice Ao41 t622.length co41 : Value).ownBlock ∧ some k_ ≠ (.slice Ao43 t625.length co43 : Value).ownBlock ∧ some k_ ≠ (s_.1 : Value).ownBlock ∧ some k_ ≠ (s_.2.2.1 : Value).ownBlock ∧ some k_ ≠ (s_.2.2.2.1 : Value).ownBlock) s_.2.1 t633) ∧ (Kd.R (Kd.int .u64) 22 w' w.heap.size (fun k_ => some k_ ≠ (.slice Ao41 t622.length co41 : Value).ownBlock ∧ some k_ ≠ (.slice Ao43 t625.length co43 : Value).ownBlock ∧ some k_ ≠ (s_.1 : Value).ownBlock ∧ some k_ ≠ (s_.2.1 : Value).ownBlock ∧ some k_ ≠ (s_.2.2.2.1 : Value).ownBlock) s_.2.2.1 t636) ∧ (Kd.R (Kd.int .u64) 22 w' w.heap.size (fun k_ => some k_ ≠ (.slice Ao41 t622.length co41 : Value).ownBlock ∧ some k_ ≠ (.slice Ao43 t625.length co43 : Value).ownBlock ∧ some k_ ≠ (s_.1 : Value).ownBlock ∧ some k_ ≠ (s_.2.1 : Value).ownBlock ∧ some k_ ≠ (s_.2.2.1 : Value).ownBlock) s_.2.2.2.1 t639) ∧ (w'.heap[gb619]? = some (.cells #[.int .u64 a0_0, .int .u64 a0_1] 50 (0, 0))) ∧ (w'.heap[gb620]? = some (.cells #[.int .u64 a1_0, .int .u64 a1_1] 50 (0, 0))) ∧ (w'.heap[gb628]? = some (.cells #[.slice Ao41 t622.length co41] 53 (0, 0))) ∧ (w'.heap[gb629]? = some (.cells #[.slice Ao43 t625.length co43] 53 (0, 0))) ∧ (w'.heap[s_.2.2.2.2]? = some (.cells #[.slice none 0 0] 53 (0, 0))) ∧ (w.heap.size ≤ s_.2.2.2.2) ∧ (w.heap.size ≤ s_.2.2.2.2) ∧ (gb619 ≠ s_.2.2.2.2) ∧ (s_.2.2.2.2 ≠ gb619) ∧ (gb620 ≠ s_.2.2.2.2) ∧ (s_.2.2.2.2 ≠ gb620) ∧ (gb628 ≠ s_.2.2.2.2) ∧ (s_.2.2.2.2 ≠ gb628) ∧ (gb629 ≠ s_.2.2.2.2) ∧ (s_.2.2.2.2 ≠ gb629) ∧ (Below w.heap.size w w')) ?_ ?_
      rotate_left
      ·intro hJ1_2_3_5_6
       refine join_ (σ := Value × Value × Value × Value) 2 #[true, true, true, true, true, true, false, false] (fun s_ => [(15, .agg #[s_.1]), (16, .agg #[s_.2.1]), (17, .agg #[s_.2.2.1]), (19, .agg #[s_.2.2.2])]) (fun s_ w' => (w'.cell? ⟨gb628, 0, none⟩ = some (.slice Ao41 t622.length co41) ∧ w'.cell? ⟨gb629, 0, none⟩ = some (.slice Ao43 t625.length co43)) ∧ (Kd.R (Kd.int .u64) 22 w' w.heap.size (fun k_ => some k_ ≠ (.slice Ao43 t625.length co43 : Value).ownBlock ∧ some k_ ≠ (s_.1 : Value).ownBlock ∧ some k_ ≠ (s_.2.1 : Value).ownBlock ∧ some k_ ≠ (s_.2.2.1 : Value).ownBlock ∧ some k_ ≠ (s_.2.2.2 : Value).ownBlock) (.slice Ao41 t622.length co41) t622) ∧ (Kd.R (Kd.int .u64) 22 w' w.heap.size (fun k_ => some k_ ≠ (.slice Ao41 t622.length co41 : Value).ownBlock ∧ some k_ ≠ (s_.1 : Value).ownBlock ∧ some k_ ≠ (s_.2.1 : Value).ownBlock ∧ some k_ ≠ (s_.2.2.1 : Value).ownBlock ∧ some k_ ≠ (s_.2.2.2 : Value).ownBlock) (.slice Ao43 t625.length co43) t625) ∧ (Kd.R (Kd.int .u64) 22 w' w.heap.size (fun k_ => some k_ ≠ (.slice Ao41 t622.length co41 : Value).ownBlock ∧ some k_ ≠ (.slice Ao43 t625.length co43 : Value).ownBlock ∧ some k_ ≠ (s_.2.1 : Value).ownBlock ∧ some k_ ≠ (s_.2.2.1 : Value).ownBlock ∧ some k_ ≠ (s_.2.2.2 : Value).ownBlock) s_.1 t630) ∧ (Kd.R (Kd.int .u64) 22 w' w.heap.size (fun k_ => some k_ ≠ (.slice Ao41 t622.length co41 : Value).ownBlock ∧ some k_ ≠ (.slice Ao43 t625.length co43 : Value).ownBlock ∧ some k_ ≠ (s_.1 : Value).ownBlock ∧ some k_ ≠ (s_.2.2.1 : Value).ownBlock ∧ some k_ ≠ (s_.2.2.2 : Value).ownBlock) s_.2.1 t633) ∧ (Kd.R (Kd.int .u64) 22 w' w.heap.size (fun k_ => some k_ ≠ (.slice Ao41 t622.length co41 : Value).ownBlock ∧ some k_ ≠ (.slice Ao43 t625.length co43 : Value).ownBlock ∧ some k_ ≠ (s_.1 : Value).ownBlock ∧ some k_ ≠ (s_.2.1 : Value).ownBlock ∧ some k_ ≠ (s_.2.2.2 : Value).ownBlock) s_.2.2.1 t636) ∧ (Kd.R (Kd.int .u64) 22 w' w.heap.size (fun k_ => some k_ ≠ (.slice Ao41 t622.length co41 : Value).ownBlock ∧ some k_ ≠ (.slice Ao43 t625.length co43 : Value).ownBlock ∧ some k_ ≠ (s_.1 : Value).ownBlock ∧ some k_ ≠ (s_.2.1 : Value).ownBlock ∧ some k_ ≠ (s_.2.2.1 : Value).ownBlock) s_.2.2.2 t639) ∧ (w'.heap[gb619]? = some (.cells #[.int .u64 a0_0, .int .u64 a0_1] 50 (0, 0))) ∧ (w'.heap[gb620]? = some (.cells #[.int .u64 a1_0, .int .u64 a1_1] 50 (0, 0))) ∧ (w'.heap[gb628]? = some (.cells #[.slice Ao41 t622.length co41] 53 (0, 0))) ∧ (w'.heap[gb629]? = some (.cells #[.slice Ao43 t625.length co43] 53 (0, 0))) ∧ (Below w.heap.size w w')) ?_ ?_
       rotate_left
       ·intro hJ1_2_3_5
        refine join_ (σ := Value × Value × Value × Nat) 2 #[true, true, true, true, true, false, true, false] (fun s_ => [(15, .agg #[s_.1]), (16, .agg #[s_.2.1]), (17, .agg #[s_.2.2.1]), (7, .pointer (some ⟨s_.2.2.2, 0, none⟩))]) (fun s_ w' => (w'.cell? ⟨gb628, 0, none⟩ = some (.slice Ao41 t622.length co41) ∧ w'.cell? ⟨gb629, 0, none⟩ = some (.slice Ao43 t625.length co43)) ∧ (Kd.R (Kd.int .u64) 22 w' w.heap.size (fun k_ => some k_ ≠ (.slice Ao43 t625.length co43 : Value).ownBlock ∧ some k_ ≠ (s_.1 : Value).ownBlock ∧ some k_ ≠ (s_.2.1 : Value).ownBlock ∧ some k_ ≠ (s_.2.2.1 : Value).ownBlock) (.slice Ao41 t622.length co41) t622) ∧ (Kd.R (Kd.int .u64) 22 w' w.heap.size (fun k_ => some k_ ≠ (.slice Ao41 t622.length co41 : Value).ownBlock ∧ some k_ ≠ (s_.1 : Value).ownBlock ∧ some k_ ≠ (s_.2.1 : Value).ownBlock ∧ some k_ ≠ (s_.2.2.1 : Value).ownBlock) (.slice Ao43 t625.length co43) t625) ∧ (Kd.R (Kd.int .u64) 22 w' w.heap.size (fun k_ => some k_ ≠ (.slice Ao41 t622.length co41 : Value).ownBlock ∧ some k_ ≠ (.slice Ao43 t625.length co43 : Value).ownBlock ∧ some k_ ≠ (s_.2.1 : Value).ownBlock ∧ some k_ ≠ (s_.2.2.1 : Value).ownBlock) s_.1 t630) ∧ (Kd.R (Kd.int .u64) 22 w' w.heap.size (fun k_ => some k_ ≠ (.slice Ao41 t622.length co41 : Value).ownBlock ∧ some k_ ≠ (.slice Ao43 t625.length co43 : Value).ownBlock ∧ some k_ ≠ (s_.1 : Value).ownBlock ∧ some k_ ≠ (s_.2.2.1 : Value).ownBlock) s_.2.1 t633) ∧ (Kd.R (Kd.int .u64) 22 w' w.heap.size (fun k_ => some k_ ≠ (.slice Ao41 t622.length co41 : Value).ownBlock ∧ some k_ ≠ (.slice Ao43 t625.length co43 : Value).ownBlock ∧ some k_ ≠ (s_.1 : Value).ownBlock ∧ some k_ ≠ (s_.2.1 : Value).ownBlock) s_.2.2.1 t636) ∧ (w'.heap[gb619]? = some (.cells #[.int .u64 a0_0, .int .u64 a0_1] 50 (0, 0))) ∧ (w'.heap[gb620]? = some (.cells #[.int .u64 a1_0, .int .u64 a1_1] 50 (0, 0))) ∧ (w'.heap[gb628]? = some (.cells #[.slice Ao41 t622.length co41] 53 (0, 0))) ∧ (w'.heap[gb629]? = some (.cells #[.slice Ao43 t625.length co43] 53 (0, 0))) ∧ (w'.heap[s_.2.2.2]? = some (.cells #[.slice none 0 0] 53 (0, 0))) ∧ (w.heap.size ≤ s_.2.2.2) ∧ (w.heap.size ≤ s_.2.2.2) ∧ (gb619 ≠ s_.2.2.2) ∧ (s_.2.2.2 ≠ gb619) ∧ (gb620 ≠ s_.2.2.2) ∧ (s_.2.2.2 ≠ gb620) ∧ (gb628 ≠ s_.2.2.2) ∧ (s_.2.2.2 ≠ gb628) ∧ (gb629 ≠ s_.2.2.2) ∧ (s_.2.2.2 ≠ gb629) ∧ (Below w.heap.size w w')) ?_ ?_
        rotate_left
        ·intro hJ1_2_3_6
         refine join_ (σ := Value × Value × Value) 3 #[true, true, true, true, true, false, false, false] (fun s_ => [(15, .agg #[s_.1]), (16, .agg #[s_.2.1]), (17, .agg #[s_.2.2])]) (fun s_ w' => (w'.cell? ⟨gb628, 0, none⟩ = some (.slice Ao41 t622.length co41) ∧ w'.cell? ⟨gb629, 0, none⟩ = some (.slice Ao43 t625.length co43)) ∧ (Kd.R (Kd.int .u64) 22 w' w.heap.size (fun k_ => some k_ ≠ (.slice Ao43 t625.length co43 : Value).ownBlock ∧ some k_ ≠ (s_.1 : Value).ownBlock ∧ some k_ ≠ (s_.2.1 : Value).ownBlock ∧ some k_ ≠ (s_.2.2 : Value).ownBlock) (.slice Ao41 t622.length co41) t622) ∧ (Kd.R (Kd.int .u64) 22 w' w.heap.size (fun k_ => some k_ ≠ (.slice Ao41 t622.length co41 : Value).ownBlock ∧ some k_ ≠ (s_.1 : Value).ownBlock ∧ some k_ ≠ (s_.2.1 : Value).ownBlock ∧ some k_ ≠ (s_.2.2 : Value).ownBlock) (.slice Ao43 t625.length co43) t625) ∧ (Kd.R (Kd.int .u64) 22 w' w.heap.size (fun k_ => some k_ ≠ (.slice Ao41 t622.length co41 : Value).ownBlock ∧ some k_ ≠ (.slice Ao43 t625.length co43 : Value).ownBlock ∧ some k_ ≠ (s_.2.1 : Value).ownBlock ∧ some k_ ≠ (s_.2.2 : Value).ownBlock) s_.1 t630) ∧ (Kd.R (Kd.int .u64) 22 w' w.heap.size (fun k_ => some k_ ≠ (.slice Ao41 t622.length co41 : Value).ownBlock ∧ some k_ ≠ (.slice Ao43 t625.length co43 : Value).ownBlock ∧ some k_ ≠ (s_.1 : Value).ownBlock ∧ some k_ ≠ (s_.2.2 : Value).ownBlock) s_.2.1 t633) ∧ (Kd.R (Kd.int .u64) 22 w' w.heap.size (fun k_ => some k_ ≠ (.slice Ao41 t622.length co41 : Value).ownBlock ∧ some k_ ≠ (.slice Ao43 t625.length co43 : Value).ownBlock ∧ some k_ ≠ (s_.1 : Value).ownBlock ∧ some k_ ≠ (s_.2.1 : Value).ownBlock) s_.2.2 t636) ∧ (w'.heap[gb619]? = some (.cells #[.int .u64 a0_0, .int .u64 a0_1] 50 (0, 0))) ∧ (w'.heap[gb620]? = some (.cells #[.int .u64 a1_0, .int .u64 a1_1] 50 (0, 0))) ∧ (w'.heap[gb628]? = some (.cells #[.slice Ao41 t622.length co41] 53 (0, 0))) ∧ (w'.heap[gb629]? = some (.cells #[.slice Ao43 t625.length co43] 53 (0, 0))) ∧ (Below w.heap.size w w')) ?_ ?_
         rotate_left
         ·intro hJ1_2_3
          refine join_ (σ := Value × Value × Nat) 3 #[true, true, true, false, true, false, true, false] (fun s_ => [(15, .agg #[s_.1]), (16, .agg #[s_.2.1]), (7, .pointer (some ⟨s_.2.2, 0, none⟩))]) (fun s_ w' => (w'.cell? ⟨gb628, 0, none⟩ = some (.slice Ao41 t622.length co41) ∧ w'.cell? ⟨gb629, 0, none⟩ = some (.slice Ao43 t625.length co43)) ∧ (Kd.R (Kd.int .u64) 22 w' w.heap.size (fun k_ => some k_ ≠ (.slice Ao43 t625.length co43 : Value).ownBlock ∧ some k_ ≠ (s_.1 : Value).ownBlock ∧ some k_ ≠ (s_.2.1 : Value).ownBlock) (.slice Ao41 t622.length co41) t622) ∧ (Kd.R (Kd.int .u64) 22 w' w.heap.size (fun k_ => some k_ ≠ (.slice Ao41 t622.length co41 : Value).ownBlock ∧ some k_ ≠ (s_.1 : Value).ownBlock ∧ some k_ ≠ (s_.2.1 : Value).ownBlock) (.slice Ao43 t625.length co43) t625) ∧ (Kd.R (Kd.int .u64) 22 w' w.heap.size (fun k_ => some k_ ≠ (.slice Ao41 t622.length co41 : Value).ownBlock ∧ some k_ ≠ (.slice Ao43 t625.length co43 : Value).ownBlock ∧ some k_ ≠ (s_.2.1 : Value).ownBlock) s_.1 t630) ∧ (Kd.R (Kd.int .u64) 22 w' w.heap.size (fun k_ => some k_ ≠ (.slice Ao41 t622.length co41 : Value).ownBlock ∧ some k_ ≠ (.slice Ao43 t625.length co43 : Value).ownBlock ∧ some k_ ≠ (s_.1 : Value).ownBlock) s_.2.1 t633) ∧ (w'.heap[gb619]? = some (.cells #[.int .u64 a0_0, .int .u64 a0_1] 50 (0, 0))) ∧ (w'.heap[gb620]? = some (.cells #[.int .u64 a1_0, .int .u64 a1_1] 50 (0, 0))) ∧ (w'.heap[gb628]? = some (.cells #[.slice Ao41 t622.length co41] 53 (0, 0))) ∧ (w'.heap[gb629]? = some (.cells #[.slice Ao43 t625.length co43] 53 (0, 0))) ∧ (w'.heap[s_.2.2]? = some (.cells #[.slice none 0 0] 53 (0, 0))) ∧ (w.heap.size ≤ s_.2.2) ∧ (w.heap.size ≤ s_.2.2) ∧ (gb619 ≠ s_.2.2) ∧ (s_.2.2 ≠ gb619) ∧ (gb620 ≠ s_.2.2) ∧ (s_.2.2 ≠ gb620) ∧ (gb628 ≠ s_.2.2) ∧ (s_.2.2 ≠ gb628) ∧ (gb629 ≠ s_.2.2) ∧ (s_.2.2 ≠ gb629) ∧ (Below w.heap.size w w')) ?_ ?_
          rotate_left
          ·intro hJ1_2_6
           refine join_ (σ := Value × Value) 4 #[true, true, true, false, true, false, false, false] (fun s_ => [(15, .agg #[s_.1]), (16, .agg #[s_.2])]) (fun s_ w' => (w'.cell? ⟨gb628, 0, none⟩ = some (.slice Ao41 t622.length co41) ∧ w'.cell? ⟨gb629, 0, none⟩ = some (.slice Ao43 t625.length co43)) ∧ (Kd.R (Kd.int .u64) 22 w' w.heap.size (fun k_ => some k_ ≠ (.slice Ao43 t625.length co43 : Value).ownBlock ∧ some k_ ≠ (s_.1 : Value).ownBlock ∧ some k_ ≠ (s_.2 : Value).ownBlock) (.slice Ao41 t622.length co41) t622) ∧ (Kd.R (Kd.int .u64) 22 w' w.heap.size (fun k_ => some k_ ≠ (.slice Ao41 t622.length co41 : Value).ownBlock ∧ some k_ ≠ (s_.1 : Value).ownBlock ∧ some k_ ≠ (s_.2 : Value).ownBlock) (.slice Ao43 t625.length co43) t625) ∧ (Kd.R (Kd.int .u64) 22 w' w.heap.size (fun k_ => some k_ ≠ (.slice Ao41 t622.length co41 : Value).ownBlock ∧ some k_ ≠ (.slice Ao43 t625.length co43 : Value).ownBlock ∧ some k_ ≠ (s_.2 : Value).ownBlock) s_.1 t630) ∧ (Kd.R (Kd.int .u64) 22 w' w.heap.size (fun k_ => some k_ ≠ (.slice Ao41 t622.length co41 : Value).ownBlock ∧ some k_ ≠ (.slice Ao43 t625.length co43 : Value).ownBlock ∧ some k_ ≠ (s_.1 : Value).ownBlock) s_.2 t633) ∧ (w'.heap[gb619]? = some (.cells #[.int .u64 a0_0, .int .u64 a0_1] 50 (0, 0))) ∧ (w'.heap[gb620]? = some (.cells #[.int .u64 a1_0, .int .u64 a1_1] 50 (0, 0))) ∧ (w'.heap[gb628]? = some (.cells #[.slice Ao41 t622.length co41] 53 (0, 0))) ∧ (w'.heap[gb629]? = some (.cells #[.slice Ao43 t625.length co43] 53 (0, 0))) ∧ (Below w.heap.size w w')) ?_ ?_
           rotate_left
           ·intro hJ1_2
            refine join_ (σ := Value × Nat) 4 #[true, true, false, false, true, false, true, false] (fun s_ => [(15, .agg #[s_.1]), (7, .pointer (some ⟨s_.2, 0, none⟩))]) (fun s_ w' => (w'.cell? ⟨gb628, 0, none⟩ = some (.slice Ao41 t622.length co41) ∧ w'.cell? ⟨gb629, 0, none⟩ = some (.slice Ao43 t625.length co43)) ∧ (Kd.R (Kd.int .u64) 22 w' w.heap.size (fun k_ => some k_ ≠ (.slice Ao43 t625.length co43 : Value).ownBlock ∧ some k_ ≠ (s_.1 : Value).ownBlock) (.slice Ao41 t622.length co41) t622) ∧ (Kd.R (Kd.int .u64) 22 w' w.heap.size (fun k_ => some k_ ≠ (.slice Ao41 t622.length co41 : Value).ownBlock ∧ some k_ ≠ (s_.1 : Value).ownBlock) (.slice Ao43 t625.length co43) t625) ∧ (Kd.R (Kd.int .u64) 22 w' w.heap.size (fun k_ => some k_ ≠ (.slice Ao41 t622.length co41 : Value).ownBlock ∧ some k_ ≠ (.slice Ao43 t625.length co43 : Value).ownBlock) s_.1 t630) ∧ (w'.heap[gb619]? = some (.cells #[.int .u64 a0_0, .int .u64 a0_1] 50 (0, 0))) ∧ (w'.heap[gb620]? = some (.cells #[.int .u64 a1_0, .int .u64 a1_1] 50 (0, 0))) ∧ (w'.heap[gb628]? = some (.cells #[.slice Ao41 t622.length co41] 53 (0, 0))) ∧ (w'.heap[gb629]? = some (.cells #[.slice Ao43 t625.length co43] 53 (0, 0))) ∧ (w'.heap[s_.2]? = some (.cells #[.slice none 0 0] 53 (0, 0))) ∧ (w.heap.size ≤ s_.2) ∧ (w.heap.size ≤ s_.2) ∧ (gb619 ≠ s_.2) ∧ (s_.2 ≠ gb619) ∧ (gb620 ≠ s_.2) ∧ (s_.2 ≠ gb620) ∧ (gb628 ≠ s_.2) ∧ (s_.2 ≠ gb628) ∧ (gb629 ≠ s_.2) ∧ (s_.2 ≠ gb629) ∧ (Below w.heap.size w w')) ?_ ?_
            rotate_left
            ·intro hJ1_6
             refine join_ (σ := Value) 5 #[true, true, false, false, true, false, false, false] (fun s_ => [(15, .agg #[s_])]) (fun s_ w' => (w'.cell? ⟨gb628, 0, none⟩ = some (.slice Ao41 t622.length co41) ∧ w'.cell? ⟨gb629, 0, none⟩ = some (.slice Ao43 t625.length co43)) ∧ (Kd.R (Kd.int .u64) 22 w' w.heap.size (fun k_ => some k_ ≠ (.slice Ao43 t625.length co43 : Value).ownBlock ∧ some k_ ≠ (s_ : Value).ownBlock) (.slice Ao41 t622.length co41) t622) ∧ (Kd.R (Kd.int .u64) 22 w' w.heap.size (fun k_ => some k_ ≠ (.slice Ao41 t622.length co41 : Value).ownBlock ∧ some k_ ≠ (s_ : Value).ownBlock) (.slice Ao43 t625.length co43) t625) ∧ (Kd.R (Kd.int .u64) 22 w' w.heap.size (fun k_ => some k_ ≠ (.slice Ao41 t622.length co41 : Value).ownBlock ∧ some k_ ≠ (.slice Ao43 t625.length co43 : Value).ownBlock) s_ t630) ∧ (w'.heap[gb619]? = some (.cells #[.int .u64 a0_0, .int .u64 a0_1] 50 (0, 0))) ∧ (w'.heap[gb620]? = some (.cells #[.int .u64 a1_0, .int .u64 a1_1] 50 (0, 0))) ∧ (w'.heap[gb628]? = some (.cells #[.slice Ao41 t622.length co41] 53 (0, 0))) ∧ (w'.heap[gb629]? = some (.cells #[.slice Ao43 t625.length co43] 53 (0, 0))) ∧ (Below w.heap.size w w')) ?_ ?_
             rotate_left
             ·intro hJ1
              refine join_ (σ := Nat) 5 #[true, false, false, false, true, false, true, false] (fun s_ => [(7, .pointer (some ⟨s_, 0, none⟩))]) (fun s_ w' => (w'.cell? ⟨gb628, 0, none⟩ = some (.slice Ao41 t622.length co41) ∧ w'.cell? ⟨gb629, 0, none⟩ = some (.slice Ao43 t625.length co43)) ∧ (Kd.R (Kd.int .u64) 22 w' w.heap.size (fun k_ => some k_ ≠ (.slice Ao43 t625.length co43 : Value).ownBlock) (.slice Ao41 t622.length co41) t622) ∧ (Kd.R (Kd.int .u64) 22 w' w.heap.size (fun k_ => some k_ ≠ (.slice Ao41 t622.length co41 : Value).ownBlock) (.slice Ao43 t625.length co43) t625) ∧ (w'.heap[gb619]? = some (.cells #[.int .u64 a0_0, .int .u64 a0_1] 50 (0, 0))) ∧ (w'.heap[gb620]? = some (.cells #[.int .u64 a1_0, .int .u64 a1_1] 50 (0, 0))) ∧ (w'.heap[gb628]? = some (.cells #[.slice Ao41 t622.length co41] 53 (0, 0))) ∧ (w'.heap[gb629]? = some (.cells #[.slice Ao43 t625.length co43] 53 (0, 0))) ∧ (w'.heap[s_]? = some (.cells #[.slice none 0 0] 53 (0, 0))) ∧ (w.heap.size ≤ s_) ∧ (w.heap.size ≤ s_) ∧ (gb619 ≠ s_) ∧ (s_ ≠ gb619) ∧ (gb620 ≠ s_) ∧ (s_ ≠ gb620) ∧ (gb628 ≠ s_) ∧ (s_ ≠ gb628) ∧ (gb629 ≠ s_) ∧ (s_ ≠ gb629) ∧ (Below w.heap.size w w')) ?_ ?_
              rotate_left
              ·intro hJ6
               refine two_ (i := 1) (j := 6) (Ni := some 15) (Nj := some 7) #[true, true, false, false, true, false, false, false] #[true, false, false, false, true, false, true, false] rfl rfl rfl rfl (two_of HT_.out (by kernel_rfl)) (by decide) (by decide) (fun K hK => ?_) (fun K hK => ?_)
               ·skip
                refine goes_ Try.func33 (by kernel_rfl) rfl #[.int .u64 1] (by rfl) rfl rfl mp_ ?_
                with_reducible refine (r1_Of.calls k 1 t630 _ A7.out).mono ?_
                rintro e w47 ⟨v631, rfl, ho0, hb⟩
                refine ⟨_, rfl, ?_⟩
                have HO632 := A_ (Kd.R_lower (Kd.R_new' (Kd.R_new' ho0 (Kd.R_lt (kr_ HO624.out))) (Kd.R_lt (kr_ HO627.out))) (below_size (hb4_ HB.out GE619.out GE620.out GE628.out GE629.out)))
                replace HO624 := A_ (Kd.R_elder' (kr_ HO624.out) (Kd.R_base ho0) hb)
                replace HO627 := A_ (Kd.R_elder' (kr_ HO627.out) (Kd.R_base ho0) hb)
                replace BK619 := A_ (bb_ BK619.out hb)
                replace BK620 := A_ (bb_ BK620.out hb)
                replace BK628 := A_ (bb_ BK628.out hb)
                replace BK629 := A_ (bb_ BK629.out hb)
                replace HB := A_ (below_step (hb4_ HB.out GE619.out GE620.out GE628.out GE629.out) hb);(try clear hb);(try clear hb2);(try clear hk);(try clear hi);(try clear ho0)
                refine hK.out _ _ ⟨bc_ BK628.out 0, bc_ BK629.out 0⟩ (fun hHeld => ?_)
                clear hK K
                refine norm_ (a' := ?_) ?_ ?_
                rotate_left
                ·show Act.put _ (some 15) _ = _
                 simp only [Act.put, lI_, l0_, lS_, i64_w, i32_w]
                 rfl
                exact norm_ pa_ (hJ1 (_) _ ⟨hHeld, (kr_ HO624.out), (kr_ HO627.out), (by (with_reducible repeat (first | apply Kd.R_alloc | apply Kd.R_drewN | apply Kd.R_drew)); exact Kd.R_mono HO632.out (fun _ hk => ⟨hk.1.2, hk.2⟩)), (bk_ BK619.out), (bk_ BK620.out), (bk_ BK628.out), (bk_ BK629.out), (hb4_ HB.out GE619.out GE620.out GE628.out GE629.out)⟩)
               ·skip
                refine box_step ?hg (N := 7) ?hd (cs := #[.slice none 0 0]) (t := 53) ?hr ?_; (case hd => rfl); (case hg => rfl); (case hr => first | (go_simp; done) | (go_simp; rfl))
                intro gb642 hg w47 hbox hb
                have BK642 := A_ (hbox)
                have GW642 := A_ (sz_ hg (hb4_ HB.out GE619.out GE620.out GE628.out GE629.out))
                have GE642 := A_ (sz_ hg (hb4_ HB.out GE619.out GE620.out GE628.out GE629.out))
                have NB619_642 := A_ (nl_ hg BK619.out)
                have NB642_619 := A_ (ng_ hg BK619.out)
                have NB620_642 := A_ (nl_ hg BK620.out)
                have NB642_620 := A_ (ng_ hg BK620.out)
                have NB628_642 := A_ (nl_ hg BK628.out)
                have NB642_628 := A_ (ng_ hg BK628.out)
                have NB629_642 := A_ (nl_ hg BK629.out)
                have NB642_629 := A_ (ng_ hg BK629.out)
                replace HO624 := A_ (Kd.R_below (kr_ HO624.out) hb)
                replace HO627 := A_ (Kd.R_below (kr_ HO627.out) hb)
                replace BK619 := A_ (bb_ BK619.out hb)
                replace BK620 := A_ (bb_ BK620.out hb)
                replace BK628 := A_ (bb_ BK628.out hb)
                replace BK629 := A_ (bb_ BK629.out hb)
                replace HB := A_ (below_step (hb4_ HB.out GE619.out GE620.out GE628.out GE629.out) hb);clear hb hbox hg
                refine hK.out _ _ ⟨bc_ BK628.out 0, bc_ BK629.out 0⟩ (fun hHeld => ?_)
                clear hK K
                refine norm_ (a' := ?_) ?_ ?_
                rotate_left
                ·show Act.put _ (some 7) _ = _
                 simp only [Act.put, lI_, l0_, lS_, i64_w, i32_w]
                 rfl
                exact norm_ pa_ (hJ6 (gb642) _ ⟨hHeld, (kr_ HO624.out), (kr_ HO627.out), (bk_ BK619.out), (bk_ BK620.out), (bk_ BK628.out), (bk_ BK629.out), (bk_ BK642.out), GW642.out, GE642.out, NB619_642.out, NB642_619.out, NB620_642.out, NB642_620.out, NB628_642.out, NB642_628.out, NB629_642.out, NB642_629.out, (by repeat (first | (with_reducible first | exact HB.out | apply below_alloc | apply pw_below_drewN | apply below_drew1 | refine below_set ?_ GE619.out | refine below_set ?_ GE620.out | refine below_set ?_ GE628.out | refine below_set ?_ GE629.out | refine below_set ?_ GE642.out) | exact HB.out))⟩)
              ·skip
               rintro gb642 w48 ⟨hS_, h0_, h1_, h2_, h3_, h4_, h5_, h6_, h7_, h8_, h9_, h10_, h11_, h12_, h13_, h14_, h15_, h16_, h17_⟩
               have n0_ : Aside0 (Kd.R (Kd.int .u64) 22 w48 w.heap.size (fun k_ => some k_ ≠ (.slice Ao43 t625.length co43 : Value).ownBlock) (.slice Ao41 t622.length co41) t622) := ⟨h0_⟩
               have n1_ : Aside0 (Kd.R (Kd.int .u64) 22 w48 w.heap.size (fun k_ => some k_ ≠ (.slice Ao41 t622.length co41 : Value).ownBlock) (.slice Ao43 t625.length co43) t625) := ⟨h1_⟩
               have n2_ : Aside0 (w48.heap[gb619]? = some (.cells #[.int .u64 a0_0, .int .u64 a0_1] 50 (0, 0))) := ⟨h2_⟩
               have n3_ : Aside0 (w48.heap[gb620]? = some (.cells #[.int .u64 a1_0, .int .u64 a1_1] 50 (0, 0))) := ⟨h3_⟩
               have n4_ : Aside0 (w48.heap[gb628]? = some (.cells #[.slice Ao41 t622.length co41] 53 (0, 0))) := ⟨h4_⟩
               have n5_ : Aside0 (w48.heap[gb629]? = some (.cells #[.slice Ao43 t625.length co43] 53 (0, 0))) := ⟨h5_⟩
               have n6_ : Aside0 (w48.heap[gb642]? = some (.cells #[.slice none 0 0] 53 (0, 0))) := ⟨h6_⟩
               have n7_ : Aside0 (w.heap.size ≤ gb642) := ⟨h7_⟩
               have n8_ : Aside0 (w.heap.size ≤ gb642) := ⟨h8_⟩
               have n9_ : Aside0 (gb619 ≠ gb642) := ⟨h9_⟩
               have n10_ : Aside0 (gb642 ≠ gb619) := ⟨h10_⟩
               have n11_ : Aside0 (gb620 ≠ gb642) := ⟨h11_⟩
               have n12_ : Aside0 (gb642 ≠ gb620) := ⟨h12_⟩
               have n13_ : Aside0 (gb628 ≠ gb642) := ⟨h13_⟩
               have n14_ : Aside0 (gb642 ≠ gb628) := ⟨h14_⟩
               have n15_ : Aside0 (gb629 ≠ gb642) := ⟨h15_⟩
               have n16_ : Aside0 (gb642 ≠ gb629) := ⟨h16_⟩
               have n17_ : Aside0 (Below w.heap.size w w48) := ⟨h17_⟩
               clear HO624;clear HO627;clear BK619;clear BK620;clear BK628;clear BK629;clear HB;clear h0_ h1_ h2_ h3_ h4_ h5_ h6_ h7_ h8_ h9_ h10_ h11_ h12_ h13_ h14_ h15_ h16_ h17_;have HO624 := n0_;have HO627 := n1_;have BK619 := n2_;have BK620 := n3_;have BK628 := n4_;have BK629 := n5_;have BK642 := n6_;have GW642 := n7_;have GE642 := n8_;have NB619_642 := n9_;have NB642_619 := n10_;have NB620_642 := n11_;have NB642_620 := n12_;have NB628_642 := n13_;have NB642_628 := n14_;have NB629_642 := n15_;have NB642_629 := n16_;have HB := n17_;clear n0_ n1_ n2_ n3_ n4_ n5_ n6_ n7_ n8_ n9_ n10_ n11_ n12_ n13_ n14_ n15_ n16_ n17_
               have hHeld : w48.cell? ⟨gb628, 0, none⟩ = some (.slice Ao41 t622.length co41) ∧ w48.cell? ⟨gb629, 0, none⟩ = some (.slice Ao43 t625.length co43) := hS_
               refine norm_ (a' := ?_) ?_ ?_
               rotate_left
               ·simp only [putAll, Act.put, lI_, l0_, lS_]
                rfl
               refine one_ (i := 1) (N := some 15) #[true, true, false, false, true, false, true, false] rfl rfl (one_of HT_.out (by kernel_rfl)) (by decide) (fun K hK => ?_)
               refine goes_ Try.func33 (by kernel_rfl) rfl #[.int .u64 1] (by rfl) rfl rfl mp_ ?_
               with_reducible refine (r1_Of.calls k 1 t630 _ A7.out).mono ?_
               rintro e w49 ⟨v631, rfl, ho0, hb⟩
               refine ⟨_, rfl, ?_⟩
               have HO632 := A_ (Kd.R_lower (Kd.R_new' (Kd.R_new' ho0 (Kd.R_lt (kr_ HO624.out))) (Kd.R_lt (kr_ HO627.out))) (below_size (by repeat (first | (with_reducible first | exact HB.out | apply below_alloc | apply pw_below_drewN | apply below_drew1 | refine below_set ?_ GE619.out | refine below_set ?_ GE620.out | refine below_set ?_ GE628.out | refine below_set ?_ GE629.out | refine below_set ?_ GE642.out) | exact HB.out))))
               replace HO624 := A_ (Kd.R_elder' (kr_ HO624.out) (Kd.R_base ho0) hb)
               replace HO627 := A_ (Kd.R_elder' (kr_ HO627.out) (Kd.R_base ho0) hb)
               replace BK619 := A_ (bb_ BK619.out hb)
               replace BK620 := A_ (bb_ BK620.out hb)
               replace BK628 := A_ (bb_ BK628.out hb)
               replace BK629 := A_ (bb_ BK629.out hb)
               replace BK642 := A_ (bb_ BK642.out hb)
               replace HB := A_ (below_step (by repeat (first | (with_reducible first | exact HB.out | apply below_alloc | apply pw_below_drewN | apply below_drew1 | refine below_set ?_ GE619.out | refine below_set ?_ GE620.out | refine below_set ?_ GE628.out | refine below_set ?_ GE629.out | refine below_set ?_ GE642.out) | exact HB.out)) hb);(try clear hb);(try clear hb2);(try clear hk);(try clear hi);(try clear ho0)
               refine hK.out _ _ ⟨bc_ BK628.out 0, bc_ BK629.out 0⟩ (fun hHeld => ?_)
               clear hK K
               refine norm_ (a' := ?_) ?_ ?_
               rotate_left
               ·show Act.put _ (some 15) _ = _
                simp only [Act.put, lI_, l0_, lS_, i64_w, i32_w]
                rfl
               exact norm_ pa_ (hJ1_6 (_, gb642) _ ⟨hHeld, (kr_ HO624.out), (kr_ HO627.out), (by (with_reducible repeat (first | apply Kd.R_alloc | apply Kd.R_drewN | apply Kd.R_drew)); exact Kd.R_mono HO632.out (fun _ hk => ⟨hk.1.2, hk.2⟩)), (bk_ BK619.out), (bk_ BK620.out), (bk_ BK628.out), (bk_ BK629.out), (bk_ BK642.out), GW642.out, GE642.out, NB619_642.out, NB642_619.out, NB620_642.out, NB642_620.out, NB628_642.out, NB642_628.out, NB629_642.out, NB642_629.out, (by repeat (first | (with_reducible first | exact HB.out | apply below_alloc | apply pw_below_drewN | apply below_drew1 | refine below_set ?_ GE619.out | refine below_set ?_ GE620.out | refine below_set ?_ GE628.out | refine below_set ?_ GE629.out | refine below_set ?_ GE642.out) | exact HB.out))⟩)
             ·skip
              rintro v631 w48 ⟨hS_, h0_, h1_, h2_, h3_, h4_, h5_, h6_, h7_⟩
              have n0_ : Aside0 (Kd.R (Kd.int .u64) 22 w48 w.heap.size (fun k_ => some k_ ≠ (.slice Ao43 t625.length co43 : Value).ownBlock ∧ some k_ ≠ (v631 : Value).ownBlock) (.slice Ao41 t622.length co41) t622) := ⟨h0_⟩
              have n1_ : Aside0 (Kd.R (Kd.int .u64) 22 w48 w.heap.size (fun k_ => some k_ ≠ (.slice Ao41 t622.length co41 : Value).ownBlock ∧ some k_ ≠ (v631 : Value).ownBlock) (.slice Ao43 t625.length co43) t625) := ⟨h1_⟩
              have n2_ : Aside0 (Kd.R (Kd.int .u64) 22 w48 w.heap.size (fun k_ => some k_ ≠ (.slice Ao41 t622.length co41 : Value).ownBlock ∧ some k_ ≠ (.slice Ao43 t625.length co43 : Value).ownBlock) v631 t630) := ⟨h2_⟩
              have n3_ : Aside0 (w48.heap[gb619]? = some (.cells #[.int .u64 a0_0, .int .u64 a0_1] 50 (0, 0))) := ⟨h3_⟩
              have n4_ : Aside0 (w48.heap[gb620]? = some (.cells #[.int .u64 a1_0, .int .u64 a1_1] 50 (0, 0))) := ⟨h4_⟩
              have n5_ : Aside0 (w48.heap[gb628]? = some (.cells #[.slice Ao41 t622.length co41] 53 (0, 0))) := ⟨h5_⟩
              have n6_ : Aside0 (w48.heap[gb629]? = some (.cells #[.slice Ao43 t625.length co43] 53 (0, 0))) := ⟨h6_⟩
              have n7_ : Aside0 (Below w.heap.size w w48) := ⟨h7_⟩
              clear HO624;clear HO627;clear BK619;clear BK620;clear BK628;clear BK629;clear HB;clear h0_ h1_ h2_ h3_ h4_ h5_ h6_ h7_;have HO624 := n0_;have HO627 := n1_;have HO632 := n2_;have BK619 := n3_;have BK620 := n4_;have BK628 := n5_;have BK629 := n6_;have HB := n7_;clear n0_ n1_ n2_ n3_ n4_ n5_ n6_ n7_
              have hHeld : w48.cell? ⟨gb628, 0, none⟩ = some (.slice Ao41 t622.length co41) ∧ w48.cell? ⟨gb629, 0, none⟩ = some (.slice Ao43 t625.length co43) := hS_
              obtain ⟨Ao49, co49, eo49⟩ := Kd.R_slice HO632.out
              (first | subst eo49 | (injection eo49 with f1_ f2_ f3_; have f4_ := f1_.symm; have f5_ := f3_.symm; clear f1_ f2_ f3_; subst f4_; subst f5_))
              refine norm_ (a' := ?_) ?_ ?_
              rotate_left
              ·simp only [putAll, Act.put, lI_, l0_, lS_]
               rfl
              refine two_ (i := 2) (j := 6) (Ni := some 16) (Nj := some 7) #[true, true, true, false, true, false, false, false] #[true, true, false, false, true, false, true, false] rfl rfl rfl rfl (two_of HT_.out (by kernel_rfl)) (by decide) (by decide) (fun K hK => ?_) (fun K hK => ?_)
              ·skip
               refine goes_ Try.func32 (by kernel_rfl) rfl #[.agg #[.slice Ao49 t630.length co49], .int .i64 128] (by rfl) rfl rfl mp_ ?_
               with_reducible refine (r1_Shl.calls k _ _ t630 128 t633 _ ?side1 ?side2 A8.out).mono ?_
               (case side1 => exact cs_ ((Kd.R_reads' HO632.out).2.2))
               (case side2 => exact (Kd.R_reads' HO632.out).2.1)
               rintro e w50 ⟨v634, rfl, ho0, hb⟩
               refine ⟨_, rfl, ?_⟩
               have HO635 := A_ (Kd.R_lower (Kd.R_new' (Kd.R_new' (Kd.R_new' ho0 (Kd.R_lt (kr_ HO624.out))) (Kd.R_lt (kr_ HO627.out))) (Kd.R_lt (kr_ HO632.out))) (below_size (hb4_ HB.out GE619.out GE620.out GE628.out GE629.out)))
               replace HO624 := A_ (Kd.R_elder' (kr_ HO624.out) (Kd.R_base ho0) hb)
               replace HO627 := A_ (Kd.R_elder' (kr_ HO627.out) (Kd.R_base ho0) hb)
               replace HO632 := A_ (Kd.R_elder' (kr_ HO632.out) (Kd.R_base ho0) hb)
               replace BK619 := A_ (bb_ BK619.out hb)
               replace BK620 := A_ (bb_ BK620.out hb)
               replace BK628 := A_ (bb_ BK628.out hb)
               replace BK629 := A_ (bb_ BK629.out hb)
               replace HB := A_ (below_step (hb4_ HB.out GE619.out GE620.out GE628.out GE629.out) hb);(try clear hb);(try clear hb2);(try clear hk);(try clear hi);(try clear ho0)
               refine hK.out _ _ ⟨bc_ BK628.out 0, bc_ BK629.out 0⟩ (fun hHeld => ?_)
               clear hK K
               refine norm_ (a' := ?_) ?_ ?_
               rotate_left
               ·show Act.put _ (some 16) _ = _
                simp only [Act.put, lI_, l0_, lS_, i64_w, i32_w]
                rfl
               exact norm_ pa_ (hJ1_2 (.slice Ao49 t630.length co49, _) _ ⟨hHeld, (by (with_reducible repeat (first | apply Kd.R_alloc | apply Kd.R_drewN | apply Kd.R_drew)); exact Kd.R_mono HO624.out (fun _ hk => ⟨hk.1.1, ⟨hk.1.2, hk.2⟩⟩)), (by (with_reducible repeat (first | apply Kd.R_alloc | apply Kd.R_drewN | apply Kd.R_drew)); exact Kd.R_mono HO627.out (fun _ hk => ⟨hk.1.1, ⟨hk.1.2, hk.2⟩⟩)), (by (with_reducible repeat (first | apply Kd.R_alloc | apply Kd.R_drewN | apply Kd.R_drew)); exact Kd.R_mono HO632.out (fun _ hk => ⟨hk.1.1, ⟨hk.1.2, hk.2⟩⟩)), (by (with_reducible repeat (first | apply Kd.R_alloc | apply Kd.R_drewN | apply Kd.R_drew)); exact Kd.R_mono HO635.out (fun _ hk => ⟨hk.1.1.2, ⟨hk.1.2, hk.2⟩⟩)), (bk_ BK619.out), (bk_ BK620.out), (bk_ BK628.out), (bk_ BK629.out), (hb4_ HB.out GE619.out GE620.out GE628.out GE629.out)⟩)
              ·skip
               refine box_step ?hg (N := 7) ?hd (cs := #[.slice none 0 0]) (t := 53) ?hr ?_; (case hd => rfl); (case hg => rfl); (case hr => first | (go_simp; done) | (go_simp; rfl))
               intro gb642 hg w49 hbox hb
               have BK642 := A_ (hbox)
               have GW642 := A_ (sz_ hg (hb4_ HB.out GE619.out GE620.out GE628.out GE629.out))
               have GE642 := A_ (sz_ hg (hb4_ HB.out GE619.out GE620.out GE628.out GE629.out))
               have NB619_642 := A_ (nl_ hg BK619.out)
               have NB642_619 := A_ (ng_ hg BK619.out)
               have NB620_642 := A_ (nl_ hg BK620.out)
               have NB642_620 := A_ (ng_ hg BK620.out)
               have NB628_642 := A_ (nl_ hg BK628.out)
               have NB642_628 := A_ (ng_ hg BK628.out)
               have NB629_642 := A_ (nl_ hg BK629.out)
               have NB642_629 := A_ (ng_ hg BK629.out)
               replace HO624 := A_ (Kd.R_below (kr_ HO624.out) hb)
               replace HO627 := A_ (Kd.R_below (kr_ HO627.out) hb)
               replace HO632 := A_ (Kd.R_below (kr_ HO632.out) hb)
               replace BK619 := A_ (bb_ BK619.out hb)
               replace BK620 := A_ (bb_ BK620.out hb)
               replace BK628 := A_ (bb_ BK628.out hb)
               replace BK629 := A_ (bb_ BK629.out hb)
               replace HB := A_ (below_step (hb4_ HB.out GE619.out GE620.out GE628.out GE629.out) hb);clear hb hbox hg
               refine hK.out _ _ ⟨bc_ BK628.out 0, bc_ BK629.out 0⟩ (fun hHeld => ?_)
               clear hK K
               refine norm_ (a' := ?_) ?_ ?_
               rotate_left
               ·show Act.put _ (some 7) _ = _
                simp only [Act.put, lI_, l0_, lS_, i64_w, i32_w]
                rfl
               exact norm_ pa_ (hJ1_6 (_, gb642) _ ⟨hHeld, (kr_ HO624.out), (kr_ HO627.out), (kr_ HO632.out), (bk_ BK619.out), (bk_ BK620.out), (bk_ BK628.out), (bk_ BK629.out), (bk_ BK642.out), GW642.out, GE642.out, NB619_642.out, NB642_619.out, NB620_642.out, NB642_620.out, NB628_642.out, NB642_628.out, NB629_642.out, NB642_629.out, (by repeat (first | (with_reducible first | exact HB.out | apply below_alloc | apply pw_below_drewN | apply below_drew1 | refine below_set ?_ GE619.out | refine below_set ?_ GE620.out | refine below_set ?_ GE628.out | refine below_set ?_ GE629.out | refine below_set ?_ GE642.out) | exact HB.out))⟩)
            ·skip
             rintro ⟨v631, gb642⟩ w49 ⟨hS_, h0_, h1_, h2_, h3_, h4_, h5_, h6_, h7_, h8_, h9_, h10_, h11_, h12_, h13_, h14_, h15_, h16_, h17_, h18_⟩
             have n0_ : Aside0 (Kd.R (Kd.int .u64) 22 w49 w.heap.size (fun k_ => some k_ ≠ (.slice Ao43 t625.length co43 : Value).ownBlock ∧ some k_ ≠ (v631 : Value).ownBlock) (.slice Ao41 t622.length co41) t622) := ⟨h0_⟩
             have n1_ : Aside0 (Kd.R (Kd.int .u64) 22 w49 w.heap.size (fun k_ => some k_ ≠ (.slice Ao41 t622.length co41 : Value).ownBlock ∧ some k_ ≠ (v631 : Value).ownBlock) (.slice Ao43 t625.length co43) t625) := ⟨h1_⟩
             have n2_ : Aside0 (Kd.R (Kd.int .u64) 22 w49 w.heap.size (fun k_ => some k_ ≠ (.slice Ao41 t622.length co41 : Value).ownBlock ∧ some k_ ≠ (.slice Ao43 t625.length co43 : Value).ownBlock) v631 t630) := ⟨h2_⟩
             have n3_ : Aside0 (w49.heap[gb619]? = some (.cells #[.int .u64 a0_0, .int .u64 a0_1] 50 (0, 0))) := ⟨h3_⟩
             have n4_ : Aside0 (w49.heap[gb620]? = some (.cells #[.int .u64 a1_0, .int .u64 a1_1] 50 (0, 0))) := ⟨h4_⟩
             have n5_ : Aside0 (w49.heap[gb628]? = some (.cells #[.slice Ao41 t622.length co41] 53 (0, 0))) := ⟨h5_⟩
             have n6_ : Aside0 (w49.heap[gb629]? = some (.cells #[.slice Ao43 t625.length co43] 53 (0, 0))) := ⟨h6_⟩
             have n7_ : Aside0 (w49.heap[gb642]? = some (.cells #[.slice none 0 0] 53 (0, 0))) := ⟨h7_⟩
             have n8_ : Aside0 (w.heap.size ≤ gb642) := ⟨h8_⟩
             have n9_ : Aside0 (w.heap.size ≤ gb642) := ⟨h9_⟩
             have n10_ : Aside0 (gb619 ≠ gb642) := ⟨h10_⟩
             have n11_ : Aside0 (gb642 ≠ gb619) := ⟨h11_⟩
             have n12_ : Aside0 (gb620 ≠ gb642) := ⟨h12_⟩
             have n13_ : Aside0 (gb642 ≠ gb620) := ⟨h13_⟩
             have n14_ : Aside0 (gb628 ≠ gb642) := ⟨h14_⟩
             have n15_ : Aside0 (gb642 ≠ gb628) := ⟨h15_⟩
             have n16_ : Aside0 (gb629 ≠ gb642) := ⟨h16_⟩
             have n17_ : Aside0 (gb642 ≠ gb629) := ⟨h17_⟩
             have n18_ : Aside0 (Below w.heap.size w w49) := ⟨h18_⟩
             clear HO624;clear HO627;clear BK619;clear BK620;clear BK628;clear BK629;clear HB;clear h0_ h1_ h2_ h3_ h4_ h5_ h6_ h7_ h8_ h9_ h10_ h11_ h12_ h13_ h14_ h15_ h16_ h17_ h18_;have HO624 := n0_;have HO627 := n1_;have HO632 := n2_;have BK619 := n3_;have BK620 := n4_;have BK628 := n5_;have BK629 := n6_;have BK642 := n7_;have GW642 := n8_;have GE642 := n9_;have NB619_642 := n10_;have NB642_619 := n11_;have NB620_642 := n12_;have NB642_620 := n13_;have NB628_642 := n14_;have NB642_628 := n15_;have NB629_642 := n16_;have NB642_629 := n17_;have HB := n18_;clear n0_ n1_ n2_ n3_ n4_ n5_ n6_ n7_ n8_ n9_ n10_ n11_ n12_ n13_ n14_ n15_ n16_ n17_ n18_
             have hHeld : w49.cell? ⟨gb628, 0, none⟩ = some (.slice Ao41 t622.length co41) ∧ w49.cell? ⟨gb629, 0, none⟩ = some (.slice Ao43 t625.length co43) := hS_
             obtain ⟨Ao50, co50, eo50⟩ := Kd.R_slice HO632.out
             (first | subst eo50 | (injection eo50 with f1_ f2_ f3_; have f4_ := f1_.symm; have f5_ := f3_.symm; clear f1_ f2_ f3_; subst f4_; subst f5_))
             refine norm_ (a' := ?_) ?_ ?_
             rotate_left
             ·simp only [putAll, Act.put, lI_, l0_, lS_]
              rfl
             refine one_ (i := 2) (N := some 16) #[true, true, true, false, true, false, true, false] rfl rfl (one_of HT_.out (by kernel_rfl)) (by decide) (fun K hK => ?_)
             refine goes_ Try.func32 (by kernel_rfl) rfl #[.agg #[.slice Ao50 t630.length co50], .int .i64 128] (by rfl) rfl rfl mp_ ?_
             with_reducible refine (r1_Shl.calls k _ _ t630 128 t633 _ ?side1 ?side2 A8.out).mono ?_
             (case side1 => exact cs_ ((Kd.R_reads' HO632.out).2.2))
             (case side2 => exact (Kd.R_reads' HO632.out).2.1)
             rintro e w51 ⟨v634, rfl, ho0, hb⟩
             refine ⟨_, rfl, ?_⟩
             have HO635 := A_ (Kd.R_lower (Kd.R_new' (Kd.R_new' (Kd.R_new' ho0 (Kd.R_lt (kr_ HO624.out))) (Kd.R_lt (kr_ HO627.out))) (Kd.R_lt (kr_ HO632.out))) (below_size (by repeat (first | (with_reducible first | exact HB.out | apply below_alloc | apply pw_below_drewN | apply below_drew1 | refine below_set ?_ GE619.out | refine below_set ?_ GE620.out | refine below_set ?_ GE628.out | refine below_set ?_ GE629.out | refine below_set ?_ GE642.out) | exact HB.out))))
             replace HO624 := A_ (Kd.R_elder' (kr_ HO624.out) (Kd.R_base ho0) hb)
             replace HO627 := A_ (Kd.R_elder' (kr_ HO627.out) (Kd.R_base ho0) hb)
             replace HO632 := A_ (Kd.R_elder' (kr_ HO632.out) (Kd.R_base ho0) hb)
             replace BK619 := A_ (bb_ BK619.out hb)
             replace BK620 := A_ (bb_ BK620.out hb)
             replace BK628 := A_ (bb_ BK628.out hb)
             replace BK629 := A_ (bb_ BK629.out hb)
             replace BK642 := A_ (bb_ BK642.out hb)
             replace HB := A_ (below_step (by repeat (first | (with_reducible first | exact HB.out | apply below_alloc | apply pw_below_drewN | apply below_drew1 | refine below_set ?_ GE619.out | refine below_set ?_ GE620.out | refine below_set ?_ GE628.out | refine below_set ?_ GE629.out | refine below_set ?_ GE642.out) | exact HB.out)) hb);(try clear hb);(try clear hb2);(try clear hk);(try clear hi);(try clear ho0)
             refine hK.out _ _ ⟨bc_ BK628.out 0, bc_ BK629.out 0⟩ (fun hHeld => ?_)
             clear hK K
             refine norm_ (a' := ?_) ?_ ?_
             rotate_left
             ·show Act.put _ (some 16) _ = _
              simp only [Act.put, lI_, l0_, lS_, i64_w, i32_w]
              rfl
             exact norm_ pa_ (hJ1_2_6 (.slice Ao50 t630.length co50, _, gb642) _ ⟨hHeld, (by (with_reducible repeat (first | apply Kd.R_alloc | apply Kd.R_drewN | apply Kd.R_drew)); exact Kd.R_mono HO624.out (fun _ hk => ⟨hk.1.1, ⟨hk.1.2, hk.2⟩⟩)), (by (with_reducible repeat (first | apply Kd.R_alloc | apply Kd.R_drewN | apply Kd.R_drew)); exact Kd.R_mono HO627.out (fun _ hk => ⟨hk.1.1, ⟨hk.1.2, hk.2⟩⟩)), (by (with_reducible repeat (first | apply Kd.R_alloc | apply Kd.R_drewN | apply Kd.R_drew)); exact Kd.R_mono HO632.out (fun _ hk => ⟨hk.1.1, ⟨hk.1.2, hk.2⟩⟩)), (by (with_reducible repeat (first | apply Kd.R_alloc | apply Kd.R_drewN | apply Kd.R_drew)); exact Kd.R_mono HO635.out (fun _ hk => ⟨hk.1.1.2, ⟨hk.1.2, hk.2⟩⟩)), (bk_ BK619.out), (bk_ BK620.out), (bk_ BK628.out), (bk_ BK629.out), (bk_ BK642.out), GW642.out, GE642.out, NB619_642.out, NB642_619.out, NB620_642.out, NB642_620.out, NB628_642.out, NB642_628.out, NB629_642.out, NB642_629.out, (by repeat (first | (with_reducible first | exact HB.out | apply below_alloc | apply pw_below_drewN | apply below_drew1 | refine below_set ?_ GE619.out | refine below_set ?_ GE620.out | refine below_set ?_ GE628.out | refine below_set ?_ GE629.out | refine below_set ?_ GE642.out) | exact HB.out))⟩)
           ·skip
            rintro ⟨v631, v634⟩ w50 ⟨hS_, h0_, h1_, h2_, h3_, h4_, h5_, h6_, h7_, h8_⟩
            have n0_ : Aside0 (Kd.R (Kd.int .u64) 22 w50 w.heap.size (fun k_ => some k_ ≠ (.slice Ao43 t625.length co43 : Value).ownBlock ∧ some k_ ≠ (v631 : Value).ownBlock ∧ some k_ ≠ (v634 : Value).ownBlock) (.slice Ao41 t622.length co41) t622) := ⟨h0_⟩
            have n1_ : Aside0 (Kd.R (Kd.int .u64) 22 w50 w.heap.size (fun k_ => some k_ ≠ (.slice Ao41 t622.length co41 : Value).ownBlock ∧ some k_ ≠ (v631 : Value).ownBlock ∧ some k_ ≠ (v634 : Value).ownBlock) (.slice Ao43 t625.length co43) t625) := ⟨h1_⟩
            have n2_ : Aside0 (Kd.R (Kd.int .u64) 22 w50 w.heap.size (fun k_ => some k_ ≠ (.slice Ao41 t622.length co41 : Value).ownBlock ∧ some k_ ≠ (.slice Ao43 t625.length co43 : Value).ownBlock ∧ some k_ ≠ (v634 : Value).ownBlock) v631 t630) := ⟨h2_⟩
            have n3_ : Aside0 (Kd.R (Kd.int .u64) 22 w50 w.heap.size (fun k_ => some k_ ≠ (.slice Ao41 t622.length co41 : Value).ownBlock ∧ some k_ ≠ (.slice Ao43 t625.length co43 : Value).ownBlock ∧ some k_ ≠ (v631 : Value).ownBlock) v634 t633) := ⟨h3_⟩
            have n4_ : Aside0 (w50.heap[gb619]? = some (.cells #[.int .u64 a0_0, .int .u64 a0_1] 50 (0, 0))) := ⟨h4_⟩
            have n5_ : Aside0 (w50.heap[gb620]? = some (.cells #[.int .u64 a1_0, .int .u64 a1_1] 50 (0, 0))) := ⟨h5_⟩
            have n6_ : Aside0 (w50.heap[gb628]? = some (.cells #[.slice Ao41 t622.length co41] 53 (0, 0))) := ⟨h6_⟩
            have n7_ : Aside0 (w50.heap[gb629]? = some (.cells #[.slice Ao43 t625.length co43] 53 (0, 0))) := ⟨h7_⟩
            have n8_ : Aside0 (Below w.heap.size w w50) := ⟨h8_⟩
            clear HO624;clear HO627;clear BK619;clear BK620;clear BK628;clear BK629;clear HB;clear h0_ h1_ h2_ h3_ h4_ h5_ h6_ h7_ h8_;have HO624 := n0_;have HO627 := n1_;have HO632 := n2_;have HO635 := n3_;have BK619 := n4_;have BK620 := n5_;have BK628 := n6_;have BK629 := n7_;have HB := n8_;clear n0_ n1_ n2_ n3_ n4_ n5_ n6_ n7_ n8_
            have hHeld : w50.cell? ⟨gb628, 0, none⟩ = some (.slice Ao41 t622.length co41) ∧ w50.cell? ⟨gb629, 0, none⟩ = some (.slice Ao43 t625.length co43) := hS_
            obtain ⟨Ao51, co51, eo51⟩ := Kd.R_slice HO635.out
            (first | subst eo51 | (injection eo51 with f1_ f2_ f3_; have f4_ := f1_.symm; have f5_ := f3_.symm; clear f1_ f2_ f3_; subst f4_; subst f5_))
            refine norm_ (a' := ?_) ?_ ?_
            rotate_left
            ·simp only [putAll, Act.put, lI_, l0_, lS_]
             rfl
            refine two_ (i := 3) (j := 6) (Ni := some 17) (Nj := some 7) #[true, true, true, true, true, false, false, false] #[true, true, true, false, true, false, true, false] rfl rfl rfl rfl (two_of HT_.out (by kernel_rfl)) (by decide) (by decide) (fun K hK => ?_) (fun K hK => ?_)
            ·skip
             refine goes_ Try.func31 (by kernel_rfl) rfl #[.agg #[.slice Ao41 t622.length co41], .agg #[.slice Ao51 t633.length co51]] (by rfl) rfl rfl mp_ ?_
             with_reducible refine (r1_Add.calls k _ _ t622 _ _ t633 t636 _ ?side1 ?side2 ?side3 ?side4 A9.out).mono ?_
             (case side1 => exact cs_ ((Kd.R_reads' HO624.out).2.2))
             (case side2 => exact (Kd.R_reads' HO624.out).2.1)
             (case side3 => exact cs_ ((Kd.R_reads' HO635.out).2.2))
             (case side4 => exact (Kd.R_reads' HO635.out).2.1)
             rintro e w52 ⟨v637, rfl, ho0, hb⟩
             refine ⟨_, rfl, ?_⟩
             have HO638 := A_ (Kd.R_lower (Kd.R_new' (Kd.R_new' (Kd.R_new' (Kd.R_new' ho0 (Kd.R_lt (kr_ HO624.out))) (Kd.R_lt (kr_ HO627.out))) (Kd.R_lt (kr_ HO632.out))) (Kd.R_lt (kr_ HO635.out))) (below_size (hb4_ HB.out GE619.out GE620.out GE628.out GE629.out)))
             replace HO624 := A_ (Kd.R_elder' (kr_ HO624.out) (Kd.R_base ho0) hb)
             replace HO627 := A_ (Kd.R_elder' (kr_ HO627.out) (Kd.R_base ho0) hb)
             replace HO632 := A_ (Kd.R_elder' (kr_ HO632.out) (Kd.R_base ho0) hb)
             replace HO635 := A_ (Kd.R_elder' (kr_ HO635.out) (Kd.R_base ho0) hb)
             replace BK619 := A_ (bb_ BK619.out hb)
             replace BK620 := A_ (bb_ BK620.out hb)
             replace BK628 := A_ (bb_ BK628.out hb)
             replace BK629 := A_ (bb_ BK629.out hb)
             replace HB := A_ (below_step (hb4_ HB.out GE619.out GE620.out GE628.out GE629.out) hb);(try clear hb);(try clear hb2);(try clear hk);(try clear hi);(try clear ho0)
             refine hK.out _ _ ⟨bc_ BK628.out 0, bc_ BK629.out 0⟩ (fun hHeld => ?_)
             clear hK K
             refine norm_ (a' := ?_) ?_ ?_
             rotate_left
             ·show Act.put _ (some 17) _ = _
              simp only [Act.put, lI_, l0_, lS_, i64_w, i32_w]
              rfl
             exact norm_ pa_ (hJ1_2_3 (_, .slice Ao51 t633.length co51, _) _ ⟨hHeld, (by (with_reducible repeat (first | apply Kd.R_alloc | apply Kd.R_drewN | apply Kd.R_drew)); exact Kd.R_mono HO624.out (fun _ hk => ⟨hk.1.1, ⟨hk.1.2.1, ⟨hk.1.2.2, hk.2⟩⟩⟩)), (by (with_reducible repeat (first | apply Kd.R_alloc | apply Kd.R_drewN | apply Kd.R_drew)); exact Kd.R_mono HO627.out (fun _ hk => ⟨hk.1.1, ⟨hk.1.2.1, ⟨hk.1.2.2, hk.2⟩⟩⟩)), (by (with_reducible repeat (first | apply Kd.R_alloc | apply Kd.R_drewN | apply Kd.R_drew)); exact Kd.R_mono HO632.out (fun _ hk => ⟨hk.1.1, ⟨hk.1.2.1, ⟨hk.1.2.2, hk.2⟩⟩⟩)), (by (with_reducible repeat (first | apply Kd.R_alloc | apply Kd.R_drewN | apply Kd.R_drew)); exact Kd.R_mono HO635.out (fun _ hk => ⟨hk.1.1, ⟨hk.1.2.1, ⟨hk.1.2.2, hk.2⟩⟩⟩)), (by (with_reducible repeat (first | apply Kd.R_alloc | apply Kd.R_drewN | apply Kd.R_drew)); exact Kd.R_mono HO638.out (fun _ hk => ⟨hk.1.1.1.2, ⟨hk.1.1.2, ⟨hk.1.2, hk.2⟩⟩⟩)), (bk_ BK619.out), (bk_ BK620.out), (bk_ BK628.out), (bk_ BK629.out), (hb4_ HB.out GE619.out GE620.out GE628.out GE629.out)⟩)
            ·skip
             refine box_step ?hg (N := 7) ?hd (cs := #[.slice none 0 0]) (t := 53) ?hr ?_; (case hd => rfl); (case hg => rfl); (case hr => first | (go_simp; done) | (go_simp; rfl))
             intro gb642 hg w51 hbox hb
             have BK642 := A_ (hbox)
             have GW642 := A_ (sz_ hg (hb4_ HB.out GE619.out GE620.out GE628.out GE629.out))
             have GE642 := A_ (sz_ hg (hb4_ HB.out GE619.out GE620.out GE628.out GE629.out))
             have NB619_642 := A_ (nl_ hg BK619.out)
             have NB642_619 := A_ (ng_ hg BK619.out)
             have NB620_642 := A_ (nl_ hg BK620.out)
             have NB642_620 := A_ (ng_ hg BK620.out)
             have NB628_642 := A_ (nl_ hg BK628.out)
             have NB642_628 := A_ (ng_ hg BK628.out)
             have NB629_642 := A_ (nl_ hg BK629.out)
             have NB642_629 := A_ (ng_ hg BK629.out)
             replace HO624 := A_ (Kd.R_below (kr_ HO624.out) hb)
             replace HO627 := A_ (Kd.R_below (kr_ HO627.out) hb)
             replace HO632 := A_ (Kd.R_below (kr_ HO632.out) hb)
             replace HO635 := A_ (Kd.R_below (kr_ HO635.out) hb)
             replace BK619 := A_ (bb_ BK619.out hb)
             replace BK620 := A_ (bb_ BK620.out hb)
             replace BK628 := A_ (bb_ BK628.out hb)
             replace BK629 := A_ (bb_ BK629.out hb)
             replace HB := A_ (below_step (hb4_ HB.out GE619.out GE620.out GE628.out GE629.out) hb);clear hb hbox hg
             refine hK.out _ _ ⟨bc_ BK628.out 0, bc_ BK629.out 0⟩ (fun hHeld => ?_)
             clear hK K
             refine norm_ (a' := ?_) ?_ ?_
             rotate_left
             ·show Act.put _ (some 7) _ = _
              simp only [Act.put, lI_, l0_, lS_, i64_w, i32_w]
              rfl
             exact norm_ pa_ (hJ1_2_6 (_, _, gb642) _ ⟨hHeld, (kr_ HO624.out), (kr_ HO627.out), (kr_ HO632.out), (kr_ HO635.out), (bk_ BK619.out), (bk_ BK620.out), (bk_ BK628.out), (bk_ BK629.out), (bk_ BK642.out), GW642.out, GE642.out, NB619_642.out, NB642_619.out, NB620_642.out, NB642_620.out, NB628_642.out, NB642_628.out, NB629_642.out, NB642_629.out, (by repeat (first | (with_reducible first | exact HB.out | apply below_alloc | apply pw_below_drewN | apply below_drew1 | refine below_set ?_ GE619.out | refine below_set ?_ GE620.out | refine below_set ?_ GE628.out | refine below_set ?_ GE629.out | refine below_set ?_ GE642.out) | exact HB.out))⟩)
          ·skip
           rintro ⟨v631, v634, gb642⟩ w51 ⟨hS_, h0_, h1_, h2_, h3_, h4_, h5_, h6_, h7_, h8_, h9_, h10_, h11_, h12_, h13_, h14_, h15_, h16_, h17_, h18_, h19_⟩
           have n0_ : Aside0 (Kd.R (Kd.int .u64) 22 w51 w.heap.size (fun k_ => some k_ ≠ (.slice Ao43 t625.length co43 : Value).ownBlock ∧ some k_ ≠ (v631 : Value).ownBlock ∧ some k_ ≠ (v634 : Value).ownBlock) (.slice Ao41 t622.length co41) t622) := ⟨h0_⟩
           have n1_ : Aside0 (Kd.R (Kd.int .u64) 22 w51 w.heap.size (fun k_ => some k_ ≠ (.slice Ao41 t622.length co41 : Value).ownBlock ∧ some k_ ≠ (v631 : Value).ownBlock ∧ some k_ ≠ (v634 : Value).ownBlock) (.slice Ao43 t625.length co43) t625) := ⟨h1_⟩
           have n2_ : Aside0 (Kd.R (Kd.int .u64) 22 w51 w.heap.size (fun k_ => some k_ ≠ (.slice Ao41 t622.length co41 : Value).ownBlock ∧ some k_ ≠ (.slice Ao43 t625.length co43 : Value).ownBlock ∧ some k_ ≠ (v634 : Value).ownBlock) v631 t630) := ⟨h2_⟩
           have n3_ : Aside0 (Kd.R (Kd.int .u64) 22 w51 w.heap.size (fun k_ => some k_ ≠ (.slice Ao41 t622.length co41 : Value).ownBlock ∧ some k_ ≠ (.slice Ao43 t625.length co43 : Value).ownBlock ∧ some k_ ≠ (v631 : Value).ownBlock) v634 t633) := ⟨h3_⟩
           have n4_ : Aside0 (w51.heap[gb619]? = some (.cells #[.int .u64 a0_0, .int .u64 a0_1] 50 (0, 0))) := ⟨h4_⟩
           have n5_ : Aside0 (w51.heap[gb620]? = some (.cells #[.int .u64 a1_0, .int .u64 a1_1] 50 (0, 0))) := ⟨h5_⟩
           have n6_ : Aside0 (w51.heap[gb628]? = some (.cells #[.slice Ao41 t622.length co41] 53 (0, 0))) := ⟨h6_⟩
           have n7_ : Aside0 (w51.heap[gb629]? = some (.cells #[.slice Ao43 t625.length co43] 53 (0, 0))) := ⟨h7_⟩
           have n8_ : Aside0 (w51.heap[gb642]? = some (.cells #[.slice none 0 0] 53 (0, 0))) := ⟨h8_⟩
           have n9_ : Aside0 (w.heap.size ≤ gb642) := ⟨h9_⟩
           have n10_ : Aside0 (w.heap.size ≤ gb642) := ⟨h10_⟩
           have n11_ : Aside0 (gb619 ≠ gb642) := ⟨h11_⟩
           have n12_ : Aside0 (gb642 ≠ gb619) := ⟨h12_⟩
           have n13_ : Aside0 (gb620 ≠ gb642) := ⟨h13_⟩
           have n14_ : Aside0 (gb642 ≠ gb620) := ⟨h14_⟩
           have n15_ : Aside0 (gb628 ≠ gb642) := ⟨h15_⟩
           have n16_ : Aside0 (gb642 ≠ gb628) := ⟨h16_⟩
           have n17_ : Aside0 (gb629 ≠ gb642) := ⟨h17_⟩
           have n18_ : Aside0 (gb642 ≠ gb629) := ⟨h18_⟩
           have n19_ : Aside0 (Below w.heap.size w w51) := ⟨h19_⟩
           clear HO624;clear HO627;clear BK619;clear BK620;clear BK628;clear BK629;clear HB;clear h0_ h1_ h2_ h3_ h4_ h5_ h6_ h7_ h8_ h9_ h10_ h11_ h12_ h13_ h14_ h15_ h16_ h17_ h18_ h19_;have HO624 := n0_;have HO627 := n1_;have HO632 := n2_;have HO635 := n3_;have BK619 := n4_;have BK620 := n5_;have BK628 := n6_;have BK629 := n7_;have BK642 := n8_;have GW642 := n9_;have GE642 := n10_;have NB619_642 := n11_;have NB642_619 := n12_;have NB620_642 := n13_;have NB642_620 := n14_;have NB628_642 := n15_;have NB642_628 := n16_;have NB629_642 := n17_;have NB642_629 := n18_;have HB := n19_;clear n0_ n1_ n2_ n3_ n4_ n5_ n6_ n7_ n8_ n9_ n10_ n11_ n12_ n13_ n14_ n15_ n16_ n17_ n18_ n19_
           have hHeld : w51.cell? ⟨gb628, 0, none⟩ = some (.slice Ao41 t622.length co41) ∧ w51.cell? ⟨gb629, 0, none⟩ = some (.slice Ao43 t625.length co43) := hS_
           obtain ⟨Ao52, co52, eo52⟩ := Kd.R_slice HO635.out
           (first | subst eo52 | (injection eo52 with f1_ f2_ f3_; have f4_ := f1_.symm; have f5_ := f3_.symm; clear f1_ f2_ f3_; subst f4_; subst f5_))
           refine norm_ (a' := ?_) ?_ ?_
           rotate_left
           ·simp only [putAll, Act.put, lI_, l0_, lS_]
            rfl
           refine one_ (i := 3) (N := some 17) #[true, true, true, true, true, false, true, false] rfl rfl (one_of HT_.out (by kernel_rfl)) (by decide) (fun K hK => ?_)
           refine goes_ Try.func31 (by kernel_rfl) rfl #[.agg #[.slice Ao41 t622.length co41], .agg #[.slice Ao52 t633.length co52]] (by rfl) rfl rfl mp_ ?_
           with_reducible refine (r1_Add.calls k _ _ t622 _ _ t633 t636 _ ?side1 ?side2 ?side3 ?side4 A9.out).mono ?_
           (case side1 => exact cs_ ((Kd.R_reads' HO624.out).2.2))
           (case side2 => exact (Kd.R_reads' HO624.out).2.1)
           (case side3 => exact cs_ ((Kd.R_reads' HO635.out).2.2))
           (case side4 => exact (Kd.R_reads' HO635.out).2.1)
           rintro e w53 ⟨v637, rfl, ho0, hb⟩
           refine ⟨_, rfl, ?_⟩
           have HO638 := A_ (Kd.R_lower (Kd.R_new' (Kd.R_new' (Kd.R_new' (Kd.R_new' ho0 (Kd.R_lt (kr_ HO624.out))) (Kd.R_lt (kr_ HO627.out))) (Kd.R_lt (kr_ HO632.out))) (Kd.R_lt (kr_ HO635.out))) (below_size (by repeat (first | (with_reducible first | exact HB.out | apply below_alloc | apply pw_below_drewN | apply below_drew1 | refine below_set ?_ GE619.out | refine below_set ?_ GE620.out | refine below_set ?_ GE628.out | refine below_set ?_ GE629.out | refine below_set ?_ GE642.out) | exact HB.out))))
           replace HO624 := A_ (Kd.R_elder' (kr_ HO624.out) (Kd.R_base ho0) hb)
           replace HO627 := A_ (Kd.R_elder' (kr_ HO627.out) (Kd.R_base ho0) hb)
           replace HO632 := A_ (Kd.R_elder' (kr_ HO632.out) (Kd.R_base ho0) hb)
           replace HO635 := A_ (Kd.R_elder' (kr_ HO635.out) (Kd.R_base ho0) hb)
           replace BK619 := A_ (bb_ BK619.out hb)
           replace BK620 := A_ (bb_ BK620.out hb)
           replace BK628 := A_ (bb_ BK628.out hb)
           replace BK629 := A_ (bb_ BK629.out hb)
           replace BK642 := A_ (bb_ BK642.out hb)
           replace HB := A_ (below_step (by repeat (first | (with_reducible first | exact HB.out | apply below_alloc | apply pw_below_drewN | apply below_drew1 | refine below_set ?_ GE619.out | refine below_set ?_ GE620.out | refine below_set ?_ GE628.out | refine below_set ?_ GE629.out | refine below_set ?_ GE642.out) | exact HB.out)) hb);(try clear hb);(try clear hb2);(try clear hk);(try clear hi);(try clear ho0)
           refine hK.out _ _ ⟨bc_ BK628.out 0, bc_ BK629.out 0⟩ (fun hHeld => ?_)
           clear hK K
           refine norm_ (a' := ?_) ?_ ?_
           rotate_left
           ·show Act.put _ (some 17) _ = _
            simp only [Act.put, lI_, l0_, lS_, i64_w, i32_w]
            rfl
           exact norm_ pa_ (hJ1_2_3_6 (_, .slice Ao52 t633.length co52, _, gb642) _ ⟨hHeld, (by (with_reducible repeat (first | apply Kd.R_alloc | apply Kd.R_drewN | apply Kd.R_drew)); exact Kd.R_mono HO624.out (fun _ hk => ⟨hk.1.1, ⟨hk.1.2.1, ⟨hk.1.2.2, hk.2⟩⟩⟩)), (by (with_reducible repeat (first | apply Kd.R_alloc | apply Kd.R_drewN | apply Kd.R_drew)); exact Kd.R_mono HO627.out (fun _ hk => ⟨hk.1.1, ⟨hk.1.2.1, ⟨hk.1.2.2, hk.2⟩⟩⟩)), (by (with_reducible repeat (first | apply Kd.R_alloc | apply Kd.R_drewN | apply Kd.R_drew)); exact Kd.R_mono HO632.out (fun _ hk => ⟨hk.1.1, ⟨hk.1.2.1, ⟨hk.1.2.2, hk.2⟩⟩⟩)), (by (with_reducible repeat (first | apply Kd.R_alloc | apply Kd.R_drewN | apply Kd.R_drew)); exact Kd.R_mono HO635.out (fun _ hk => ⟨hk.1.1, ⟨hk.1.2.1, ⟨hk.1.2.2, hk.2⟩⟩⟩)), (by (with_reducible repeat (first | apply Kd.R_alloc | apply Kd.R_drewN | apply Kd.R_drew)); exact Kd.R_mono HO638.out (fun _ hk => ⟨hk.1.1.1.2, ⟨hk.1.1.2, ⟨hk.1.2, hk.2⟩⟩⟩)), (bk_ BK619.out), (bk_ BK620.out), (bk_ BK628.out), (bk_ BK629.out), (bk_ BK642.out), GW642.out, GE642.out, NB619_642.out, NB642_619.out, NB620_642.out, NB642_620.out, NB628_642.out, NB642_628.out, NB629_642.out, NB642_629.out, (by repeat (first | (with_reducible first | exact HB.out | apply below_alloc | apply pw_below_drewN | apply below_drew1 | refine below_set ?_ GE619.out | refine below_set ?_ GE620.out | refine below_set ?_ GE628.out | refine below_set ?_ GE629.out | refine below_set ?_ GE642.out) | exact HB.out))⟩)
         ·skip
          rintro ⟨v631, v634, v637⟩ w52 ⟨hS_, h0_, h1_, h2_, h3_, h4_, h5_, h6_, h7_, h8_, h9_⟩
          have n0_ : Aside0 (Kd.R (Kd.int .u64) 22 w52 w.heap.size (fun k_ => some k_ ≠ (.slice Ao43 t625.length co43 : Value).ownBlock ∧ some k_ ≠ (v631 : Value).ownBlock ∧ some k_ ≠ (v634 : Value).ownBlock ∧ some k_ ≠ (v637 : Value).ownBlock) (.slice Ao41 t622.length co41) t622) := ⟨h0_⟩
          have n1_ : Aside0 (Kd.R (Kd.int .u64) 22 w52 w.heap.size (fun k_ => some k_ ≠ (.slice Ao41 t622.length co41 : Value).ownBlock ∧ some k_ ≠ (v631 : Value).ownBlock ∧ some k_ ≠ (v634 : Value).ownBlock ∧ some k_ ≠ (v637 : Value).ownBlock) (.slice Ao43 t625.length co43) t625) := ⟨h1_⟩
          have n2_ : Aside0 (Kd.R (Kd.int .u64) 22 w52 w.heap.size (fun k_ => some k_ ≠ (.slice Ao41 t622.length co41 : Value).ownBlock ∧ some k_ ≠ (.slice Ao43 t625.length co43 : Value).ownBlock ∧ some k_ ≠ (v634 : Value).ownBlock ∧ some k_ ≠ (v637 : Value).ownBlock) v631 t630) := ⟨h2_⟩
          have n3_ : Aside0 (Kd.R (Kd.int .u64) 22 w52 w.heap.size (fun k_ => some k_ ≠ (.slice Ao41 t622.length co41 : Value).ownBlock ∧ some k_ ≠ (.slice Ao43 t625.length co43 : Value).ownBlock ∧ some k_ ≠ (v631 : Value).ownBlock ∧ some k_ ≠ (v637 : Value).ownBlock) v634 t633) := ⟨h3_⟩
          have n4_ : Aside0 (Kd.R (Kd.int .u64) 22 w52 w.heap.size (fun k_ => some k_ ≠ (.slice Ao41 t622.length co41 : Value).ownBlock ∧ some k_ ≠ (.slice Ao43 t625.length co43 : Value).ownBlock ∧ some k_ ≠ (v631 : Value).ownBlock ∧ some k_ ≠ (v634 : Value).ownBlock) v637 t636) := ⟨h4_⟩
          have n5_ : Aside0 (w52.heap[gb619]? = some (.cells #[.int .u64 a0_0, .int .u64 a0_1] 50 (0, 0))) := ⟨h5_⟩
          have n6_ : Aside0 (w52.heap[gb620]? = some (.cells #[.int .u64 a1_0, .int .u64 a1_1] 50 (0, 0))) := ⟨h6_⟩
          have n7_ : Aside0 (w52.heap[gb628]? = some (.cells #[.slice Ao41 t622.length co41] 53 (0, 0))) := ⟨h7_⟩
          have n8_ : Aside0 (w52.heap[gb629]? = some (.cells #[.slice Ao43 t625.length co43] 53 (0, 0))) := ⟨h8_⟩
          have n9_ : Aside0 (Below w.heap.size w w52) := ⟨h9_⟩
          clear HO624;clear HO627;clear BK619;clear BK620;clear BK628;clear BK629;clear HB;clear h0_ h1_ h2_ h3_ h4_ h5_ h6_ h7_ h8_ h9_;have HO624 := n0_;have HO627 := n1_;have HO632 := n2_;have HO635 := n3_;have HO638 := n4_;have BK619 := n5_;have BK620 := n6_;have BK628 := n7_;have BK629 := n8_;have HB := n9_;clear n0_ n1_ n2_ n3_ n4_ n5_ n6_ n7_ n8_ n9_
          have hHeld : w52.cell? ⟨gb628, 0, none⟩ = some (.slice Ao41 t622.length co41) ∧ w52.cell? ⟨gb629, 0, none⟩ = some (.slice Ao43 t625.length co43) := hS_
          obtain ⟨Ao53, co53, eo53⟩ := Kd.R_slice HO638.out
          (first | subst eo53 | (injection eo53 with f1_ f2_ f3_; have f4_ := f1_.symm; have f5_ := f3_.symm; clear f1_ f2_ f3_; subst f4_; subst f5_))
          refine norm_ (a' := ?_) ?_ ?_
          rotate_left
          ·simp only [putAll, Act.put, lI_, l0_, lS_]
           rfl
          refine two_ (i := 5) (j := 6) (Ni := some 19) (Nj := some 7) #[true, true, true, true, true, true, false, false] #[true, true, true, true, true, false, true, false] rfl rfl rfl rfl (two_of HT_.out (by kernel_rfl)) (by decide) (by decide) (fun K hK => ?_) (fun K hK => ?_)
          ·skip
           refine goes_ Try.func30 (by kernel_rfl) rfl #[.agg #[.slice Ao53 t636.length co53], .agg #[.slice Ao43 t625.length co43]] (by rfl) rfl rfl mp_ ?_
           with_reducible refine (r1_Sub.calls k _ _ t636 _ _ t625 t639 _ ?side1 ?side2 ?side3 ?side4 A10.out).mono ?_
           (case side1 => exact cs_ ((Kd.R_reads' HO638.out).2.2))
           (case side2 => exact (Kd.R_reads' HO638.out).2.1)
           (case side3 => exact cs_ ((Kd.R_reads' HO627.out).2.2))
           (case side4 => exact (Kd.R_reads' HO627.out).2.1)
           rintro e w54 ⟨v640, rfl, ho0, hb⟩
           refine ⟨_, rfl, ?_⟩
           have HO641 := A_ (Kd.R_lower (Kd.R_new' (Kd.R_new' (Kd.R_new' (Kd.R_new' (Kd.R_new' ho0 (Kd.R_lt (kr_ HO624.out))) (Kd.R_lt (kr_ HO627.out))) (Kd.R_lt (kr_ HO632.out))) (Kd.R_lt (kr_ HO635.out))) (Kd.R_lt (kr_ HO638.out))) (below_size (hb4_ HB.out GE619.out GE620.out GE628.out GE629.out)))
           replace HO624 := A_ (Kd.R_elder' (kr_ HO624.out) (Kd.R_base ho0) hb)
           replace HO627 := A_ (Kd.R_elder' (kr_ HO627.out) (Kd.R_base ho0) hb)
           replace HO632 := A_ (Kd.R_elder' (kr_ HO632.out) (Kd.R_base ho0) hb)
           replace HO635 := A_ (Kd.R_elder' (kr_ HO635.out) (Kd.R_base ho0) hb)
           replace HO638 := A_ (Kd.R_elder' (kr_ HO638.out) (Kd.R_base ho0) hb)
           replace BK619 := A_ (bb_ BK619.out hb)
           replace BK620 := A_ (bb_ BK620.out hb)
           replace BK628 := A_ (bb_ BK628.out hb)
           replace BK629 := A_ (bb_ BK629.out hb)
           replace HB := A_ (below_step (hb4_ HB.out GE619.out GE620.out GE628.out GE629.out) hb);(try clear hb);(try clear hb2);(try clear hk);(try clear hi);(try clear ho0)
           refine hK.out _ _ ⟨bc_ BK628.out 0, bc_ BK629.out 0⟩ (fun hHeld => ?_)
           clear hK K
           refine norm_ (a' := ?_) ?_ ?_
           rotate_left
           ·show Act.put _ (some 19) _ = _
            simp only [Act.put, lI_, l0_, lS_, i64_w, i32_w]
            rfl
           exact norm_ pa_ (hJ1_2_3_5 (_, _, .slice Ao53 t636.length co53, _) _ ⟨hHeld, (by (with_reducible repeat (first | apply Kd.R_alloc | apply Kd.R_drewN | apply Kd.R_drew)); exact Kd.R_mono HO624.out (fun _ hk => ⟨hk.1.1, ⟨hk.1.2.1, ⟨hk.1.2.2.1, ⟨hk.1.2.2.2, hk.2⟩⟩⟩⟩)), (by (with_reducible repeat (first | apply Kd.R_alloc | apply Kd.R_drewN | apply Kd.R_drew)); exact Kd.R_mono HO627.out (fun _ hk => ⟨hk.1.1, ⟨hk.1.2.1, ⟨hk.1.2.2.1, ⟨hk.1.2.2.2, hk.2⟩⟩⟩⟩)), (by (with_reducible repeat (first | apply Kd.R_alloc | apply Kd.R_drewN | apply Kd.R_drew)); exact Kd.R_mono HO632.out (fun _ hk => ⟨hk.1.1, ⟨hk.1.2.1, ⟨hk.1.2.2.1, ⟨hk.1.2.2.2, hk.2⟩⟩⟩⟩)), (by (with_reducible repeat (first | apply Kd.R_alloc | apply Kd.R_drewN | apply Kd.R_drew)); exact Kd.R_mono HO635.out (fun _ hk => ⟨hk.1.1, ⟨hk.1.2.1, ⟨hk.1.2.2.1, ⟨hk.1.2.2.2, hk.2⟩⟩⟩⟩)), (by (with_reducible repeat (first | apply Kd.R_alloc | apply Kd.R_drewN | apply Kd.R_drew)); exact Kd.R_mono HO638.out (fun _ hk => ⟨hk.1.1, ⟨hk.1.2.1, ⟨hk.1.2.2.1, ⟨hk.1.2.2.2, hk.2⟩⟩⟩⟩)), (by (with_reducible repeat (first | apply Kd.R_alloc | apply Kd.R_drewN | apply Kd.R_drew)); exact Kd.R_mono HO641.out (fun _ hk => ⟨hk.1.1.1.1.2, ⟨hk.1.1.1.2, ⟨hk.1.1.2, ⟨hk.1.2, hk.2⟩⟩⟩⟩)), (bk_ BK619.out), (bk_ BK620.out), (bk_ BK628.out), (bk_ BK629.out), (hb4_ HB.out GE619.out GE620.out GE628.out GE629.out)⟩)
          ·skip
           refine box_step ?hg (N := 7) ?hd (cs := #[.slice none 0 0]) (t := 53) ?hr ?_; (case hd => rfl); (case hg => rfl); (case hr => first | (go_simp; done) | (go_simp; rfl))
           intro gb642 hg w53 hbox hb
           have BK642 := A_ (hbox)
           have GW642 := A_ (sz_ hg (hb4_ HB.out GE619.out GE620.out GE628.out GE629.out))
           have GE642 := A_ (sz_ hg (hb4_ HB.out GE619.out GE620.out GE628.out GE629.out))
           have NB619_642 := A_ (nl_ hg BK619.out)
           have NB642_619 := A_ (ng_ hg BK619.out)
           have NB620_642 := A_ (nl_ hg BK620.out)
           have NB642_620 := A_ (ng_ hg BK620.out)
           have NB628_642 := A_ (nl_ hg BK628.out)
           have NB642_628 := A_ (ng_ hg BK628.out)
           have NB629_642 := A_ (nl_ hg BK629.out)
           have NB642_629 := A_ (ng_ hg BK629.out)
           replace HO624 := A_ (Kd.R_below (kr_ HO624.out) hb)
           replace HO627 := A_ (Kd.R_below (kr_ HO627.out) hb)
           replace HO632 := A_ (Kd.R_below (kr_ HO632.out) hb)
           replace HO635 := A_ (Kd.R_below (kr_ HO635.out) hb)
           replace HO638 := A_ (Kd.R_below (kr_ HO638.out) hb)
           replace BK619 := A_ (bb_ BK619.out hb)
           replace BK620 := A_ (bb_ BK620.out hb)
           replace BK628 := A_ (bb_ BK628.out hb)
           replace BK629 := A_ (bb_ BK629.out hb)
           replace HB := A_ (below_step (hb4_ HB.out GE619.out GE620.out GE628.out GE629.out) hb);clear hb hbox hg
           refine hK.out _ _ ⟨bc_ BK628.out 0, bc_ BK629.out 0⟩ (fun hHeld => ?_)
           clear hK K
           refine norm_ (a' := ?_) ?_ ?_
           rotate_left
           ·show Act.put _ (some 7) _ = _
            simp only [Act.put, lI_, l0_, lS_, i64_w, i32_w]
            rfl
           exact norm_ pa_ (hJ1_2_3_6 (_, _, _, gb642) _ ⟨hHeld, (kr_ HO624.out), (kr_ HO627.out), (kr_ HO632.out), (kr_ HO635.out), (kr_ HO638.out), (bk_ BK619.out), (bk_ BK620.out), (bk_ BK628.out), (bk_ BK629.out), (bk_ BK642.out), GW642.out, GE642.out, NB619_642.out, NB642_619.out, NB620_642.out, NB642_620.out, NB628_642.out, NB642_628.out, NB629_642.out, NB642_629.out, (by repeat (first | (with_reducible first | exact HB.out | apply below_alloc | apply pw_below_drewN | apply below_drew1 | refine below_set ?_ GE619.out | refine below_set ?_ GE620.out | refine below_set ?_ GE628.out | refine below_set ?_ GE629.out | refine below_set ?_ GE642.out) | exact HB.out))⟩)
        ·skip
         rintro ⟨v631, v634, v637, gb642⟩ w53 ⟨hS_, h0_, h1_, h2_, h3_, h4_, h5_, h6_, h7_, h8_, h9_, h10_, h11_, h12_, h13_, h14_, h15_, h16_, h17_, h18_, h19_, h20_⟩
         have n0_ : Aside0 (Kd.R (Kd.int .u64) 22 w53 w.heap.size (fun k_ => some k_ ≠ (.slice Ao43 t625.length co43 : Value).ownBlock ∧ some k_ ≠ (v631 : Value).ownBlock ∧ some k_ ≠ (v634 : Value).ownBlock ∧ some k_ ≠ (v637 : Value).ownBlock) (.slice Ao41 t622.length co41) t622) := ⟨h0_⟩
         have n1_ : Aside0 (Kd.R (Kd.int .u64) 22 w53 w.heap.size (fun k_ => some k_ ≠ (.slice Ao41 t622.length co41 : Value).ownBlock ∧ some k_ ≠ (v631 : Value).ownBlock ∧ some k_ ≠ (v634 : Value).ownBlock ∧ some k_ ≠ (v637 : Value).ownBlock) (.slice Ao43 t625.length co43) t625) := ⟨h1_⟩
         have n2_ : Aside0 (Kd.R (Kd.int .u64) 22 w53 w.heap.size (fun k_ => some k_ ≠ (.slice Ao41 t622.length co41 : Value).ownBlock ∧ some k_ ≠ (.slice Ao43 t625.length co43 : Value).ownBlock ∧ some k_ ≠ (v634 : Value).ownBlock ∧ some k_ ≠ (v637 : Value).ownBlock) v631 t630) := ⟨h2_⟩
         have n3_ : Aside0 (Kd.R (Kd.int .u64) 22 w53 w.heap.size (fun k_ => some k_ ≠ (.slice Ao41 t622.length co41 : Value).ownBlock ∧ some k_ ≠ (.slice Ao43 t625.length co43 : Value).ownBlock ∧ some k_ ≠ (v631 : Value).ownBlock ∧ some k_ ≠ (v637 : Value).ownBlock) v634 t633) := ⟨h3_⟩
         have n4_ : Aside0 (Kd.R (Kd.int .u64) 22 w53 w.heap.size (fun k_ => some k_ ≠ (.slice Ao41 t622.length co41 : Value).ownBlock ∧ some k_ ≠ (.slice Ao43 t625.length co43 : Value).ownBlock ∧ some k_ ≠ (v631 : Value).ownBlock ∧ some k_ ≠ (v634 : Value).ownBlock) v637 t636) := ⟨h4_⟩
         have n5_ : Aside0 (w53.heap[gb619]? = some (.cells #[.int .u64 a0_0, .int .u64 a0_1] 50 (0, 0))) := ⟨h5_⟩
         have n6_ : Aside0 (w53.heap[gb620]? = some (.cells #[.int .u64 a1_0, .int .u64 a1_1] 50 (0, 0))) := ⟨h6_⟩
         have n7_ : Aside0 (w53.heap[gb628]? = some (.cells #[.slice Ao41 t622.length co41] 53 (0, 0))) := ⟨h7_⟩
         have n8_ : Aside0 (w53.heap[gb629]? = some (.cells #[.slice Ao43 t625.length co43] 53 (0, 0))) := ⟨h8_⟩
         have n9_ : Aside0 (w53.heap[gb642]? = some (.cells #[.slice none 0 0] 53 (0, 0))) := ⟨h9_⟩
         have n10_ : Aside0 (w.heap.size ≤ gb642) := ⟨h10_⟩
         have n11_ : Aside0 (w.heap.size ≤ gb642) := ⟨h11_⟩
         have n12_ : Aside0 (gb619 ≠ gb642) := ⟨h12_⟩
         have n13_ : Aside0 (gb642 ≠ gb619) := ⟨h13_⟩
         have n14_ : Aside0 (gb620 ≠ gb642) := ⟨h14_⟩
         have n15_ : Aside0 (gb642 ≠ gb620) := ⟨h15_⟩
         have n16_ : Aside0 (gb628 ≠ gb642) := ⟨h16_⟩
         have n17_ : Aside0 (gb642 ≠ gb628) := ⟨h17_⟩
         have n18_ : Aside0 (gb629 ≠ gb642) := ⟨h18_⟩
         have n19_ : Aside0 (gb642 ≠ gb629) := ⟨h19_⟩
         have n20_ : Aside0 (Below w.heap.size w w53) := ⟨h20_⟩
         clear HO624;clear HO627;clear BK619;clear BK620;clear BK628;clear BK629;clear HB;clear h0_ h1_ h2_ h3_ h4_ h5_ h6_ h7_ h8_ h9_ h10_ h11_ h12_ h13_ h14_ h15_ h16_ h17_ h18_ h19_ h20_;have HO624 := n0_;have HO627 := n1_;have HO632 := n2_;have HO635 := n3_;have HO638 := n4_;have BK619 := n5_;have BK620 := n6_;have BK628 := n7_;have BK629 := n8_;have BK642 := n9_;have GW642 := n10_;have GE642 := n11_;have NB619_642 := n12_;have NB642_619 := n13_;have NB620_642 := n14_;have NB642_620 := n15_;have NB628_642 := n16_;have NB642_628 := n17_;have NB629_642 := n18_;have NB642_629 := n19_;have HB := n20_;clear n0_ n1_ n2_ n3_ n4_ n5_ n6_ n7_ n8_ n9_ n10_ n11_ n12_ n13_ n14_ n15_ n16_ n17_ n18_ n19_ n20_
         have hHeld : w53.cell? ⟨gb628, 0, none⟩ = some (.slice Ao41 t622.length co41) ∧ w53.cell? ⟨gb629, 0, none⟩ = some (.slice Ao43 t625.length co43) := hS_
         obtain ⟨Ao54, co54, eo54⟩ := Kd.R_slice HO638.out
         (first | subst eo54 | (injection eo54 with f1_ f2_ f3_; have f4_ := f1_.symm; have f5_ := f3_.symm; clear f1_ f2_ f3_; subst f4_; subst f5_))
         refine norm_ (a' := ?_) ?_ ?_
         rotate_left
         ·simp only [putAll, Act.put, lI_, l0_, lS_]
          rfl
         refine one_ (i := 5) (N := some 19) #[true, true, true, true, true, true, true, false] rfl rfl (one_of HT_.out (by kernel_rfl)) (by decide) (fun K hK => ?_)
         refine goes_ Try.func30 (by kernel_rfl) rfl #[.agg #[.slice Ao54 t636.length co54], .agg #[.slice Ao43 t625.length co43]] (by rfl) rfl rfl mp_ ?_
         with_reducible refine (r1_Sub.calls k _ _ t636 _ _ t625 t639 _ ?side1 ?side2 ?side3 ?side4 A10.out).mono ?_
         (case side1 => exact cs_ ((Kd.R_reads' HO638.out).2.2))
         (case side2 => exact (Kd.R_reads' HO638.out).2.1)
         (case side3 => exact cs_ ((Kd.R_reads' HO627.out).2.2))
         (case side4 => exact (Kd.R_reads' HO627.out).2.1)
         rintro e w55 ⟨v640, rfl, ho0, hb⟩
         refine ⟨_, rfl, ?_⟩
         have HO641 := A_ (Kd.R_lower (Kd.R_new' (Kd.R_new' (Kd.R_new' (Kd.R_new' (Kd.R_new' ho0 (Kd.R_lt (kr_ HO624.out))) (Kd.R_lt (kr_ HO627.out))) (Kd.R_lt (kr_ HO632.out))) (Kd.R_lt (kr_ HO635.out))) (Kd.R_lt (kr_ HO638.out))) (below_size (by repeat (first | (with_reducible first | exact HB.out | apply below_alloc | apply pw_below_drewN | apply below_drew1 | refine below_set ?_ GE619.out | refine below_set ?_ GE620.out | refine below_set ?_ GE628.out | refine below_set ?_ GE629.out | refine below_set ?_ GE642.out) | exact HB.out))))
         replace HO624 := A_ (Kd.R_elder' (kr_ HO624.out) (Kd.R_base ho0) hb)
         replace HO627 := A_ (Kd.R_elder' (kr_ HO627.out) (Kd.R_base ho0) hb)
         replace HO632 := A_ (Kd.R_elder' (kr_ HO632.out) (Kd.R_base ho0) hb)
         replace HO635 := A_ (Kd.R_elder' (kr_ HO635.out) (Kd.R_base ho0) hb)
         replace HO638 := A_ (Kd.R_elder' (kr_ HO638.out) (Kd.R_base ho0) hb)
         replace BK619 := A_ (bb_ BK619.out hb)
         replace BK620 := A_ (bb_ BK620.out hb)
         replace BK628 := A_ (bb_ BK628.out hb)
         replace BK629 := A_ (bb_ BK629.out hb)
         replace BK642 := A_ (bb_ BK642.out hb)
         replace HB := A_ (below_step (by repeat (first | (with_reducible first | exact HB.out | apply below_alloc | apply pw_below_drewN | apply below_drew1 | refine below_set ?_ GE619.out | refine below_set ?_ GE620.out | refine below_set ?_ GE628.out | refine below_set ?_ GE629.out | refine below_set ?_ GE642.out) | exact HB.out)) hb);(try clear hb);(try clear hb2);(try clear hk);(try clear hi);(try clear ho0)
         refine hK.out _ _ ⟨bc_ BK628.out 0, bc_ BK629.out 0⟩ (fun hHeld => ?_)
         clear hK K
         refine norm_ (a' := ?_) ?_ ?_
         rotate_left
         ·show Act.put _ (some 19) _ = _
          simp only [Act.put, lI_, l0_, lS_, i64_w, i32_w]
          rfl
         exact norm_ pa_ (hJ1_2_3_5_6 (_, _, .slice Ao54 t636.length co54, _, gb642) _ ⟨hHeld, (by (with_reducible repeat (first | apply Kd.R_alloc | apply Kd.R_drewN | apply Kd.R_drew)); exact Kd.R_mono HO624.out (fun _ hk => ⟨hk.1.1, ⟨hk.1.2.1, ⟨hk.1.2.2.1, ⟨hk.1.2.2.2, hk.2⟩⟩⟩⟩)), (by (with_reducible repeat (first | apply Kd.R_alloc | apply Kd.R_drewN | apply Kd.R_drew)); exact Kd.R_mono HO627.out (fun _ hk => ⟨hk.1.1, ⟨hk.1.2.1, ⟨hk.1.2.2.1, ⟨hk.1.2.2.2, hk.2⟩⟩⟩⟩)), (by (with_reducible repeat (first | apply Kd.R_alloc | apply Kd.R_drewN | apply Kd.R_drew)); exact Kd.R_mono HO632.out (fun _ hk => ⟨hk.1.1, ⟨hk.1.2.1, ⟨hk.1.2.2.1, ⟨hk.1.2.2.2, hk.2⟩⟩⟩⟩)), (by (with_reducible repeat (first | apply Kd.R_alloc | apply Kd.R_drewN | apply Kd.R_drew)); exact Kd.R_mono HO635.out (fun _ hk => ⟨hk.1.1, ⟨hk.1.2.1, ⟨hk.1.2.2.1, ⟨hk.1.2.2.2, hk.2⟩⟩⟩⟩)), (by (with_reducible repeat (first | apply Kd.R_alloc | apply Kd.R_drewN | apply Kd.R_drew)); exact Kd.R_mono HO638.out (fun _ hk => ⟨hk.1.1, ⟨hk.1.2.1, ⟨hk.1.2.2.1, ⟨hk.1.2.2.2, hk.2⟩⟩⟩⟩)), (by (with_reducible repeat (first | apply Kd.R_alloc | apply Kd.R_drewN | apply Kd.R_drew)); exact Kd.R_mono HO641.out (fun _ hk => ⟨hk.1.1.1.1.2, ⟨hk.1.1.1.2, ⟨hk.1.1.2, ⟨hk.1.2, hk.2⟩⟩⟩⟩)), (bk_ BK619.out), (bk_ BK620.out), (bk_ BK628.out), (bk_ BK629.out), (bk_ BK642.out), GW642.out, GE642.out, NB619_642.out, NB642_619.out, NB620_642.out, NB642_620.out, NB628_642.out, NB642_628.out, NB629_642.out, NB642_629.out, (by repeat (first | (with_reducible first | exact HB.out | apply below_alloc | apply pw_below_drewN | apply below_drew1 | refine below_set ?_ GE619.out | refine below_set ?_ GE620.out | refine below_set ?_ GE628.out | refine below_set ?_ GE629.out | refine below_set ?_ GE642.out) | exact HB.out))⟩)
       ·skip
        rintro ⟨v631, v634, v637, v640⟩ w54 ⟨hS_, h0_, h1_, h2_, h3_, h4_, h5_, h6_, h7_, h8_, h9_, h10_⟩
        have n0_ : Aside0 (Kd.R (Kd.int .u64) 22 w54 w.heap.size (fun k_ => some k_ ≠ (.slice Ao43 t625.length co43 : Value).ownBlock ∧ some k_ ≠ (v631 : Value).ownBlock ∧ some k_ ≠ (v634 : Value).ownBlock ∧ some k_ ≠ (v637 : Value).ownBlock ∧ some k_ ≠ (v640 : Value).ownBlock) (.slice Ao41 t622.length co41) t622) := ⟨h0_⟩
        have n1_ : Aside0 (Kd.R (Kd.int .u64) 22 w54 w.heap.size (fun k_ => some k_ ≠ (.slice Ao41 t622.length co41 : Value).ownBlock ∧ some k_ ≠ (v631 : Value).ownBlock ∧ some k_ ≠ (v634 : Value).ownBlock ∧ some k_ ≠ (v637 : Value).ownBlock ∧ some k_ ≠ (v640 : Value).ownBlock) (.slice Ao43 t625.length co43) t625) := ⟨h1_⟩
        have n2_ : Aside0 (Kd.R (Kd.int .u64) 22 w54 w.heap.size (fun k_ => some k_ ≠ (.slice Ao41 t622.length co41 : Value).ownBlock ∧ some k_ ≠ (.slice Ao43 t625.length co43 : Value).ownBlock ∧ some k_ ≠ (v634 : Value).ownBlock ∧ some k_ ≠ (v637 : Value).ownBlock ∧ some k_ ≠ (v640 : Value).ownBlock) v631 t630) := ⟨h2_⟩
        have n3_ : Aside0 (Kd.R (Kd.int .u64) 22 w54 w.heap.size (fun k_ => some k_ ≠ (.slice Ao41 t622.length co41 : Value).ownBlock ∧ some k_ ≠ (.slice Ao43 t625.length co43 : Value).ownBlock ∧ some k_ ≠ (v631 : Value).ownBlock ∧ some k_ ≠ (v637 : Value).ownBlock ∧ some k_ ≠ (v640 : Value).ownBlock) v634 t633) := ⟨h3_⟩
        have n4_ : Aside0 (Kd.R (Kd.int .u64) 22 w54 w.heap.size (fun k_ => some k_ ≠ (.slice Ao41 t622.length co41 : Value).ownBlock ∧ some k_ ≠ (.slice Ao43 t625.length co43 : Value).ownBlock ∧ some k_ ≠ (v631 : Value).ownBlock ∧ some k_ ≠ (v634 : Value).ownBlock ∧ some k_ ≠ (v640 : Value).ownBlock) v637 t636) := ⟨h4_⟩
        have n5_ : Aside0 (Kd.R (Kd.int .u64) 22 w54 w.heap.size (fun k_ => some k_ ≠ (.slice Ao41 t622.length co41 : Value).ownBlock ∧ some k_ ≠ (.slice Ao43 t625.length co43 : Value).ownBlock ∧ some k_ ≠ (v631 : Value).ownBlock ∧ some k_ ≠ (v634 : Value).ownBlock ∧ some k_ ≠ (v637 : Value).ownBlock) v640 t639) := ⟨h5_⟩
        have n6_ : Aside0 (w54.heap[gb619]? = some (.cells #[.int .u64 a0_0, .int .u64 a0_1] 50 (0, 0))) := ⟨h6_⟩
        have n7_ : Aside0 (w54.heap[gb620]? = some (.cells #[.int .u64 a1_0, .int .u64 a1_1] 50 (0, 0))) := ⟨h7_⟩
        have n8_ : Aside0 (w54.heap[gb628]? = some (.cells #[.slice Ao41 t622.length co41] 53 (0, 0))) := ⟨h8_⟩
        have n9_ : Aside0 (w54.heap[gb629]? = some (.cells #[.slice Ao43 t625.length co43] 53 (0, 0))) := ⟨h9_⟩
        have n10_ : Aside0 (Below w.heap.size w w54) := ⟨h10_⟩
        clear HO624;clear HO627;clear BK619;clear BK620;clear BK628;clear BK629;clear HB;clear h0_ h1_ h2_ h3_ h4_ h5_ h6_ h7_ h8_ h9_ h10_;have HO624 := n0_;have HO627 := n1_;have HO632 := n2_;have HO635 := n3_;have HO638 := n4_;have HO641 := n5_;have BK619 := n6_;have BK620 := n7_;have BK628 := n8_;have BK629 := n9_;have HB := n10_;clear n0_ n1_ n2_ n3_ n4_ n5_ n6_ n7_ n8_ n9_ n10_
        have hHeld : w54.cell? ⟨gb628, 0, none⟩ = some (.slice Ao41 t622.length co41) ∧ w54.cell? ⟨gb629, 0, none⟩ = some (.slice Ao43 t625.length co43) := hS_
        refine norm_ (a' := ?_) ?_ ?_
        rotate_left
        ·simp only [putAll, Act.put, lI_, l0_, lS_]
         rfl
        refine one_ (i := 6) (N := some 7) #[true, true, true, true, true, true, true, false] rfl rfl (one_of HT_.out (by kernel_rfl)) (by decide) (fun K hK => ?_)
        refine box_step ?hg (N := 7) ?hd (cs := #[.slice none 0 0]) (t := 53) ?hr ?_; (case hd => rfl); (case hg => rfl); (case hr => first | (go_simp; done) | (go_simp; rfl))
        intro gb642 hg w55 hbox hb
        have BK642 := A_ (hbox)
        have GW642 := A_ (sz_ hg (hb4_ HB.out GE619.out GE620.out GE628.out GE629.out))
        have GE642 := A_ (sz_ hg (hb4_ HB.out GE619.out GE620.out GE628.out GE629.out))
        have NB619_642 := A_ (nl_ hg BK619.out)
        have NB642_619 := A_ (ng_ hg BK619.out)
        have NB620_642 := A_ (nl_ hg BK620.out)
        have NB642_620 := A_ (ng_ hg BK620.out)
        have NB628_642 := A_ (nl_ hg BK628.out)
        have NB642_628 := A_ (ng_ hg BK628.out)
        have NB629_642 := A_ (nl_ hg BK629.out)
        have NB642_629 := A_ (ng_ hg BK629.out)
        replace HO624 := A_ (Kd.R_below (kr_ HO624.out) hb)
        replace HO627 := A_ (Kd.R_below (kr_ HO627.out) hb)
        replace HO632 := A_ (Kd.R_below (kr_ HO632.out) hb)
        replace HO635 := A_ (Kd.R_below (kr_ HO635.out) hb)
        replace HO638 := A_ (Kd.R_below (kr_ HO638.out) hb)
        replace HO641 := A_ (Kd.R_below (kr_ HO641.out) hb)
        replace BK619 := A_ (bb_ BK619.out hb)
        replace BK620 := A_ (bb_ BK620.out hb)
        replace BK628 := A_ (bb_ BK628.out hb)
        replace BK629 := A_ (bb_ BK629.out hb)
        replace HB := A_ (below_step (hb4_ HB.out GE619.out GE620.out GE628.out GE629.out) hb);clear hb hbox hg
        refine hK.out _ _ ⟨bc_ BK628.out 0, bc_ BK629.out 0⟩ (fun hHeld => ?_)
        clear hK K
        refine norm_ (a' := ?_) ?_ ?_
        rotate_left
        ·show Act.put _ (some 7) _ = _
         simp only [Act.put, lI_, l0_, lS_, i64_w, i32_w]
         rfl
        exact norm_ pa_ (hJ1_2_3_5_6 (_, _, _, _, gb642) _ ⟨hHeld, (kr_ HO624.out), (kr_ HO627.out), (kr_ HO632.out), (kr_ HO635.out), (kr_ HO638.out), (kr_ HO641.out), (bk_ BK619.out), (bk_ BK620.out), (bk_ BK628.out), (bk_ BK629.out), (bk_ BK642.out), GW642.out, GE642.out, NB619_642.out, NB642_619.out, NB620_642.out, NB642_620.out, NB628_642.out, NB642_628.out, NB629_642.out, NB642_629.out, (by repeat (first | (with_reducible first | exact HB.out | apply below_alloc | apply pw_below_drewN | apply below_drew1 | refine below_set ?_ GE619.out | refine below_set ?_ GE620.out | refine below_set ?_ GE628.out | refine below_set ?_ GE629.out | refine below_set ?_ GE642.out) | exact HB.out))⟩)
      rintro ⟨v631, v634, v637, v640, gb642⟩ w55 ⟨hS_, h0_, h1_, h2_, h3_, h4_, h5_, h6_, h7_, h8_, h9_, h10_, h11_, h12_, h13_, h14_, h15_, h16_, h17_, h18_, h19_, h20_, h21_⟩
      have n0_ : Aside0 (Kd.R (Kd.int .u64) 22 w55 w.heap.size (fun k_ => some k_ ≠ (.slice Ao43 t625.length co43 : Value).ownBlock ∧ some k_ ≠ (v631 : Value).ownBlock ∧ some k_ ≠ (v634 : Value).ownBlock ∧ some k_ ≠ (v637 : Value).ownBlock ∧ some k_ ≠ (v640 : Value).ownBlock) (.slice Ao41 t622.length co41) t622) := ⟨h0_⟩
      have n1_ : Aside0 (Kd.R (Kd.int .u64) 22 w55 w.heap.size (fun k_ => some k_ ≠ (.slice Ao41 t622.length co41 : Value).ownBlock ∧ some k_ ≠ (v631 : Value).ownBlock ∧ some k_ ≠ (v634 : Value).ownBlock ∧ some k_ ≠ (v637 : Value).ownBlock ∧ some k_ ≠ (v640 : Value).ownBlock) (.slice Ao43 t625.length co43) t625) := ⟨h1_⟩
      have n2_ : Aside0 (Kd.R (Kd.int .u64) 22 w55 w.heap.size (fun k_ => some k_ ≠ (.slice Ao41 t622.length co41 : Value).ownBlock ∧ some k_ ≠ (.slice Ao43 t625.length co43 : Value).ownBlock ∧ some k_ ≠ (v634 : Value).ownBlock ∧ some k_ ≠ (v637 : Value).ownBlock ∧ some k_ ≠ (v640 : Value).ownBlock) v631 t630) := ⟨h2_⟩
      have n3_ : Aside0 (Kd.R (Kd.int .u64) 22 w55 w.heap.size (fun k_ => some k_ ≠ (.slice Ao41 t622.length co41 : Value).ownBlock ∧ some k_ ≠ (.slice Ao43 t625.length co43 : Value).ownBlock ∧ some k_ ≠ (v631 : Value).ownBlock ∧ some k_ ≠ (v637 : Value).ownBlock ∧ some k_ ≠ (v640 : Value).ownBlock) v634 t633) := ⟨h3_⟩
      have n4_ : Aside0 (Kd.R (Kd.int .u64) 22 w55 w.heap.size (fun k_ => some k_ ≠ (.slice Ao41 t622.length co41 : Value).ownBlock ∧ some k_ ≠ (.slice Ao43 t625.length co43 : Value).ownBlock ∧ some k_ ≠ (v631 : Value).ownBlock ∧ some k_ ≠ (v634 : Value).ownBlock ∧ some k_ ≠ (v640 : Value).ownBlock) v637 t636) := ⟨h4_⟩
      have n5_ : Aside0 (Kd.R (Kd.int .u64) 22 w55 w.heap.size (fun k_ => some k_ ≠ (.slice Ao41 t622.length co41 : Value).ownBlock ∧ some k_ ≠ (.slice Ao43 t625.length co43 : Value).ownBlock ∧ some k_ ≠ (v631 : Value).ownBlock ∧ some k_ ≠ (v634 : Value).ownBlock ∧ some k_ ≠ (v637 : Value).ownBlock) v640 t639) := ⟨h5_⟩
      have n6_ : Aside0 (w55.heap[gb619]? = some (.cells #[.int .u64 a0_0, .int .u64 a0_1] 50 (0, 0))) := ⟨h6_⟩
      have n7_ : Aside0 (w55.heap[gb620]? = some (.cells #[.int .u64 a1_0, .int .u64 a1_1] 50 (0, 0))) := ⟨h7_⟩
      have n8_ : Aside0 (w55.heap[gb628]? = some (.cells #[.slice Ao41 t622.length co41] 53 (0, 0))) := ⟨h8_⟩
      have n9_ : Aside0 (w55.heap[gb629]? = some (.cells #[.slice Ao43 t625.length co43] 53 (0, 0))) := ⟨h9_⟩
      have n10_ : Aside0 (w55.heap[gb642]? = some (.cells #[.slice none 0 0] 53 (0, 0))) := ⟨h10_⟩
      have n11_ : Aside0 (w.heap.size ≤ gb642) := ⟨h11_⟩
      have n12_ : Aside0 (w.heap.size ≤ gb642) := ⟨h12_⟩
      have n13_ : Aside0 (gb619 ≠ gb642) := ⟨h13_⟩
      have n14_ : Aside0 (gb642 ≠ gb619) := ⟨h14_⟩
      have n15_ : Aside0 (gb620 ≠ gb642) := ⟨h15_⟩
      have n16_ : Aside0 (gb642 ≠ gb620) := ⟨h16_⟩
      have n17_ : Aside0 (gb628 ≠ gb642) := ⟨h17_⟩
      have n18_ : Aside0 (gb642 ≠ gb628) := ⟨h18_⟩
      have n19_ : Aside0 (gb629 ≠ gb642) := ⟨h19_⟩
      have n20_ : Aside0 (gb642 ≠ gb629) := ⟨h20_⟩
      have n21_ : Aside0 (Below w.heap.size w w55) := ⟨h21_⟩
      clear HO624;clear HO627;clear BK619;clear BK620;clear BK628;clear BK629;clear HB;clear h0_ h1_ h2_ h3_ h4_ h5_ h6_ h7_ h8_ h9_ h10_ h11_ h12_ h13_ h14_ h15_ h16_ h17_ h18_ h19_ h20_ h21_;have HO624 := n0_;have HO627 := n1_;have HO632 := n2_;have HO635 := n3_;have HO638 := n4_;have HO641 := n5_;have BK619 := n6_;have BK620 := n7_;have BK628 := n8_;have BK629 := n9_;have BK642 := n10_;have GW642 := n11_;have GE642 := n12_;have NB619_642 := n13_;have NB642_619 := n14_;have NB620_642 := n15_;have NB642_620 := n16_;have NB628_642 := n17_;have NB642_628 := n18_;have NB629_642 := n19_;have NB642_629 := n20_;have HB := n21_;clear n0_ n1_ n2_ n3_ n4_ n5_ n6_ n7_ n8_ n9_ n10_ n11_ n12_ n13_ n14_ n15_ n16_ n17_ n18_ n19_ n20_ n21_
      have hHeld : w55.cell? ⟨gb628, 0, none⟩ = some (.slice Ao41 t622.length co41) ∧ w55.cell? ⟨gb629, 0, none⟩ = some (.slice Ao43 t625.length co43) := hS_
      obtain ⟨Ao56, co56, eo56⟩ := Kd.R_slice HO641.out
      (first | subst eo56 | (injection eo56 with f1_ f2_ f3_; have f4_ := f1_.symm; have f5_ := f3_.symm; clear f1_ f2_ f3_; subst f4_; subst f5_))
      refine norm_ (a' := ?_) ?_ ?_
      rotate_left
      ·simp only [putAll, Act.put, lI_, l0_, lS_]
       rfl
      refine one_ (i := 7) (N := none) #[true, true, true, true, true, true, true, true] rfl rfl (one_of HT_.out (by kernel_rfl)) (by decide) (fun K hK => ?_)
      have hs57 : w55.cell? ⟨gb642, 0, none⟩ = some (.slice none 0 0) := bc_ BK642.out 0
      have hfs57 := blk_frozen BK642.out 0
      have hns57_0 := NB619_642.out
      have hns57_1 := NB620_642.out
      have hns57_2 := NB628_642.out
      have hns57_3 := NB629_642.out
      have hms57_0 := NB642_619.out
      have hms57_1 := NB642_620.out
      have hms57_2 := NB642_628.out
      have hms57_3 := NB642_629.out
      refine skip_ (w1 := ?_) (by rfl) rfl ?_ ?_
      rotate_left
      ·go_simp
       rfl
      refine hK.out _ _ ⟨((cell_far (p := ⟨gb642, _, none⟩) NB628_642.out _).trans (hHeld.1)), ((cell_far (p := ⟨gb642, _, none⟩) NB629_642.out _).trans (hHeld.2))⟩ (fun hHeld => ?_)
      clear hK K
      refine done_ (done_of HT_.out (by kernel_rfl)) ?_
      try go_wp2
      have n0_ : Aside0 (Kd.R (Kd.int .u64) 22 (w55.setCell ⟨gb642, 0, none⟩ (.slice Ao56 t639.length co56)) w.heap.size (fun k_ => some k_ ≠ (.slice Ao43 t625.length co43 : Value).ownBlock ∧ some k_ ≠ (v631 : Value).ownBlock ∧ some k_ ≠ (v634 : Value).ownBlock ∧ some k_ ≠ (v637 : Value).ownBlock ∧ some k_ ≠ (.slice Ao56 t639.length co56 : Value).ownBlock) (.slice Ao41 t622.length co41) t622) := ⟨by (with_reducible repeat (first | apply Kd.R_alloc | apply Kd.R_drewN | apply Kd.R_drew)); exact Kd.R_mono (Kd.R_far (p := ⟨gb642, 0, none⟩) (Kd.R_types HO624.out BK642.out (by decide)) (fun _ hk => hk.2) (.slice Ao56 t639.length co56)) (fun _ hk => ⟨hk.1.1, ⟨hk.1.2.1, ⟨hk.1.2.2.1, ⟨hk.1.2.2.2.1, hk.1.2.2.2.2⟩⟩⟩⟩)⟩
      have n1_ : Aside0 (Kd.R (Kd.int .u64) 22 (w55.setCell ⟨gb642, 0, none⟩ (.slice Ao56 t639.length co56)) w.heap.size (fun k_ => some k_ ≠ (.slice Ao41 t622.length co41 : Value).ownBlock ∧ some k_ ≠ (v631 : Value).ownBlock ∧ some k_ ≠ (v634 : Value).ownBlock ∧ some k_ ≠ (v637 : Value).ownBlock ∧ some k_ ≠ (.slice Ao56 t639.length co56 : Value).ownBlock) (.slice Ao43 t625.length co43) t625) := ⟨by (with_reducible repeat (first | apply Kd.R_alloc | apply Kd.R_drewN | apply Kd.R_drew)); exact Kd.R_mono (Kd.R_far (p := ⟨gb642, 0, none⟩) (Kd.R_types HO627.out BK642.out (by decide)) (fun _ hk => hk.2) (.slice Ao56 t639.length co56)) (fun _ hk => ⟨hk.1.1, ⟨hk.1.2.1, ⟨hk.1.2.2.1, ⟨hk.1.2.2.2.1, hk.1.2.2.2.2⟩⟩⟩⟩)⟩
      have n2_ : Aside0 (Kd.R (Kd.int .u64) 22 (w55.setCell ⟨gb642, 0, none⟩ (.slice Ao56 t639.length co56)) w.heap.size (fun k_ => some k_ ≠ (.slice Ao41 t622.length co41 : Value).ownBlock ∧ some k_ ≠ (.slice Ao43 t625.length co43 : Value).ownBlock ∧ some k_ ≠ (v634 : Value).ownBlock ∧ some k_ ≠ (v637 : Value).ownBlock ∧ some k_ ≠ (.slice Ao56 t639.length co56 : Value).ownBlock) v631 t630) := ⟨by (with_reducible repeat (first | apply Kd.R_alloc | apply Kd.R_drewN | apply Kd.R_drew)); exact Kd.R_mono (Kd.R_far (p := ⟨gb642, 0, none⟩) (Kd.R_types HO632.out BK642.out (by decide)) (fun _ hk => hk.2) (.slice Ao56 t639.length co56)) (fun _ hk => ⟨hk.1.1, ⟨hk.1.2.1, ⟨hk.1.2.2.1, ⟨hk.1.2.2.2.1, hk.1.2.2.2.2⟩⟩⟩⟩)⟩
      have n3_ : Aside0 (Kd.R (Kd.int .u64) 22 (w55.setCell ⟨gb642, 0, none⟩ (.slice Ao56 t639.length co56)) w.heap.size (fun k_ => some k_ ≠ (.slice Ao41 t622.length co41 : Value).ownBlock ∧ some k_ ≠ (.slice Ao43 t625.length co43 : Value).ownBlock ∧ some k_ ≠ (v631 : Value).ownBlock ∧ some k_ ≠ (v637 : Value).ownBlock ∧ some k_ ≠ (.slice Ao56 t639.length co56 : Value).ownBlock) v634 t633) := ⟨by (with_reducible repeat (first | apply Kd.R_alloc | apply Kd.R_drewN | apply Kd.R_drew)); exact Kd.R_mono (Kd.R_far (p := ⟨gb642, 0, none⟩) (Kd.R_types HO635.out BK642.out (by decide)) (fun _ hk => hk.2) (.slice Ao56 t639.length co56)) (fun _ hk => ⟨hk.1.1, ⟨hk.1.2.1, ⟨hk.1.2.2.1, ⟨hk.1.2.2.2.1, hk.1.2.2.2.2⟩⟩⟩⟩)⟩
      have n4_ : Aside0 (Kd.R (Kd.int .u64) 22 (w55.setCell ⟨gb642, 0, none⟩ (.slice Ao56 t639.length co56)) w.heap.size (fun k_ => some k_ ≠ (.slice Ao41 t622.length co41 : Value).ownBlock ∧ some k_ ≠ (.slice Ao43 t625.length co43 : Value).ownBlock ∧ some k_ ≠ (v631 : Value).ownBlock ∧ some k_ ≠ (v634 : Value).ownBlock ∧ some k_ ≠ (.slice Ao56 t639.length co56 : Value).ownBlock) v637 t636) := ⟨by (with_reducible repeat (first | apply Kd.R_alloc | apply Kd.R_drewN | apply Kd.R_drew)); exact Kd.R_mono (Kd.R_far (p := ⟨gb642, 0, none⟩) (Kd.R_types HO638.out BK642.out (by decide)) (fun _ hk => hk.2) (.slice Ao56 t639.length co56)) (fun _ hk => ⟨hk.1.1, ⟨hk.1.2.1, ⟨hk.1.2.2.1, ⟨hk.1.2.2.2.1, hk.1.2.2.2.2⟩⟩⟩⟩)⟩
      have n5_ : Aside0 (Kd.R (Kd.int .u64) 22 (w55.setCell ⟨gb642, 0, none⟩ (.slice Ao56 t639.length co56)) w.heap.size (fun k_ => some k_ ≠ (.slice Ao41 t622.length co41 : Value).ownBlock ∧ some k_ ≠ (.slice Ao43 t625.length co43 : Value).ownBlock ∧ some k_ ≠ (v631 : Value).ownBlock ∧ some k_ ≠ (v634 : Value).ownBlock ∧ some k_ ≠ (v637 : Value).ownBlock) (.slice Ao56 t639.length co56) t639) := ⟨by (with_reducible repeat (first | apply Kd.R_alloc | apply Kd.R_drewN | apply Kd.R_drew)); exact Kd.R_mono (Kd.R_far (p := ⟨gb642, 0, none⟩) (Kd.R_types HO641.out BK642.out (by decide)) (fun _ hk => hk.2) (.slice Ao56 t639.length co56)) (fun _ hk => ⟨hk.1.1, ⟨hk.1.2.1, ⟨hk.1.2.2.1, ⟨hk.1.2.2.2.1, hk.1.2.2.2.2⟩⟩⟩⟩)⟩
      have n6_ : Aside0 ((w55.setCell ⟨gb642, 0, none⟩ (.slice Ao56 t639.length co56)).heap[gb619]? = some (.cells #[.int .u64 a0_0, .int .u64 a0_1] 50 (0, 0))) := ⟨bf1_ BK619.out NB619_642.out⟩
      have n7_ : Aside0 ((w55.setCell ⟨gb642, 0, none⟩ (.slice Ao56 t639.length co56)).heap[gb620]? = some (.cells #[.int .u64 a1_0, .int .u64 a1_1] 50 (0, 0))) := ⟨bf1_ BK620.out NB620_642.out⟩
      have n8_ : Aside0 ((w55.setCell ⟨gb642, 0, none⟩ (.slice Ao56 t639.length co56)).heap[gb628]? = some (.cells #[.slice Ao41 t622.length co41] 53 (0, 0))) := ⟨bf1_ BK628.out NB628_642.out⟩
      have n9_ : Aside0 ((w55.setCell ⟨gb642, 0, none⟩ (.slice Ao56 t639.length co56)).heap[gb629]? = some (.cells #[.slice Ao43 t625.length co43] 53 (0, 0))) := ⟨bf1_ BK629.out NB629_642.out⟩
      have n10_ : Aside0 ((w55.setCell ⟨gb642, 0, none⟩ (.slice Ao56 t639.length co56)).heap[gb642]? = some (.cells #[.slice Ao56 t639.length co56] 53 (0, 0))) := ⟨by (with_reducible repeat (first | refine blk_drewN ?_ _ | refine blk_drew ?_ | refine blk_alloc ?_ _)); refine blk_put (cs := #[.slice none 0 0]) ?_ 0 _ rfl; (with_reducible repeat (first | refine blk_drewN ?_ _ | refine blk_drew ?_ | refine blk_alloc ?_ _)); exact BK642.out⟩
      have n11_ : Aside0 (Below w.heap.size w (w55.setCell ⟨gb642, 0, none⟩ (.slice Ao56 t639.length co56))) := ⟨by repeat (first | (with_reducible first | exact HB.out | apply below_alloc | apply pw_below_drewN | apply below_drew1 | refine below_set ?_ GE619.out | refine below_set ?_ GE620.out | refine below_set ?_ GE628.out | refine below_set ?_ GE629.out | refine below_set ?_ GE642.out) | exact HB.out)⟩
      (try clear HO624);(try clear HO627);(try clear HO632);(try clear HO635);(try clear HO638);(try clear HO641);(try clear BK619);(try clear BK620);(try clear BK628);(try clear BK629);(try clear BK642);(try clear HB)
      generalize (w55.setCell ⟨gb642, 0, none⟩ (.slice Ao56 t639.length co56)) = w58 at n0_ n1_ n2_ n3_ n4_ n5_ n6_ n7_ n8_ n9_ n10_ n11_ ⊢
      have HO624 := n0_;have HO627 := n1_;have HO632 := n2_;have HO635 := n3_;have HO638 := n4_;have HO641 := n5_;have BK619 := n6_;have BK620 := n7_;have BK628 := n8_;have BK629 := n9_;have BK642 := n10_;have HB := n11_;clear n0_ n1_ n2_ n3_ n4_ n5_ n6_ n7_ n8_ n9_ n10_ n11_
      replace HO624 := A_ (Kd.R_drew HO624.out)
      replace HO627 := A_ (Kd.R_drew HO627.out)
      replace HO632 := A_ (Kd.R_drew HO632.out)
      replace HO635 := A_ (Kd.R_drew HO635.out)
      replace HO638 := A_ (Kd.R_drew HO638.out)
      replace HO641 := A_ (Kd.R_drew HO641.out)
      replace BK619 := A_ (blk_drew BK619.out)
      replace BK620 := A_ (blk_drew BK620.out)
      replace BK628 := A_ (blk_drew BK628.out)
      replace BK629 := A_ (blk_drew BK629.out)
      replace BK642 := A_ (blk_drew BK642.out)
      replace HB := A_ (below_drew1 HB.out)
      refine start_ (n := 50) (S := fun w' => w'.cell? ⟨gb619, 0, none⟩ = some (.int .u64 a0_0) ∧ w'.cell? ⟨gb619, 1, none⟩ = some (.int .u64 a0_1) ∧ w'.cell? ⟨gb620, 0, none⟩ = some (.int .u64 a1_0) ∧ w'.cell? ⟨gb620, 1, none⟩ = some (.int .u64 a1_1) ∧ w'.cell? ⟨gb628, 0, none⟩ = some (.slice Ao41 t622.length co41) ∧ w'.cell? ⟨gb629, 0, none⟩ = some (.slice Ao43 t625.length co43) ∧ w'.cell? ⟨gb642, 0, none⟩ = some (.slice Ao56 t639.length co56)) (ds := []) #[false, false, false, false, false, false, false, false, false, false, false, false, false, false, false, false, false, false, false, false, false, false, false, false, false, false, false, false, false, false, false, false, false, false, false, false, false, false, false, false, false, false, false, false, false, false, false, false, false, false] (by kernel_rfl) rfl rfl ⟨bc_ BK619.out 0, bc_ BK619.out 1, bc_ BK620.out 0, bc_ BK620.out 1, bc_ BK628.out 0, bc_ BK629.out 0, bc_ BK642.out 0⟩ (fun hHeld => ?_); refine with_tabW L01_WideSums.tab5 L01_WideSums.bits5 (fun HT_ HW_ => ?_)
      generalize w58.drew = w59 at HO624 HO627 HO632 HO635 HO638 HO641 BK619 BK620 BK628 BK629 BK642 HB hHeld ⊢
      refine tk7_ 0 (some 20) #[true, false, false, false, false, false, false, false, false, false, false, false, false, false, false, false, false, false, false, false, false, false, false, false, false, false, false, false, false, false, false, false, false, false, false, false, false, false, false, false, false, false, false, false, false, false, false, false, false, false] rfl rfl (take_ofW HT_.out HW_.out (by kernel_rfl)) hHeld ?_
      refine tk7_ 1 (some 21) #[true, true, false, false, false, false, false, false, false, false, false, false, false, false, false, false, false, false, false, false, false, false, false, false, false, false, false, false, false, false, false, false, false, false, false, false, false, false, false, false, false, false, false, false, false, false, false, false, false, false] rfl rfl (take_ofW HT_.out HW_.out (by kernel_rfl)) hHeld ?_
      refine tk7_ 3 (some 23) #[true, true, false, true, false, false, false, false, false, false, false, false, false, false, false, false, false, false, false, false, false, false, false, false, false, false, false, false, false, false, false, false, false, false, false, false, false, false, false, false, false, false, false, false, false, false, false, false, false, false] rfl rfl (take_ofW HT_.out HW_.out (by kernel_rfl)) hHeld ?_
      refine tk7_ 4 (some 24) #[true, true, false, true, true, false, false, false, false, false, false, false, false, false, false, false, false, false, false, false, false, false, false, false, false, false, false, false, false, false, false, false, false, false, false, false, false, false, false, false, false, false, false, false, false, false, false, false, false, false] rfl rfl (take_ofW HT_.out HW_.out (by kernel_rfl)) hHeld ?_
      refine one_ (i := 2) (N := some 22) #[true, true, true, true, true, false, false, false, false, false, false, false, false, false, false, false, false, false, false, false, false, false, false, false, false, false, false, false, false, false, false, false, false, false, false, false, false, false, false, false, false, false, false, false, false, false, false, false, false, false] rfl rfl (one_of HT_.out (by kernel_rfl)) (by decide) (fun K hK => ?_)
      refine goes_ Try.func35 (by kernel_rfl) rfl #[.agg #[.int .u64 a0_0, .int .u64 a0_1], .agg #[.int .u64 a1_0, .int .u64 a1_1]] (by rfl) rfl rfl mp_ ?_
      with_reducible refine (wide_Add.calls a0_0 a0_1 a1_0 a1_1 t643 t644 _ A11.out).mono ?_
      rintro e w60 ⟨rfl, hb⟩
      refine ⟨_, rfl, ?_⟩
      replace HO624 := A_ (Kd.R_below (kr_ HO624.out) hb)
      replace HO627 := A_ (Kd.R_below (kr_ HO627.out) hb)
      replace HO632 := A_ (Kd.R_below (kr_ HO632.out) hb)
      replace HO635 := A_ (Kd.R_below (kr_ HO635.out) hb)
      replace HO638 := A_ (Kd.R_below (kr_ HO638.out) hb)
      replace HO641 := A_ (Kd.R_below (kr_ HO641.out) hb)
      replace BK619 := A_ (bb_ BK619.out hb)
      replace BK620 := A_ (bb_ BK620.out hb)
      replace BK628 := A_ (bb_ BK628.out hb)
      replace BK629 := A_ (bb_ BK629.out hb)
      replace BK642 := A_ (bb_ BK642.out hb)
      replace HB := A_ (below_step (by repeat (first | (with_reducible first | exact HB.out | apply below_alloc | apply pw_below_drewN | apply below_drew1 | refine below_set ?_ GE619.out | refine below_set ?_ GE620.out | refine below_set ?_ GE628.out | refine below_set ?_ GE629.out | refine below_set ?_ GE642.out) | exact HB.out)) hb);(try clear hb);(try clear hb2);(try clear hk);(try clear hi)
      refine hK.out _ _ ⟨bc_ BK619.out 0, bc_ BK619.out 1, bc_ BK620.out 0, bc_ BK620.out 1, bc_ BK628.out 0, bc_ BK629.out 0, bc_ BK642.out 0⟩ (fun hHeld => ?_)
      clear hK K
      refine norm_ (a' := ?_) ?_ ?_
      rotate_left
      ·show Act.put _ (some 22) _ = _
       simp only [Act.put, lI_, l0_, lS_, i64_w, i32_w]
       rfl
      refine one_ (i := 5) (N := some 25) #[true, true, true, true, true, true, false, false, false, false, false, false, false, false, false, false, false, false, false, false, false, false, false, false, false, false, false, false, false, false, false, false, false, false, false, false, false, false, false, false, false, false, false, false, false, false, false, false, false, false] rfl rfl (one_of HT_.out (by kernel_rfl)) (by decide) (fun K hK => ?_)
      refine goes_ Try.func31 (by kernel_rfl) rfl #[.agg #[.slice Ao41 t622.length co41], .agg #[.slice Ao43 t625.length co43]] (by rfl) rfl rfl mp_ ?_
      with_reducible refine (r1_Add.calls k _ _ t622 _ _ t625 t645 _ ?side1 ?side2 ?side3 ?side4 A12.out).mono ?_
      (case side1 => exact cs_ ((Kd.R_reads' HO624.out).2.2))
      (case side2 => exact (Kd.R_reads' HO624.out).2.1)
      (case side3 => exact cs_ ((Kd.R_reads' HO627.out).2.2))
      (case side4 => exact (Kd.R_reads' HO627.out).2.1)
      rintro e w61 ⟨v646, rfl, ho0, hb⟩
      refine ⟨_, rfl, ?_⟩
      have HO647 := A_ (Kd.R_lower (Kd.R_new' (Kd.R_new' (Kd.R_new' (Kd.R_new' (Kd.R_new' (Kd.R_new' ho0 (Kd.R_lt (kr_ HO624.out))) (Kd.R_lt (kr_ HO627.out))) (Kd.R_lt (kr_ HO632.out))) (Kd.R_lt (kr_ HO635.out))) (Kd.R_lt (kr_ HO638.out))) (Kd.R_lt (kr_ HO641.out))) (below_size (by repeat (first | (with_reducible first | exact HB.out | apply below_alloc | apply pw_below_drewN | apply below_drew1 | refine below_set ?_ GE619.out | refine below_set ?_ GE620.out | refine below_set ?_ GE628.out | refine below_set ?_ GE629.out | refine below_set ?_ GE642.out) | exact HB.out))))
      replace HO624 := A_ (Kd.R_elder' (kr_ HO624.out) (Kd.R_base ho0) hb)
      replace HO627 := A_ (Kd.R_elder' (kr_ HO627.out) (Kd.R_base ho0) hb)
      replace HO632 := A_ (Kd.R_elder' (kr_ HO632.out) (Kd.R_base ho0) hb)
      replace HO635 := A_ (Kd.R_elder' (kr_ HO635.out) (Kd.R_base ho0) hb)
      replace HO638 := A_ (Kd.R_elder' (kr_ HO638.out) (Kd.R_base ho0) hb)
      replace HO641 := A_ (Kd.R_elder' (kr_ HO641.out) (Kd.R_base ho0) hb)
      replace BK619 := A_ (bb_ BK619.out hb)
      replace BK620 := A_ (bb_ BK620.out hb)
      replace BK628 := A_ (bb_ BK628.out hb)
      replace BK629 := A_ (bb_ BK629.out hb)
      replace BK642 := A_ (bb_ BK642.out hb)
      replace HB := A_ (below_step (by repeat (first | (with_reducible first | exact HB.out | apply below_alloc | apply pw_below_drewN | apply below_drew1 | refine below_set ?_ GE619.out | refine below_set ?_ GE620.out | refine below_set ?_ GE628.out | refine below_set ?_ GE629.out | refine below_set ?_ GE642.out) | exact HB.out)) hb);(try clear hb);(try clear hb2);(try clear hk);(try clear hi);(try clear ho0)
      obtain ⟨Ao62, co62, eo62⟩ := Kd.R_slice HO647.out
      (first | subst eo62 | (injection eo62 with f1_ f2_ f3_; have f4_ := f1_.symm; have f5_ := f3_.symm; clear f1_ f2_ f3_; subst f4_; subst f5_))
      refine hK.out _ _ ⟨bc_ BK619.out 0, bc_ BK619.out 1, bc_ BK620.out 0, bc_ BK620.out 1, bc_ BK628.out 0, bc_ BK629.out 0, bc_ BK642.out 0⟩ (fun hHeld => ?_)
      clear hK K
      refine norm_ (a' := ?_) ?_ ?_
      rotate_left
      ·show Act.put _ (some 25) _ = _
       simp only [Act.put, lI_, l0_, lS_, i64_w, i32_w]
       rfl
      refine one_ (i := 6) (N := some 26) #[true, true, true, true, true, true, true, false, false, false, false, false, false, false, false, false, false, false, false, false, false, false, false, false, false, false, false, false, false, false, false, false, false, false, false, false, false, false, false, false, false, false, false, false, false, false, false, false, false, false] rfl rfl (one_of HT_.out (by kernel_rfl)) (by decide) (fun K hK => ?_)
      refine goes_ Try.func36 (by kernel_rfl) rfl #[.agg #[.slice Ao62 t645.length co62]] (by rfl) rfl rfl mp_ ?_
      with_reducible refine (r1_Mod.calls k (fun k_ => some k_ = (.slice Ao62 t645.length co62 : Value).ownBlock) _ _ t645 t648 _ ?side1 A13.out).mono ?_
      (case side1 => exact Kd.R_V (Kd.R_tight rfl (Kd.R_types (Kd.R_types (Kd.R_types (Kd.R_types (Kd.R_types (HO647.out) BK619.out (by decide)) BK620.out (by decide)) BK628.out (by decide)) BK629.out (by decide)) BK642.out (by decide))))
      rintro e w63 ⟨v649, rfl, ho0, hb⟩
      refine ⟨_, rfl, ?_⟩
      have HO650 := A_ (Kd.V_lower (Kd.V_mono (ok' := fun k_ => some k_ ≠ (.slice Ao41 t622.length co41 : Value).ownBlock ∧ some k_ ≠ (.slice Ao43 t625.length co43 : Value).ownBlock ∧ some k_ ≠ (v631 : Value).ownBlock ∧ some k_ ≠ (v634 : Value).ownBlock ∧ some k_ ≠ (v637 : Value).ownBlock ∧ some k_ ≠ (.slice Ao56 t639.length co56 : Value).ownBlock ∧ k_ ≠ gb619 ∧ k_ ≠ gb620 ∧ k_ ≠ gb628 ∧ k_ ≠ gb629 ∧ k_ ≠ gb642) ho0 (fun k_ hk_ => ⟨Or.elim hk_ (fun hs_ => ((Kd.R_types (Kd.R_types (Kd.R_types (Kd.R_types (Kd.R_types (HO647.out) BK619.out (by decide)) BK620.out (by decide)) BK628.out (by decide)) BK629.out (by decide)) BK642.out (by decide)).1 k_ hs_.symm).1.1.1.1.1.1.1.1.1.1.2) (fun hn_ => (Kd.fresh' (Kd.R_lt (kr_ HO624.out)) k_ hn_)), Or.elim hk_ (fun hs_ => ((Kd.R_types (Kd.R_types (Kd.R_types (Kd.R_types (Kd.R_types (HO647.out) BK619.out (by decide)) BK620.out (by decide)) BK628.out (by decide)) BK629.out (by decide)) BK642.out (by decide)).1 k_ hs_.symm).1.1.1.1.1.1.1.1.1.2) (fun hn_ => (Kd.fresh' (Kd.R_lt (kr_ HO627.out)) k_ hn_)), Or.elim hk_ (fun hs_ => ((Kd.R_types (Kd.R_types (Kd.R_types (Kd.R_types (Kd.R_types (HO647.out) BK619.out (by decide)) BK620.out (by decide)) BK628.out (by decide)) BK629.out (by decide)) BK642.out (by decide)).1 k_ hs_.symm).1.1.1.1.1.1.1.1.2) (fun hn_ => (Kd.fresh' (Kd.R_lt (kr_ HO632.out)) k_ hn_)), Or.elim hk_ (fun hs_ => ((Kd.R_types (Kd.R_types (Kd.R_types (Kd.R_types (Kd.R_types (HO647.out) BK619.out (by decide)) BK620.out (by decide)) BK628.out (by decide)) BK629.out (by decide)) BK642.out (by decide)).1 k_ hs_.symm).1.1.1.1.1.1.1.2) (fun hn_ => (Kd.fresh' (Kd.R_lt (kr_ HO635.out)) k_ hn_)), Or.elim hk_ (fun hs_ => ((Kd.R_types (Kd.R_types (Kd.R_types (Kd.R_types (Kd.R_types (HO647.out) BK619.out (by decide)) BK620.out (by decide)) BK628.out (by decide)) BK629.out (by decide)) BK642.out (by decide)).1 k_ hs_.symm).1.1.1.1.1.1.2) (fun hn_ => (Kd.fresh' (Kd.R_lt (kr_ HO638.out)) k_ hn_)), Or.elim hk_ (fun hs_ => ((Kd.R_types (Kd.R_types (Kd.R_types (Kd.R_types (Kd.R_types (HO647.out) BK619.out (by decide)) BK620.out (by decide)) BK628.out (by decide)) BK629.out (by decide)) BK642.out (by decide)).1 k_ hs_.symm).1.1.1.1.1.2) (fun hn_ => (Kd.fresh' (Kd.R_lt (kr_ HO641.out)) k_ hn_)), Or.elim hk_ (fun hs_ => ((Kd.R_types (Kd.R_types (Kd.R_types (Kd.R_types (Kd.R_types (HO647.out) BK619.out (by decide)) BK620.out (by decide)) BK628.out (by decide)) BK629.out (by decide)) BK642.out (by decide)).1 k_ hs_.symm).1.1.1.1.2) (fun hn_ => (Kd.freshB (g := gb619) (o := .cells #[.int .u64 a0_0, .int .u64 a0_1] 50 (0, 0)) (bk_ BK619.out) k_ hn_)), Or.elim hk_ (fun hs_ => ((Kd.R_types (Kd.R_types (Kd.R_types (Kd.R_types (Kd.R_types (HO647.out) BK619.out (by decide)) BK620.out (by decide)) BK628.out (by decide)) BK629.out (by decide)) BK642.out (by decide)).1 k_ hs_.symm).1.1.1.2) (fun hn_ => (Kd.freshB (g := gb620) (o := .cells #[.int .u64 a1_0, .int .u64 a1_1] 50 (0, 0)) (bk_ BK620.out) k_ hn_)), Or.elim hk_ (fun hs_ => ((Kd.R_types (Kd.R_types (Kd.R_types (Kd.R_types (Kd.R_types (HO647.out) BK619.out (by decide)) BK620.out (by decide)) BK628.out (by decide)) BK629.out (by decide)) BK642.out (by decide)).1 k_ hs_.symm).1.1.2) (fun hn_ => (Kd.freshB (g := gb628) (o := .cells #[.slice Ao41 t622.length co41] 53 (0, 0)) (bk_ BK628.out) k_ hn_)), Or.elim hk_ (fun hs_ => ((Kd.R_types (Kd.R_types (Kd.R_types (Kd.R_types (Kd.R_types (HO647.out) BK619.out (by decide)) BK620.out (by decide)) BK628.out (by decide)) BK629.out (by decide)) BK642.out (by decide)).1 k_ hs_.symm).1.2) (fun hn_ => (Kd.freshB (g := gb629) (o := .cells #[.slice Ao43 t625.length co43] 53 (0, 0)) (bk_ BK629.out) k_ hn_)), Or.elim hk_ (fun hs_ => ((Kd.R_types (Kd.R_types (Kd.R_types (Kd.R_types (Kd.R_types (HO647.out) BK619.out (by decide)) BK620.out (by decide)) BK628.out (by decide)) BK629.out (by decide)) BK642.out (by decide)).1 k_ hs_.symm).2) (fun hn_ => (Kd.freshB (g := gb642) (o := .cells #[.slice Ao56 t639.length co56] 53 (0, 0)) (bk_ BK642.out) k_ hn_))⟩)) (below_size (by repeat (first | (with_reducible first | exact HB.out | apply below_alloc | apply pw_below_drewN | apply below_drew1 | refine below_set ?_ GE619.out | refine below_set ?_ GE620.out | refine below_set ?_ GE628.out | refine below_set ?_ GE629.out | refine below_set ?_ GE642.out) | exact HB.out))))
      replace HO624 := A_ (Kd.R_below (kr_ HO624.out) hb)
      replace HO627 := A_ (Kd.R_below (kr_ HO627.out) hb)
      replace HO632 := A_ (Kd.R_below (kr_ HO632.out) hb)
      replace HO635 := A_ (Kd.R_below (kr_ HO635.out) hb)
      replace HO638 := A_ (Kd.R_below (kr_ HO638.out) hb)
      replace HO641 := A_ (Kd.R_below (kr_ HO641.out) hb)
      replace HO647 := A_ (Kd.R_below (kr_ HO647.out) hb)
      replace BK619 := A_ (bb_ BK619.out hb)
      replace BK620 := A_ (bb_ BK620.out hb)
      replace BK628 := A_ (bb_ BK628.out hb)
      replace BK629 := A_ (bb_ BK629.out hb)
      replace BK642 := A_ (bb_ BK642.out hb)
      replace HB := A_ (below_step (by repeat (first | (with_reducible first | exact HB.out | apply below_alloc | apply pw_below_drewN | apply below_drew1 | refine below_set ?_ GE619.out | refine below_set ?_ GE620.out | refine below_set ?_ GE628.out | refine below_set ?_ GE629.out | refine below_set ?_ GE642.out) | exact HB.out)) hb);(try clear hb);(try clear hb2);(try clear hk);(try clear hi);(try clear ho0)
      obtain ⟨Ao64, co64, eo64⟩ := Kd.V_slice HO650.out
      (first | subst eo64 | (injection eo64 with f1_ f2_ f3_; have f4_ := f1_.symm; have f5_ := f3_.symm; clear f1_ f2_ f3_; subst f4_; subst f5_))
      refine hK.out _ _ ⟨bc_ BK619.out 0, bc_ BK619.out 1, bc_ BK620.out 0, bc_ BK620.out 1, bc_ BK628.out 0, bc_ BK629.out 0, bc_ BK642.out 0⟩ (fun hHeld => ?_)
      clear hK K
      refine norm_ (a' := ?_) ?_ ?_
      rotate_left
      ·show Act.put _ (some 26) _ = _
       simp only [Act.put, lI_, l0_, lS_, i64_w, i32_w]
       rfl
      refine one_ (i := 7) (N := some 27) #[true, true, true, true, true, true, true, true, false, false, false, false, false, false, false, false, false, false, false, false, false, false, false, false, false, false, false, false, false, false, false, false, false, false, false, false, false, false, false, false, false, false, false, false, false, false, false, false, false, false] rfl rfl (one_of HT_.out (by kernel_rfl)) (by decide) (fun K hK => ?_)
      refine goes_ Try.func34 (by kernel_rfl) rfl #[.agg #[.int .u64 t643, .int .u64 t644], .agg #[.slice Ao64 t648.length co64]] (by rfl) rfl rfl mp_ ?_
      with_reducible refine (L01_is.calls k t643 t644 _ _ t648 true _ ?side1 ?side2 A14.out).mono ?_
      (case side1 => exact cs_ ((Kd.V_reads' HO650.out).2.2))
      (case side2 => exact (Kd.V_reads' HO650.out).2.1)
      rintro e w65 ⟨rfl, hb⟩
      refine ⟨_, rfl, ?_⟩
      replace HO624 := A_ (Kd.R_below (kr_ HO624.out) hb)
      replace HO627 := A_ (Kd.R_below (kr_ HO627.out) hb)
      replace HO632 := A_ (Kd.R_below (kr_ HO632.out) hb)
      replace HO635 := A_ (Kd.R_below (kr_ HO635.out) hb)
      replace HO638 := A_ (Kd.R_below (kr_ HO638.out) hb)
      replace HO641 := A_ (Kd.R_below (kr_ HO641.out) hb)
      replace HO647 := A_ (Kd.R_below (kr_ HO647.out) hb)
      replace HO650 := A_ (Kd.V_below (kv_ HO650.out) hb)
      replace BK619 := A_ (bb_ BK619.out hb)
      replace BK620 := A_ (bb_ BK620.out hb)
      replace BK628 := A_ (bb_ BK628.out hb)
      replace BK629 := A_ (bb_ BK629.out hb)
      replace BK642 := A_ (bb_ BK642.out hb)
      replace HB := A_ (below_step (by repeat (first | (with_reducible first | exact HB.out | apply below_alloc | apply pw_below_drewN | apply below_drew1 | refine below_set ?_ GE619.out | refine below_set ?_ GE620.out | refine below_set ?_ GE628.out | refine below_set ?_ GE629.out | refine below_set ?_ GE642.out) | exact HB.out)) hb);(try clear hb);(try clear hb2);(try clear hk);(try clear hi)
      refine hK.out _ _ ⟨bc_ BK619.out 0, bc_ BK619.out 1, bc_ BK620.out 0, bc_ BK620.out 1, bc_ BK628.out 0, bc_ BK629.out 0, bc_ BK642.out 0⟩ (fun hHeld => ?_)
      clear hK K
      refine norm_ (a' := ?_) ?_ ?_
      rotate_left
      ·show Act.put _ (some 27) _ = _
       simp only [Act.put, lI_, l0_, lS_, i64_w, i32_w]
       rfl
      refine pu_ 8 (some 28) #[true, true, true, true, true, true, true, true, true, false, false, false, false, false, false, false, false, false, false, false, false, false, false, false, false, false, false, false, false, false, false, false, false, false, false, false, false, false, false, false, false, false, false, false, false, false, false, false, false, false] rfl rfl (any_of HT_.out (by kernel_rfl)) ?_
      refine tk7_ 9 (some 29) #[true, true, true, true, true, true, true, true, true, true, false, false, false, false, false, false, false, false, false, false, false, false, false, false, false, false, false, false, false, false, false, false, false, false, false, false, false, false, false, false, false, false, false, false, false, false, false, false, false, false] rfl rfl (take_ofW HT_.out HW_.out (by kernel_rfl)) hHeld ?_
      refine tk7_ 10 (some 30) #[true, true, true, true, true, true, true, true, true, true, true, false, false, false, false, false, false, false, false, false, false, false, false, false, false, false, false, false, false, false, false, false, false, false, false, false, false, false, false, false, false, false, false, false, false, false, false, false, false, false] rfl rfl (take_ofW HT_.out HW_.out (by kernel_rfl)) hHeld ?_
      refine tk7_ 12 (some 32) #[true, true, true, true, true, true, true, true, true, true, true, false, true, false, false, false, false, false, false, false, false, false, false, false, false, false, false, false, false, false, false, false, false, false, false, false, false, false, false, false, false, false, false, false, false, false, false, false, false, false] rfl rfl (take_ofW HT_.out HW_.out (by kernel_rfl)) hHeld ?_
      refine one_ (i := 11) (N := some 31) #[true, true, true, true, true, true, true, true, true, true, true, true, true, false, false, false, false, false, false, false, false, false, false, false, false, false, false, false, false, false, false, false, false, false, false, false, false, false, false, false, false, false, false, false, false, false, false, false, false, false] rfl rfl (one_of HT_.out (by kernel_rfl)) (by decide) (fun K hK => ?_)
      refine goes_ Try.func37 (by kernel_rfl) rfl #[.agg #[.int .u64 a0_0, .int .u64 a0_1], .agg #[.int .u64 a1_0, .int .u64 a1_1]] (by rfl) rfl rfl mp_ ?_
      with_reducible refine (wide_Sub.calls a0_0 a0_1 a1_0 a1_1 t652 t653 _ A16.out).mono ?_
      rintro e w66 ⟨rfl, hb⟩
      refine ⟨_, rfl, ?_⟩
      replace HO624 := A_ (Kd.R_below (kr_ HO624.out) hb)
      replace HO627 := A_ (Kd.R_below (kr_ HO627.out) hb)
      replace HO632 := A_ (Kd.R_below (kr_ HO632.out) hb)
      replace HO635 := A_ (Kd.R_below (kr_ HO635.out) hb)
      replace HO638 := A_ (Kd.R_below (kr_ HO638.out) hb)
      replace HO641 := A_ (Kd.R_below (kr_ HO641.out) hb)
      replace HO647 := A_ (Kd.R_below (kr_ HO647.out) hb)
      replace HO650 := A_ (Kd.V_below (kv_ HO650.out) hb)
      replace BK619 := A_ (bb_ BK619.out hb)
      replace BK620 := A_ (bb_ BK620.out hb)
      replace BK628 := A_ (bb_ BK628.out hb)
      replace BK629 := A_ (bb_ BK629.out hb)
      replace BK642 := A_ (bb_ BK642.out hb)
      replace HB := A_ (below_step (by repeat (first | (with_reducible first | exact HB.out | apply below_alloc | apply pw_below_drewN | apply below_drew1 | refine below_set ?_ GE619.out | refine below_set ?_ GE620.out | refine below_set ?_ GE628.out | refine below_set ?_ GE629.out | refine below_set ?_ GE642.out) | exact HB.out)) hb);(try clear hb);(try clear hb2);(try clear hk);(try clear hi)
      refine hK.out _ _ ⟨bc_ BK619.out 0, bc_ BK619.out 1, bc_ BK620.out 0, bc_ BK620.out 1, bc_ BK628.out 0, bc_ BK629.out 0, bc_ BK642.out 0⟩ (fun hHeld => ?_)
      clear hK K
      refine norm_ (a' := ?_) ?_ ?_
      rotate_left
      ·show Act.put _ (some 31) _ = _
       simp only [Act.put, lI_, l0_, lS_, i64_w, i32_w]
       rfl
      refine one_ (i := 13) (N := some 33) #[true, true, true, true, true, true, true, true, true, true, true, true, true, true, false, false, false, false, false, false, false, false, false, false, false, false, false, false, false, false, false, false, false, false, false, false, false, false, false, false, false, false, false, false, false, false, false, false, false, false] rfl rfl (one_of HT_.out (by kernel_rfl)) (by decide) (fun K hK => ?_)
      refine goes_ Try.func36 (by kernel_rfl) rfl #[.agg #[.slice Ao56 t639.length co56]] (by rfl) rfl rfl mp_ ?_
      with_reducible refine (r1_Mod.calls k (fun k_ => some k_ = (.slice Ao56 t639.length co56 : Value).ownBlock) _ _ t639 t654 _ ?side1 A17.out).mono ?_
      (case side1 => exact Kd.R_V (Kd.R_tight rfl (Kd.R_types (Kd.R_types (Kd.R_types (Kd.R_types (Kd.R_types (HO641.out) BK619.out (by decide)) BK620.out (by decide)) BK628.out (by decide)) BK629.out (by decide)) BK642.out (by decide))))
      rintro e w67 ⟨v655, rfl, ho0, hb⟩
      refine ⟨_, rfl, ?_⟩
      have HO656 := A_ (Kd.V_lower (Kd.V_mono (ok' := fun k_ => some k_ ≠ (.slice Ao41 t622.length co41 : Value).ownBlock ∧ some k_ ≠ (.slice Ao43 t625.length co43 : Value).ownBlock ∧ some k_ ≠ (v631 : Value).ownBlock ∧ some k_ ≠ (v634 : Value).ownBlock ∧ some k_ ≠ (v637 : Value).ownBlock ∧ some k_ ≠ (.slice Ao62 t645.length co62 : Value).ownBlock ∧ k_ ≠ gb619 ∧ k_ ≠ gb620 ∧ k_ ≠ gb628 ∧ k_ ≠ gb629 ∧ k_ ≠ gb642) ho0 (fun k_ hk_ => ⟨Or.elim hk_ (fun hs_ => ((Kd.R_types (Kd.R_types (Kd.R_types (Kd.R_types (Kd.R_types (HO641.out) BK619.out (by decide)) BK620.out (by decide)) BK628.out (by decide)) BK629.out (by decide)) BK642.out (by decide)).1 k_ hs_.symm).1.1.1.1.1.1.1) (fun hn_ => (Kd.fresh' (Kd.R_lt (kr_ HO624.out)) k_ hn_)), Or.elim hk_ (fun hs_ => ((Kd.R_types (Kd.R_types (Kd.R_types (Kd.R_types (Kd.R_types (HO641.out) BK619.out (by decide)) BK620.out (by decide)) BK628.out (by decide)) BK629.out (by decide)) BK642.out (by decide)).1 k_ hs_.symm).1.1.1.1.1.1.2.1) (fun hn_ => (Kd.fresh' (Kd.R_lt (kr_ HO627.out)) k_ hn_)), Or.elim hk_ (fun hs_ => ((Kd.R_types (Kd.R_types (Kd.R_types (Kd.R_types (Kd.R_types (HO641.out) BK619.out (by decide)) BK620.out (by decide)) BK628.out (by decide)) BK629.out (by decide)) BK642.out (by decide)).1 k_ hs_.symm).1.1.1.1.1.1.2.2.1) (fun hn_ => (Kd.fresh' (Kd.R_lt (kr_ HO632.out)) k_ hn_)), Or.elim hk_ (fun hs_ => ((Kd.R_types (Kd.R_types (Kd.R_types (Kd.R_types (Kd.R_types (HO641.out) BK619.out (by decide)) BK620.out (by decide)) BK628.out (by decide)) BK629.out (by decide)) BK642.out (by decide)).1 k_ hs_.symm).1.1.1.1.1.1.2.2.2.1) (fun hn_ => (Kd.fresh' (Kd.R_lt (kr_ HO635.out)) k_ hn_)), Or.elim hk_ (fun hs_ => ((Kd.R_types (Kd.R_types (Kd.R_types (Kd.R_types (Kd.R_types (HO641.out) BK619.out (by decide)) BK620.out (by decide)) BK628.out (by decide)) BK629.out (by decide)) BK642.out (by decide)).1 k_ hs_.symm).1.1.1.1.1.1.2.2.2.2) (fun hn_ => (Kd.fresh' (Kd.R_lt (kr_ HO638.out)) k_ hn_)), Or.elim hk_ (fun hs_ => ((Kd.R_types (Kd.R_types (Kd.R_types (Kd.R_types (Kd.R_types (HO641.out) BK619.out (by decide)) BK620.out (by decide)) BK628.out (by decide)) BK629.out (by decide)) BK642.out (by decide)).1 k_ hs_.symm).1.1.1.1.1.2) (fun hn_ => (Kd.fresh' (Kd.R_lt (kr_ HO647.out)) k_ hn_)), Or.elim hk_ (fun hs_ => ((Kd.R_types (Kd.R_types (Kd.R_types (Kd.R_types (Kd.R_types (HO641.out) BK619.out (by decide)) BK620.out (by decide)) BK628.out (by decide)) BK629.out (by decide)) BK642.out (by decide)).1 k_ hs_.symm).1.1.1.1.2) (fun hn_ => (Kd.freshB (g := gb619) (o := .cells #[.int .u64 a0_0, .int .u64 a0_1] 50 (0, 0)) (bk_ BK619.out) k_ hn_)), Or.elim hk_ (fun hs_ => ((Kd.R_types (Kd.R_types (Kd.R_types (Kd.R_types (Kd.R_types (HO641.out) BK619.out (by decide)) BK620.out (by decide)) BK628.out (by decide)) BK629.out (by decide)) BK642.out (by decide)).1 k_ hs_.symm).1.1.1.2) (fun hn_ => (Kd.freshB (g := gb620) (o := .cells #[.int .u64 a1_0, .int .u64 a1_1] 50 (0, 0)) (bk_ BK620.out) k_ hn_)), Or.elim hk_ (fun hs_ => ((Kd.R_types (Kd.R_types (Kd.R_types (Kd.R_types (Kd.R_types (HO641.out) BK619.out (by decide)) BK620.out (by decide)) BK628.out (by decide)) BK629.out (by decide)) BK642.out (by decide)).1 k_ hs_.symm).1.1.2) (fun hn_ => (Kd.freshB (g := gb628) (o := .cells #[.slice Ao41 t622.length co41] 53 (0, 0)) (bk_ BK628.out) k_ hn_)), Or.elim hk_ (fun hs_ => ((Kd.R_types (Kd.R_types (Kd.R_types (Kd.R_types (Kd.R_types (HO641.out) BK619.out (by decide)) BK620.out (by decide)) BK628.out (by decide)) BK629.out (by decide)) BK642.out (by decide)).1 k_ hs_.symm).1.2) (fun hn_ => (Kd.freshB (g := gb629) (o := .cells #[.slice Ao43 t625.length co43] 53 (0, 0)) (bk_ BK629.out) k_ hn_)), Or.elim hk_ (fun hs_ => ((Kd.R_types (Kd.R_types (Kd.R_types (Kd.R_types (Kd.R_types (HO641.out) BK619.out (by decide)) BK620.out (by decide)) BK628.out (by decide)) BK629.out (by decide)) BK642.out (by decide)).1 k_ hs_.symm).2) (fun hn_ => (Kd.freshB (g := gb642) (o := .cells #[.slice Ao56 t639.length co56] 53 (0, 0)) (bk_ BK642.out) k_ hn_))⟩)) (below_size (by repeat (first | (with_reducible first | exact HB.out | apply below_alloc | apply pw_below_drewN | apply below_drew1 | refine below_set ?_ GE619.out | refine below_set ?_ GE620.out | refine below_set ?_ GE628.out | refine below_set ?_ GE629.out | refine below_set ?_ GE642.out) | exact HB.out))))
      replace HO624 := A_ (Kd.R_below (kr_ HO624.out) hb)
      replace HO627 := A_ (Kd.R_below (kr_ HO627.out) hb)
      replace HO632 := A_ (Kd.R_below (kr_ HO632.out) hb)
      replace HO635 := A_ (Kd.R_below (kr_ HO635.out) hb)
      replace HO638 := A_ (Kd.R_below (kr_ HO638.out) hb)
      replace HO641 := A_ (Kd.R_below (kr_ HO641.out) hb)
      replace HO647 := A_ (Kd.R_below (kr_ HO647.out) hb)
      replace HO650 := A_ (Kd.V_below (kv_ HO650.out) hb)
      replace BK619 := A_ (bb_ BK619.out hb)
      replace BK620 := A_ (bb_ BK620.out hb)
      replace BK628 := A_ (bb_ BK628.out hb)
      replace BK629 := A_ (bb_ BK629.out hb)
      replace BK642 := A_ (bb_ BK642.out hb)
      replace HB := A_ (below_step (by repeat (first | (with_reducible first | exact HB.out | apply below_alloc | apply pw_below_drewN | apply below_drew1 | refine below_set ?_ GE619.out | refine below_set ?_ GE620.out | refine below_set ?_ GE628.out | refine below_set ?_ GE629.out | refine below_set ?_ GE642.out) | exact HB.out)) hb);(try clear hb);(try clear hb2);(try clear hk);(try clear hi);(try clear ho0)
      obtain ⟨Ao68, co68, eo68⟩ := Kd.V_slice HO656.out
      (first | subst eo68 | (injection eo68 with f1_ f2_ f3_; have f4_ := f1_.symm; have f5_ := f3_.symm; clear f1_ f2_ f3_; subst f4_; subst f5_))
      refine hK.out _ _ ⟨bc_ BK619.out 0, bc_ BK619.out 1, bc_ BK620.out 0, bc_ BK620.out 1, bc_ BK628.out 0, bc_ BK629.out 0, bc_ BK642.out 0⟩ (fun hHeld => ?_)
      clear hK K
      refine norm_ (a' := ?_) ?_ ?_
      rotate_left
      ·show Act.put _ (some 33) _ = _
       simp only [Act.put, lI_, l0_, lS_, i64_w, i32_w]
       rfl
      refine one_ (i := 14) (N := some 34) #[true, true, true, true, true, true, true, true, true, true, true, true, true, true, true, false, false, false, false, false, false, false, false, false, false, false, false, false, false, false, false, false, false, false, false, false, false, false, false, false, false, false, false, false, false, false, false, false, false, false] rfl rfl (one_of HT_.out (by kernel_rfl)) (by decide) (fun K hK => ?_)
      refine goes_ Try.func34 (by kernel_rfl) rfl #[.agg #[.int .u64 t652, .int .u64 t653], .agg #[.slice Ao68 t654.length co68]] (by rfl) rfl rfl mp_ ?_
      with_reducible refine (L01_is.calls k t652 t653 _ _ t654 true _ ?side1 ?side2 A18.out).mono ?_
      (case side1 => exact cs_ ((Kd.V_reads' HO656.out).2.2))
      (case side2 => exact (Kd.V_reads' HO656.out).2.1)
      rintro e w69 ⟨rfl, hb⟩
      refine ⟨_, rfl, ?_⟩
      replace HO624 := A_ (Kd.R_below (kr_ HO624.out) hb)
      replace HO627 := A_ (Kd.R_below (kr_ HO627.out) hb)
      replace HO632 := A_ (Kd.R_below (kr_ HO632.out) hb)
      replace HO635 := A_ (Kd.R_below (kr_ HO635.out) hb)
      replace HO638 := A_ (Kd.R_below (kr_ HO638.out) hb)
      replace HO641 := A_ (Kd.R_below (kr_ HO641.out) hb)
      replace HO647 := A_ (Kd.R_below (kr_ HO647.out) hb)
      replace HO650 := A_ (Kd.V_below (kv_ HO650.out) hb)
      replace HO656 := A_ (Kd.V_below (kv_ HO656.out) hb)
      replace BK619 := A_ (bb_ BK619.out hb)
      replace BK620 := A_ (bb_ BK620.out hb)
      replace BK628 := A_ (bb_ BK628.out hb)
      replace BK629 := A_ (bb_ BK629.out hb)
      replace BK642 := A_ (bb_ BK642.out hb)
      replace HB := A_ (below_step (by repeat (first | (with_reducible first | exact HB.out | apply below_alloc | apply pw_below_drewN | apply below_drew1 | refine below_set ?_ GE619.out | refine below_set ?_ GE620.out | refine below_set ?_ GE628.out | refine below_set ?_ GE629.out | refine below_set ?_ GE642.out) | exact HB.out)) hb);(try clear hb);(try clear hb2);(try clear hk);(try clear hi)
      refine hK.out _ _ ⟨bc_ BK619.out 0, bc_ BK619.out 1, bc_ BK620.out 0, bc_ BK620.out 1, bc_ BK628.out 0, bc_ BK629.out 0, bc_ BK642.out 0⟩ (fun hHeld => ?_)
      clear hK K
      refine norm_ (a' := ?_) ?_ ?_
      rotate_left
      ·show Act.put _ (some 34) _ = _
       simp only [Act.put, lI_, l0_, lS_, i64_w, i32_w]
       rfl
      refine pu_ 15 (some 35) #[true, true, true, true, true, true, true, true, true, true, true, true, true, true, true, true, false, false, false, false, false, false, false, false, false, false, false, false, false, false, false, false, false, false, false, false, false, false, false, false, false, false, false, false, false, false, false, false, false, false] rfl rfl (any_of HT_.out (by kernel_rfl)) ?_
      refine pu_ 16 (some 36) #[true, true, true, true, true, true, true, true, true, true, true, true, true, true, true, true, true, false, false, false, false, false, false, false, false, false, false, false, false, false, false, false, false, false, false, false, false, false, false, false, false, false, false, false, false, false, false, false, false, false] rfl rfl (any_of HT_.out (by kernel_rfl)) ?_
      refine pu_ 17 (some 37) #[true, true, true, true, true, true, true, true, true, true, true, true, true, true, true, true, true, true, false, false, false, false, false, false, false, false, false, false, false, false, false, false, false, false, false, false, false, false, false, false, false, false, false, false, false, false, false, false, false, false] rfl rfl (any_of HT_.out (by kernel_rfl)) ?_
      refine pu_ 19 (some 39) #[true, true, true, true, true, true, true, true, true, true, true, true, true, true, true, true, true, true, false, true, false, false, false, false, false, false, false, false, false, false, false, false, false, false, false, false, false, false, false, false, false, false, false, false, false, false, false, false, false, false] rfl rfl (any_of HT_.out (by kernel_rfl)) ?_
      refine pu_ 22 (some 42) #[true, true, true, true, true, true, true, true, true, true, true, true, true, true, true, true, true, true, false, true, false, false, true, false, false, false, false, false, false, false, false, false, false, false, false, false, false, false, false, false, false, false, false, false, false, false, false, false, false, false] rfl rfl (any_of HT_.out (by kernel_rfl)) ?_
      refine pu_ 25 (some 45) #[true, true, true, true, true, true, true, true, true, true, true, true, true, true, true, true, true, true, false, true, false, false, true, false, false, true, false, false, false, false, false, false, false, false, false, false, false, false, false, false, false, false, false, false, false, false, false, false, false, false] rfl rfl (any_of HT_.out (by kernel_rfl)) ?_
      refine tk7_ 18 (some 38) #[true, true, true, true, true, true, true, true, true, true, true, true, true, true, true, true, true, true, true, true, false, false, true, false, false, true, false, false, false, false, false, false, false, false, false, false, false, false, false, false, false, false, false, false, false, false, false, false, false, false] rfl rfl (take_ofW HT_.out HW_.out (by kernel_rfl)) hHeld ?_
      refine tk7_ 20 (some 40) #[true, true, true, true, true, true, true, true, true, true, true, true, true, true, true, true, true, true, true, true, true, false, true, false, false, true, false, false, false, false, false, false, false, false, false, false, false, false, false, false, false, false, false, false, false, false, false, false, false, false] rfl rfl (take_ofW HT_.out HW_.out (by kernel_rfl)) hHeld ?_
      refine tk7_ 23 (some 43) #[true, true, true, true, true, true, true, true, true, true, true, true, true, true, true, true, true, true, true, true, true, false, true, true, false, true, false, false, false, false, false, false, false, false, false, false, false, false, false, false, false, false, false, false, false, false, false, false, false, false] rfl rfl (take_ofW HT_.out HW_.out (by kernel_rfl)) hHeld ?_
      refine tk7_ 26 (some 46) #[true, true, true, true, true, true, true, true, true, true, true, true, true, true, true, true, true, true, true, true, true, false, true, true, false, true, true, false, false, false, false, false, false, false, false, false, false, false, false, false, false, false, false, false, false, false, false, false, false, false] rfl rfl (take_ofW HT_.out HW_.out (by kernel_rfl)) hHeld ?_
      refine one_ (i := 21) (N := some 41) #[true, true, true, true, true, true, true, true, true, true, true, true, true, true, true, true, true, true, true, true, true, true, true, true, false, true, true, false, false, false, false, false, false, false, false, false, false, false, false, false, false, false, false, false, false, false, false, false, false, false] rfl rfl (one_of HT_.out (by kernel_rfl)) (by decide) (fun K hK => ?_)
      refine goes_ Try.func38 (by kernel_rfl) rfl #[.int .u64 a0_1, .int .u64 a1_1] (by rfl) rfl rfl mp_ ?_
      with_reducible refine (wide_Mul.calls a0_1 a1_1 t658 t659 _ A20.out).mono ?_
      rintro e w70 ⟨rfl, hb⟩
      refine ⟨_, rfl, ?_⟩
      replace HO624 := A_ (Kd.R_below (kr_ HO624.out) hb)
      replace HO627 := A_ (Kd.R_below (kr_ HO627.out) hb)
      replace HO632 := A_ (Kd.R_below (kr_ HO632.out) hb)
      replace HO635 := A_ (Kd.R_below (kr_ HO635.out) hb)
      replace HO638 := A_ (Kd.R_below (kr_ HO638.out) hb)
      replace HO641 := A_ (Kd.R_below (kr_ HO641.out) hb)
      replace HO647 := A_ (Kd.R_below (kr_ HO647.out) hb)
      replace HO650 := A_ (Kd.V_below (kv_ HO650.out) hb)
      replace HO656 := A_ (Kd.V_below (kv_ HO656.out) hb)
      replace BK619 := A_ (bb_ BK619.out hb)
      replace BK620 := A_ (bb_ BK620.out hb)
      replace BK628 := A_ (bb_ BK628.out hb)
      replace BK629 := A_ (bb_ BK629.out hb)
      replace BK642 := A_ (bb_ BK642.out hb)
      replace HB := A_ (below_step (by repeat (first | (with_reducible first | exact HB.out | apply below_alloc | apply pw_below_drewN | apply below_drew1 | refine below_set ?_ GE619.out | refine below_set ?_ GE620.out | refine below_set ?_ GE628.out | refine below_set ?_ GE629.out | refine below_set ?_ GE642.out) | exact HB.out)) hb);(try clear hb);(try clear hb2);(try clear hk);(try clear hi)
      refine hK.out _ _ ⟨bc_ BK619.out 0, bc_ BK619.out 1, bc_ BK620.out 0, bc_ BK620.out 1, bc_ BK628.out 0, bc_ BK629.out 0, bc_ BK642.out 0⟩ (fun hHeld => ?_)
      clear hK K
      refine norm_ (a' := ?_) ?_ ?_
      rotate_left
      ·show Act.put _ (some 41) _ = _
       simp only [Act.put, lI_, l0_, lS_, i64_w, i32_w]
       rfl
      refine one_ (i := 24) (N := some 44) #[true, true, true, true, true, true, true, true, true, true, true, true, true, true, true, true, true, true, true, true, true, true, true, true, true, true, true, false, false, false, false, false, false, false, false, false, false, false, false, false, false, false, false, false, false, false, false, false, false, false] rfl rfl (one_of HT_.out (by kernel_rfl)) (by decide) (fun K hK => ?_)
      refine goes_ Try.func33 (by kernel_rfl) rfl #[.int .u64 a0_1] (by rfl) rfl rfl mp_ ?_
      with_reducible refine (r1_Of.calls k a0_1 t660 _ A21.out).mono ?_
      rintro e w71 ⟨v661, rfl, ho0, hb⟩
      refine ⟨_, rfl, ?_⟩
      have HO662 := A_ (Kd.R_lower (Kd.R_new' (Kd.R_new' (Kd.R_new' (Kd.R_new' (Kd.R_new' (Kd.R_new' (Kd.R_new' ho0 (Kd.R_lt (kr_ HO624.out))) (Kd.R_lt (kr_ HO627.out))) (Kd.R_lt (kr_ HO632.out))) (Kd.R_lt (kr_ HO635.out))) (Kd.R_lt (kr_ HO638.out))) (Kd.R_lt (kr_ HO641.out))) (Kd.R_lt (kr_ HO647.out))) (below_size (by repeat (first | (with_reducible first | exact HB.out | apply below_alloc | apply pw_below_drewN | apply below_drew1 | refine below_set ?_ GE619.out | refine below_set ?_ GE620.out | refine below_set ?_ GE628.out | refine below_set ?_ GE629.out | refine below_set ?_ GE642.out) | exact HB.out))))
      replace HO624 := A_ (Kd.R_elder' (kr_ HO624.out) (Kd.R_base ho0) hb)
      replace HO627 := A_ (Kd.R_elder' (kr_ HO627.out) (Kd.R_base ho0) hb)
      replace HO632 := A_ (Kd.R_elder' (kr_ HO632.out) (Kd.R_base ho0) hb)
      replace HO635 := A_ (Kd.R_elder' (kr_ HO635.out) (Kd.R_base ho0) hb)
      replace HO638 := A_ (Kd.R_elder' (kr_ HO638.out) (Kd.R_base ho0) hb)
      replace HO641 := A_ (Kd.R_elder' (kr_ HO641.out) (Kd.R_base ho0) hb)
      replace HO647 := A_ (Kd.R_elder' (kr_ HO647.out) (Kd.R_base ho0) hb)
      replace HO650 := A_ (Kd.V_elder' (kv_ HO650.out) (Kd.R_base ho0) hb)
      replace HO656 := A_ (Kd.V_elder' (kv_ HO656.out) (Kd.R_base ho0) hb)
      replace BK619 := A_ (bb_ BK619.out hb)
      replace BK620 := A_ (bb_ BK620.out hb)
      replace BK628 := A_ (bb_ BK628.out hb)
      replace BK629 := A_ (bb_ BK629.out hb)
      replace BK642 := A_ (bb_ BK642.out hb)
      replace HB := A_ (below_step (by repeat (first | (with_reducible first | exact HB.out | apply below_alloc | apply pw_below_drewN | apply below_drew1 | refine below_set ?_ GE619.out | refine below_set ?_ GE620.out | refine below_set ?_ GE628.out | refine below_set ?_ GE629.out | refine below_set ?_ GE642.out) | exact HB.out)) hb);(try clear hb);(try clear hb2);(try clear hk);(try clear hi);(try clear ho0)
      refine hK.out _ _ ⟨bc_ BK619.out 0, bc_ BK619.out 1, bc_ BK620.out 0, bc_ BK620.out 1, bc_ BK628.out 0, bc_ BK629.out 0, bc_ BK642.out 0⟩ (fun hHeld => ?_)
      clear hK K
      refine norm_ (a' := ?_) ?_ ?_
      rotate_left
      ·show Act.put _ (some 44) _ = _
       simp only [Act.put, lI_, l0_, lS_, i64_w, i32_w]
       rfl
      refine one_ (i := 27) (N := some 47) #[true, true, true, true, true, true, true, true, true, true, true, true, true, true, true, true, true, true, true, true, true, true, true, true, true, true, true, true, false, false, false, false, false, false, false, false, false, false, false, false, false, false, false, false, false, false, false, false, false, false] rfl rfl (one_of HT_.out (by kernel_rfl)) (by decide) (fun K hK => ?_)
      refine goes_ Try.func33 (by kernel_rfl) rfl #[.int .u64 a1_1] (by rfl) rfl rfl mp_ ?_
      with_reducible refine (r1_Of.calls k a1_1 t663 _ A22.out).mono ?_
      rintro e w72 ⟨v664, rfl, ho0, hb⟩
      refine ⟨_, rfl, ?_⟩
      have HO665 := A_ (Kd.R_lower (Kd.R_new' (Kd.R_new' (Kd.R_new' (Kd.R_new' (Kd.R_new' (Kd.R_new' (Kd.R_new' (Kd.R_new' ho0 (Kd.R_lt (kr_ HO624.out))) (Kd.R_lt (kr_ HO627.out))) (Kd.R_lt (kr_ HO632.out))) (Kd.R_lt (kr_ HO635.out))) (Kd.R_lt (kr_ HO638.out))) (Kd.R_lt (kr_ HO641.out))) (Kd.R_lt (kr_ HO647.out))) (Kd.R_lt (kr_ HO662.out))) (below_size (by repeat (first | (with_reducible first | exact HB.out | apply below_alloc | apply pw_below_drewN | apply below_drew1 | refine below_set ?_ GE619.out | refine below_set ?_ GE620.out | refine below_set ?_ GE628.out | refine below_set ?_ GE629.out | refine below_set ?_ GE642.out) | exact HB.out))))
      replace HO624 := A_ (Kd.R_elder' (kr_ HO624.out) (Kd.R_base ho0) hb)
      replace HO627 := A_ (Kd.R_elder' (kr_ HO627.out) (Kd.R_base ho0) hb)
      replace HO632 := A_ (Kd.R_elder' (kr_ HO632.out) (Kd.R_base ho0) hb)
      replace HO635 := A_ (Kd.R_elder' (kr_ HO635.out) (Kd.R_base ho0) hb)
      replace HO638 := A_ (Kd.R_elder' (kr_ HO638.out) (Kd.R_base ho0) hb)
      replace HO641 := A_ (Kd.R_elder' (kr_ HO641.out) (Kd.R_base ho0) hb)
      replace HO647 := A_ (Kd.R_elder' (kr_ HO647.out) (Kd.R_base ho0) hb)
      replace HO650 := A_ (Kd.V_elder' (kv_ HO650.out) (Kd.R_base ho0) hb)
      replace HO656 := A_ (Kd.V_elder' (kv_ HO656.out) (Kd.R_base ho0) hb)
      replace HO662 := A_ (Kd.R_elder' (kr_ HO662.out) (Kd.R_base ho0) hb)
      replace BK619 := A_ (bb_ BK619.out hb)
      replace BK620 := A_ (bb_ BK620.out hb)
      replace BK628 := A_ (bb_ BK628.out hb)
      replace BK629 := A_ (bb_ BK629.out hb)
      replace BK642 := A_ (bb_ BK642.out hb)
      replace HB := A_ (below_step (by repeat (first | (with_reducible first | exact HB.out | apply below_alloc | apply pw_below_drewN | apply below_drew1 | refine below_set ?_ GE619.out | refine below_set ?_ GE620.out | refine below_set ?_ GE628.out | refine below_set ?_ GE629.out | refine below_set ?_ GE642.out) | exact HB.out)) hb);(try clear hb);(try clear hb2);(try clear hk);(try clear hi);(try clear ho0)
      obtain ⟨Ao73, co73, eo73⟩ := Kd.R_slice HO662.out
      (first | subst eo73 | (injection eo73 with f1_ f2_ f3_; have f4_ := f1_.symm; have f5_ := f3_.symm; clear f1_ f2_ f3_; subst f4_; subst f5_))
      obtain ⟨Ao74, co74, eo74⟩ := Kd.R_slice HO665.out
      (first | subst eo74 | (injection eo74 with f1_ f2_ f3_; have f4_ := f1_.symm; have f5_ := f3_.symm; clear f1_ f2_ f3_; subst f4_; subst f5_))
      refine hK.out _ _ ⟨bc_ BK619.out 0, bc_ BK619.out 1, bc_ BK620.out 0, bc_ BK620.out 1, bc_ BK628.out 0, bc_ BK629.out 0, bc_ BK642.out 0⟩ (fun hHeld => ?_)
      clear hK K
      refine norm_ (a' := ?_) ?_ ?_
      rotate_left
      ·show Act.put _ (some 47) _ = _
       simp only [Act.put, lI_, l0_, lS_, i64_w, i32_w]
       rfl
      refine one_ (i := 28) (N := some 48) #[true, true, true, true, true, true, true, true, true, true, true, true, true, true, true, true, true, true, true, true, true, true, true, true, true, true, true, true, true, false, false, false, false, false, false, false, false, false, false, false, false, false, false, false, false, false, false, false, false, false] rfl rfl (one_of HT_.out (by kernel_rfl)) (by decide) (fun K hK => ?_)
      refine goes_ Try.func39 (by kernel_rfl) rfl #[.agg #[.slice Ao73 t660.length co73], .agg #[.slice Ao74 t663.length co74]] (by rfl) rfl rfl mp_ ?_
      with_reducible refine (r1_Mul.calls k _ _ t660 _ _ t663 t666 _ ?side1 ?side2 ?side3 ?side4 A23.out).mono ?_
      (case side1 => exact cs_ ((Kd.R_reads' HO662.out).2.2))
      (case side2 => exact (Kd.R_reads' HO662.out).2.1)
      (case side3 => exact cs_ ((Kd.R_reads' HO665.out).2.2))
      (case side4 => exact (Kd.R_reads' HO665.out).2.1)
      rintro e w75 ⟨v667, rfl, ho0, hb⟩
      refine ⟨_, rfl, ?_⟩
      have HO668 := A_ (Kd.R_lower (Kd.R_new' (Kd.R_new' (Kd.R_new' (Kd.R_new' (Kd.R_new' (Kd.R_new' (Kd.R_new' (Kd.R_new' (Kd.R_new' ho0 (Kd.R_lt (kr_ HO624.out))) (Kd.R_lt (kr_ HO627.out))) (Kd.R_lt (kr_ HO632.out))) (Kd.R_lt (kr_ HO635.out))) (Kd.R_lt (kr_ HO638.out))) (Kd.R_lt (kr_ HO641.out))) (Kd.R_lt (kr_ HO647.out))) (Kd.R_lt (kr_ HO662.out))) (Kd.R_lt (kr_ HO665.out))) (below_size (by repeat (first | (with_reducible first | exact HB.out | apply below_alloc | apply pw_below_drewN | apply below_drew1 | refine below_set ?_ GE619.out | refine below_set ?_ GE620.out | refine below_set ?_ GE628.out | refine below_set ?_ GE629.out | refine below_set ?_ GE642.out) | exact HB.out))))
      replace HO624 := A_ (Kd.R_elder' (kr_ HO624.out) (Kd.R_base ho0) hb)
      replace HO627 := A_ (Kd.R_elder' (kr_ HO627.out) (Kd.R_base ho0) hb)
      replace HO632 := A_ (Kd.R_elder' (kr_ HO632.out) (Kd.R_base ho0) hb)
      replace HO635 := A_ (Kd.R_elder' (kr_ HO635.out) (Kd.R_base ho0) hb)
      replace HO638 := A_ (Kd.R_elder' (kr_ HO638.out) (Kd.R_base ho0) hb)
      replace HO641 := A_ (Kd.R_elder' (kr_ HO641.out) (Kd.R_base ho0) hb)
      replace HO647 := A_ (Kd.R_elder' (kr_ HO647.out) (Kd.R_base ho0) hb)
      replace HO650 := A_ (Kd.V_elder' (kv_ HO650.out) (Kd.R_base ho0) hb)
      replace HO656 := A_ (Kd.V_elder' (kv_ HO656.out) (Kd.R_base ho0) hb)
      replace HO662 := A_ (Kd.R_elder' (kr_ HO662.out) (Kd.R_base ho0) hb)
      replace HO665 := A_ (Kd.R_elder' (kr_ HO665.out) (Kd.R_base ho0) hb)
      replace BK619 := A_ (bb_ BK619.out hb)
      replace BK620 := A_ (bb_ BK620.out hb)
      replace BK628 := A_ (bb_ BK628.out hb)
      replace BK629 := A_ (bb_ BK629.out hb)
      replace BK642 := A_ (bb_ BK642.out hb)
      replace HB := A_ (below_step (by repeat (first | (with_reducible first | exact HB.out | apply below_alloc | apply pw_below_drewN | apply below_drew1 | refine below_set ?_ GE619.out | refine below_set ?_ GE620.out | refine below_set ?_ GE628.out | refine below_set ?_ GE629.out | refine below_set ?_ GE642.out) | exact HB.out)) hb);(try clear hb);(try clear hb2);(try clear hk);(try clear hi);(try clear ho0)
      obtain ⟨Ao76, co76, eo76⟩ := Kd.R_slice HO668.out
      (first | subst eo76 | (injection eo76 with f1_ f2_ f3_; have f4_ := f1_.symm; have f5_ := f3_.symm; clear f1_ f2_ f3_; subst f4_; subst f5_))
      refine hK.out _ _ ⟨bc_ BK619.out 0, bc_ BK619.out 1, bc_ BK620.out 0, bc_ BK620.out 1, bc_ BK628.out 0, bc_ BK629.out 0, bc_ BK642.out 0⟩ (fun hHeld => ?_)
      clear hK K
      refine norm_ (a' := ?_) ?_ ?_
      rotate_left
      ·show Act.put _ (some 48) _ = _
       simp only [Act.put, lI_, l0_, lS_, i64_w, i32_w]
       rfl
      refine one_ (i := 29) (N := some 49) #[true, true, true, true, true, true, true, true, true, true, true, true, true, true, true, true, true, true, true, true, true, true, true, true, true, true, true, true, true, true, false, false, false, false, false, false, false, false, false, false, false, false, false, false, false, false, false, false, false, false] rfl rfl (one_of HT_.out (by kernel_rfl)) (by decide) (fun K hK => ?_)
      refine goes_ Try.func34 (by kernel_rfl) rfl #[.agg #[.int .u64 t658, .int .u64 t659], .agg #[.slice Ao76 t666.length co76]] (by rfl) rfl rfl mp_ ?_
      with_reducible refine (L01_is.calls k t658 t659 _ _ t666 true _ ?side1 ?side2 A24.out).mono ?_
      (case side1 => exact cs_ ((Kd.R_reads' HO668.out).2.2))
      (case side2 => exact (Kd.R_reads' HO668.out).2.1)
      rintro e w77 ⟨rfl, hb⟩
      refine ⟨_, rfl, ?_⟩
      replace HO624 := A_ (Kd.R_below (kr_ HO624.out) hb)
      replace HO627 := A_ (Kd.R_below (kr_ HO627.out) hb)
      replace HO632 := A_ (Kd.R_below (kr_ HO632.out) hb)
      replace HO635 := A_ (Kd.R_below (kr_ HO635.out) hb)
      replace HO638 := A_ (Kd.R_below (kr_ HO638.out) hb)
      replace HO641 := A_ (Kd.R_below (kr_ HO641.out) hb)
      replace HO647 := A_ (Kd.R_below (kr_ HO647.out) hb)
      replace HO650 := A_ (Kd.V_below (kv_ HO650.out) hb)
      replace HO656 := A_ (Kd.V_below (kv_ HO656.out) hb)
      replace HO662 := A_ (Kd.R_below (kr_ HO662.out) hb)
      replace HO665 := A_ (Kd.R_below (kr_ HO665.out) hb)
      replace HO668 := A_ (Kd.R_below (kr_ HO668.out) hb)
      replace BK619 := A_ (bb_ BK619.out hb)
      replace BK620 := A_ (bb_ BK620.out hb)
      replace BK628 := A_ (bb_ BK628.out hb)
      replace BK629 := A_ (bb_ BK629.out hb)
      replace BK642 := A_ (bb_ BK642.out hb)
      replace HB := A_ (below_step (by repeat (first | (with_reducible first | exact HB.out | apply below_alloc | apply pw_below_drewN | apply below_drew1 | refine below_set ?_ GE619.out | refine below_set ?_ GE620.out | refine below_set ?_ GE628.out | refine below_set ?_ GE629.out | refine below_set ?_ GE642.out) | exact HB.out)) hb);(try clear hb);(try clear hb2);(try clear hk);(try clear hi)
      refine hK.out _ _ ⟨bc_ BK619.out 0, bc_ BK619.out 1, bc_ BK620.out 0, bc_ BK620.out 1, bc_ BK628.out 0, bc_ BK629.out 0, bc_ BK642.out 0⟩ (fun hHeld => ?_)
      clear hK K
      refine norm_ (a' := ?_) ?_ ?_
      rotate_left
      ·show Act.put _ (some 49) _ = _
       simp only [Act.put, lI_, l0_, lS_, i64_w, i32_w]
       rfl
      refine pu_ 30 (some 50) #[true, true, true, true, true, true, true, true, true, true, true, true, true, true, true, true, true, true, true, true, true, true, true, true, true, true, true, true, true, true, true, false, false, false, false, false, false, false, false, false, false, false, false, false, false, false, false, false, false, false] rfl rfl (any_of HT_.out (by kernel_rfl)) ?_
      refine pu_ 31 (some 51) #[true, true, true, true, true, true, true, true, true, true, true, true, true, true, true, true, true, true, true, true, true, true, true, true, true, true, true, true, true, true, true, true, false, false, false, false, false, false, false, false, false, false, false, false, false, false, false, false, false, false] rfl rfl (any_of HT_.out (by kernel_rfl)) ?_
      refine tk7_ 32 (some 52) #[true, true, true, true, true, true, true, true, true, true, true, true, true, true, true, true, true, true, true, true, true, true, true, true, true, true, true, true, true, true, true, true, true, false, false, false, false, false, false, false, false, false, false, false, false, false, false, false, false, false] rfl rfl (take_ofW HT_.out HW_.out (by kernel_rfl)) hHeld ?_
      refine tk7_ 33 (some 53) #[true, true, true, true, true, true, true, true, true, true, true, true, true, true, true, true, true, true, true, true, true, true, true, true, true, true, true, true, true, true, true, true, true, true, false, false, false, false, false, false, false, false, false, false, false, false, false, false, false, false] rfl rfl (take_ofW HT_.out HW_.out (by kernel_rfl)) hHeld ?_
      refine tk7_ 35 (some 55) #[true, true, true, true, true, true, true, true, true, true, true, true, true, true, true, true, true, true, true, true, true, true, true, true, true, true, true, true, true, true, true, true, true, true, false, true, false, false, false, false, false, false, false, false, false, false, false, false, false, false] rfl rfl (take_ofW HT_.out HW_.out (by kernel_rfl)) hHeld ?_
      refine tk7_ 36 (some 56) #[true, true, true, true, true, true, true, true, true, true, true, true, true, true, true, true, true, true, true, true, true, true, true, true, true, true, true, true, true, true, true, true, true, true, false, true, true, false, false, false, false, false, false, false, false, false, false, false, false, false] rfl rfl (take_ofW HT_.out HW_.out (by kernel_rfl)) hHeld ?_
      refine one_ (i := 34) (N := some 54) #[true, true, true, true, true, true, true, true, true, true, true, true, true, true, true, true, true, true, true, true, true, true, true, true, true, true, true, true, true, true, true, true, true, true, true, true, true, false, false, false, false, false, false, false, false, false, false, false, false, false] rfl rfl (one_of HT_.out (by kernel_rfl)) (by decide) (fun K hK => ?_)
      refine goes_ Try.func40 (by kernel_rfl) rfl #[.agg #[.int .u64 a0_0, .int .u64 a0_1], .agg #[.int .u64 a1_0, .int .u64 a1_1]] (by rfl) rfl rfl mp_ ?_
      with_reducible refine (wide_Cmp.calls a0_0 a0_1 a1_0 a1_1 t670 _ A26.out).mono ?_
      rintro e w78 ⟨rfl, hb⟩
      refine ⟨_, rfl, ?_⟩
      replace HO624 := A_ (Kd.R_below (kr_ HO624.out) hb)
      replace HO627 := A_ (Kd.R_below (kr_ HO627.out) hb)
      replace HO632 := A_ (Kd.R_below (kr_ HO632.out) hb)
      replace HO635 := A_ (Kd.R_below (kr_ HO635.out) hb)
      replace HO638 := A_ (Kd.R_below (kr_ HO638.out) hb)
      replace HO641 := A_ (Kd.R_below (kr_ HO641.out) hb)
      replace HO647 := A_ (Kd.R_below (kr_ HO647.out) hb)
      replace HO650 := A_ (Kd.V_below (kv_ HO650.out) hb)
      replace HO656 := A_ (Kd.V_below (kv_ HO656.out) hb)
      replace HO662 := A_ (Kd.R_below (kr_ HO662.out) hb)
      replace HO665 := A_ (Kd.R_below (kr_ HO665.out) hb)
      replace HO668 := A_ (Kd.R_below (kr_ HO668.out) hb)
      replace BK619 := A_ (bb_ BK619.out hb)
      replace BK620 := A_ (bb_ BK620.out hb)
      replace BK628 := A_ (bb_ BK628.out hb)
      replace BK629 := A_ (bb_ BK629.out hb)
      replace BK642 := A_ (bb_ BK642.out hb)
      replace HB := A_ (below_step (by repeat (first | (with_reducible first | exact HB.out | apply below_alloc | apply pw_below_drewN | apply below_drew1 | refine below_set ?_ GE619.out | refine below_set ?_ GE620.out | refine below_set ?_ GE628.out | refine below_set ?_ GE629.out | refine below_set ?_ GE642.out) | exact HB.out)) hb);(try clear hb);(try clear hb2);(try clear hk);(try clear hi)
      refine hK.out _ _ ⟨bc_ BK619.out 0, bc_ BK619.out 1, bc_ BK620.out 0, bc_ BK620.out 1, bc_ BK628.out 0, bc_ BK629.out 0, bc_ BK642.out 0⟩ (fun hHeld => ?_)
      clear hK K
      refine norm_ (a' := ?_) ?_ ?_
      rotate_left
      ·show Act.put _ (some 54) _ = _
       simp only [Act.put, lI_, l0_, lS_, i64_w, i32_w]
       rfl
      refine one_ (i := 37) (N := some 57) #[true, true, true, true, true, true, true, true, true, true, true, true, true, true, true, true, true, true, true, true, true, true, true, true, true, true, true, true, true, true, true, true, true, true, true, true, true, true, false, false, false, false, false, false, false, false, false, false, false, false] rfl rfl (one_of HT_.out (by kernel_rfl)) (by decide) (fun K hK => ?_)
      refine goes_ Try.func41 (by kernel_rfl) rfl #[.agg #[.slice Ao41 t622.length co41], .agg #[.slice Ao43 t625.length co43]] (by rfl) rfl rfl mp_ ?_
      with_reducible refine (r1_Cmp.calls k _ _ t622 _ _ t625 t671 _ ?side1 ?side2 ?side3 ?side4 A27.out).mono ?_
      (case side1 => exact cs_ ((Kd.R_reads' HO624.out).2.2))
      (case side2 => exact (Kd.R_reads' HO624.out).2.1)
      (case side3 => exact cs_ ((Kd.R_reads' HO627.out).2.2))
      (case side4 => exact (Kd.R_reads' HO627.out).2.1)
      rintro e w79 ⟨rfl, hb⟩
      refine ⟨_, rfl, ?_⟩
      replace HO624 := A_ (Kd.R_below (kr_ HO624.out) hb)
      replace HO627 := A_ (Kd.R_below (kr_ HO627.out) hb)
      replace HO632 := A_ (Kd.R_below (kr_ HO632.out) hb)
      replace HO635 := A_ (Kd.R_below (kr_ HO635.out) hb)
      replace HO638 := A_ (Kd.R_below (kr_ HO638.out) hb)
      replace HO641 := A_ (Kd.R_below (kr_ HO641.out) hb)
      replace HO647 := A_ (Kd.R_below (kr_ HO647.out) hb)
      replace HO650 := A_ (Kd.V_below (kv_ HO650.out) hb)
      replace HO656 := A_ (Kd.V_below (kv_ HO656.out) hb)
      replace HO662 := A_ (Kd.R_below (kr_ HO662.out) hb)
      replace HO665 := A_ (Kd.R_below (kr_ HO665.out) hb)
      replace HO668 := A_ (Kd.R_below (kr_ HO668.out) hb)
      replace BK619 := A_ (bb_ BK619.out hb)
      replace BK620 := A_ (bb_ BK620.out hb)
      replace BK628 := A_ (bb_ BK628.out hb)
      replace BK629 := A_ (bb_ BK629.out hb)
      replace BK642 := A_ (bb_ BK642.out hb)
      replace HB := A_ (below_step (by repeat (first | (with_reducible first | exact HB.out | apply below_alloc | apply pw_below_drewN | apply below_drew1 | refine below_set ?_ GE619.out | refine below_set ?_ GE620.out | refine below_set ?_ GE628.out | refine below_set ?_ GE629.out | refine below_set ?_ GE642.out) | exact HB.out)) hb);(try clear hb);(try clear hb2);(try clear hk);(try clear hi)
      refine hK.out _ _ ⟨bc_ BK619.out 0, bc_ BK619.out 1, bc_ BK620.out 0, bc_ BK620.out 1, bc_ BK628.out 0, bc_ BK629.out 0, bc_ BK642.out 0⟩ (fun hHeld => ?_)
      clear hK K
      refine norm_ (a' := ?_) ?_ ?_
      rotate_left
      ·show Act.put _ (some 57) _ = _
       simp only [Act.put, lI_, l0_, lS_, i64_w, i32_w]
       rfl
      refine pu_ 38 (some 58) #[true, true, true, true, true, true, true, true, true, true, true, true, true, true, true, true, true, true, true, true, true, true, true, true, true, true, true, true, true, true, true, true, true, true, true, true, true, true, true, false, false, false, false, false, false, false, false, false, false, false] rfl rfl (any_of HT_.out (by kernel_rfl)) ?_
      refine pu_ 39 (some 59) #[true, true, true, true, true, true, true, true, true, true, true, true, true, true, true, true, true, true, true, true, true, true, true, true, true, true, true, true, true, true, true, true, true, true, true, true, true, true, true, true, false, false, false, false, false, false, false, false, false, false] rfl rfl (any_of HT_.out (by kernel_rfl)) ?_
      refine pu_ 40 (some 60) #[true, true, true, true, true, true, true, true, true, true, true, true, true, true, true, true, true, true, true, true, true, true, true, true, true, true, true, true, true, true, true, true, true, true, true, true, true, true, true, true, true, false, false, false, false, false, false, false, false, false] rfl rfl (any_of HT_.out (by kernel_rfl)) ?_
      refine pu_ 41 (some 61) #[true, true, true, true, true, true, true, true, true, true, true, true, true, true, true, true, true, true, true, true, true, true, true, true, true, true, true, true, true, true, true, true, true, true, true, true, true, true, true, true, true, true, false, false, false, false, false, false, false, false] rfl rfl (any_of HT_.out (by kernel_rfl)) ?_
      refine pu_ 44 (some 64) #[true, true, true, true, true, true, true, true, true, true, true, true, true, true, true, true, true, true, true, true, true, true, true, true, true, true, true, true, true, true, true, true, true, true, true, true, true, true, true, true, true, true, false, false, true, false, false, false, false, false] rfl rfl (any_of HT_.out (by kernel_rfl)) ?_
      refine tk7_ 42 (some 62) #[true, true, true, true, true, true, true, true, true, true, true, true, true, true, true, true, true, true, true, true, true, true, true, true, true, true, true, true, true, true, true, true, true, true, true, true, true, true, true, true, true, true, true, false, true, false, false, false, false, false] rfl rfl (take_ofW HT_.out HW_.out (by kernel_rfl)) hHeld ?_
      refine tk7_ 45 (some 65) #[true, true, true, true, true, true, true, true, true, true, true, true, true, true, true, true, true, true, true, true, true, true, true, true, true, true, true, true, true, true, true, true, true, true, true, true, true, true, true, true, true, true, true, false, true, true, false, false, false, false] rfl rfl (take_ofW HT_.out HW_.out (by kernel_rfl)) hHeld ?_
      refine one_ (i := 43) (N := some 63) #[true, true, true, true, true, true, true, true, true, true, true, true, true, true, true, true, true, true, true, true, true, true, true, true, true, true, true, true, true, true, true, true, true, true, true, true, true, true, true, true, true, true, true, true, true, true, false, false, false, false] rfl rfl (one_of HT_.out (by kernel_rfl)) (by decide) (fun K hK => ?_)
      refine goes_ Try.func42 (by kernel_rfl) rfl #[.int .u64 a0_0] (by rfl) rfl rfl mp_ ?_
      with_reducible refine (wide_Of.calls a0_0 t672 t673 _ A29.out).mono ?_
      rintro e w80 ⟨rfl, hb⟩
      refine ⟨_, rfl, ?_⟩
      replace HO624 := A_ (Kd.R_below (kr_ HO624.out) hb)
      replace HO627 := A_ (Kd.R_below (kr_ HO627.out) hb)
      replace HO632 := A_ (Kd.R_below (kr_ HO632.out) hb)
      replace HO635 := A_ (Kd.R_below (kr_ HO635.out) hb)
      replace HO638 := A_ (Kd.R_below (kr_ HO638.out) hb)
      replace HO641 := A_ (Kd.R_below (kr_ HO641.out) hb)
      replace HO647 := A_ (Kd.R_below (kr_ HO647.out) hb)
      replace HO650 := A_ (Kd.V_below (kv_ HO650.out) hb)
      replace HO656 := A_ (Kd.V_below (kv_ HO656.out) hb)
      replace HO662 := A_ (Kd.R_below (kr_ HO662.out) hb)
      replace HO665 := A_ (Kd.R_below (kr_ HO665.out) hb)
      replace HO668 := A_ (Kd.R_below (kr_ HO668.out) hb)
      replace BK619 := A_ (bb_ BK619.out hb)
      replace BK620 := A_ (bb_ BK620.out hb)
      replace BK628 := A_ (bb_ BK628.out hb)
      replace BK629 := A_ (bb_ BK629.out hb)
      replace BK642 := A_ (bb_ BK642.out hb)
      replace HB := A_ (below_step (by repeat (first | (with_reducible first | exact HB.out | apply below_alloc | apply pw_below_drewN | apply below_drew1 | refine below_set ?_ GE619.out | refine below_set ?_ GE620.out | refine below_set ?_ GE628.out | refine below_set ?_ GE629.out | refine below_set ?_ GE642.out) | exact HB.out)) hb);(try clear hb);(try clear hb2);(try clear hk);(try clear hi)
      refine hK.out _ _ ⟨bc_ BK619.out 0, bc_ BK619.out 1, bc_ BK620.out 0, bc_ BK620.out 1, bc_ BK628.out 0, bc_ BK629.out 0, bc_ BK642.out 0⟩ (fun hHeld => ?_)
      clear hK K
      refine norm_ (a' := ?_) ?_ ?_
      rotate_left
      ·show Act.put _ (some 63) _ = _
       simp only [Act.put, lI_, l0_, lS_, i64_w, i32_w]
       rfl
      refine one_ (i := 46) (N := some 66) #[true, true, true, true, true, true, true, true, true, true, true, true, true, true, true, true, true, true, true, true, true, true, true, true, true, true, true, true, true, true, true, true, true, true, true, true, true, true, true, true, true, true, true, true, true, true, true, false, false, false] rfl rfl (one_of HT_.out (by kernel_rfl)) (by decide) (fun K hK => ?_)
      refine goes_ Try.func33 (by kernel_rfl) rfl #[.int .u64 a0_0] (by rfl) rfl rfl mp_ ?_
      with_reducible refine (r1_Of.calls k a0_0 t674 _ A30.out).mono ?_
      rintro e w81 ⟨v675, rfl, ho0, hb⟩
      refine ⟨_, rfl, ?_⟩
      have HO676 := A_ (Kd.R_lower (Kd.R_new' (Kd.R_new' (Kd.R_new' (Kd.R_new' (Kd.R_new' (Kd.R_new' (Kd.R_new' (Kd.R_new' (Kd.R_new' (Kd.R_new' ho0 (Kd.R_lt (kr_ HO624.out))) (Kd.R_lt (kr_ HO627.out))) (Kd.R_lt (kr_ HO632.out))) (Kd.R_lt (kr_ HO635.out))) (Kd.R_lt (kr_ HO638.out))) (Kd.R_lt (kr_ HO641.out))) (Kd.R_lt (kr_ HO647.out))) (Kd.R_lt (kr_ HO662.out))) (Kd.R_lt (kr_ HO665.out))) (Kd.R_lt (kr_ HO668.out))) (below_size (by repeat (first | (with_reducible first | exact HB.out | apply below_alloc | apply pw_below_drewN | apply below_drew1 | refine below_set ?_ GE619.out | refine below_set ?_ GE620.out | refine below_set ?_ GE628.out | refine below_set ?_ GE629.out | refine below_set ?_ GE642.out) | exact HB.out))))
      replace HO624 := A_ (Kd.R_elder' (kr_ HO624.out) (Kd.R_base ho0) hb)
      replace HO627 := A_ (Kd.R_elder' (kr_ HO627.out) (Kd.R_base ho0) hb)
      replace HO632 := A_ (Kd.R_elder' (kr_ HO632.out) (Kd.R_base ho0) hb)
      replace HO635 := A_ (Kd.R_elder' (kr_ HO635.out) (Kd.R_base ho0) hb)
      replace HO638 := A_ (Kd.R_elder' (kr_ HO638.out) (Kd.R_base ho0) hb)
      replace HO641 := A_ (Kd.R_elder' (kr_ HO641.out) (Kd.R_base ho0) hb)
      replace HO647 := A_ (Kd.R_elder' (kr_ HO647.out) (Kd.R_base ho0) hb)
      replace HO650 := A_ (Kd.V_elder' (kv_ HO650.out) (Kd.R_base ho0) hb)
      replace HO656 := A_ (Kd.V_elder' (kv_ HO656.out) (Kd.R_base ho0) hb)
      replace HO662 := A_ (Kd.R_elder' (kr_ HO662.out) (Kd.R_base ho0) hb)
      replace HO665 := A_ (Kd.R_elder' (kr_ HO665.out) (Kd.R_base ho0) hb)
      replace HO668 := A_ (Kd.R_elder' (kr_ HO668.out) (Kd.R_base ho0) hb)
      replace BK619 := A_ (bb_ BK619.out hb)
      replace BK620 := A_ (bb_ BK620.out hb)
      replace BK628 := A_ (bb_ BK628.out hb)
      replace BK629 := A_ (bb_ BK629.out hb)
      replace BK642 := A_ (bb_ BK642.out hb)
      replace HB := A_ (below_step (by repeat (first | (with_reducible first | exact HB.out | apply below_alloc | apply pw_below_drewN | apply below_drew1 | refine below_set ?_ GE619.out | refine below_set ?_ GE620.out | refine below_set ?_ GE628.out | refine below_set ?_ GE629.out | refine below_set ?_ GE642.out) | exact HB.out)) hb);(try clear hb);(try clear hb2);(try clear hk);(try clear hi);(try clear ho0)
      obtain ⟨Ao82, co82, eo82⟩ := Kd.R_slice HO676.out
      (first | subst eo82 | (injection eo82 with f1_ f2_ f3_; have f4_ := f1_.symm; have f5_ := f3_.symm; clear f1_ f2_ f3_; subst f4_; subst f5_))
      refine hK.out _ _ ⟨bc_ BK619.out 0, bc_ BK619.out 1, bc_ BK620.out 0, bc_ BK620.out 1, bc_ BK628.out 0, bc_ BK629.out 0, bc_ BK642.out 0⟩ (fun hHeld => ?_)
      clear hK K
      refine norm_ (a' := ?_) ?_ ?_
      rotate_left
      ·show Act.put _ (some 66) _ = _
       simp only [Act.put, lI_, l0_, lS_, i64_w, i32_w]
       rfl
      refine one_ (i := 47) (N := some 67) #[true, true, true, true, true, true, true, true, true, true, true, true, true, true, true, true, true, true, true, true, true, true, true, true, true, true, true, true, true, true, true, true, true, true, true, true, true, true, true, true, true, true, true, true, true, true, true, true, false, false] rfl rfl (one_of HT_.out (by kernel_rfl)) (by decide) (fun K hK => ?_)
      refine goes_ Try.func34 (by kernel_rfl) rfl #[.agg #[.int .u64 t672, .int .u64 t673], .agg #[.slice Ao82 t674.length co82]] (by rfl) rfl rfl mp_ ?_
      with_reducible refine (L01_is.calls k t672 t673 _ _ t674 t677 _ ?side1 ?side2 A31.out).mono ?_
      (case side1 => exact cs_ ((Kd.R_reads' HO676.out).2.2))
      (case side2 => exact (Kd.R_reads' HO676.out).2.1)
      rintro e w83 ⟨rfl, hb⟩
      refine ⟨_, rfl, ?_⟩
      replace HO624 := A_ (Kd.R_below (kr_ HO624.out) hb)
      replace HO627 := A_ (Kd.R_below (kr_ HO627.out) hb)
      replace HO632 := A_ (Kd.R_below (kr_ HO632.out) hb)
      replace HO635 := A_ (Kd.R_below (kr_ HO635.out) hb)
      replace HO638 := A_ (Kd.R_below (kr_ HO638.out) hb)
      replace HO641 := A_ (Kd.R_below (kr_ HO641.out) hb)
      replace HO647 := A_ (Kd.R_below (kr_ HO647.out) hb)
      replace HO650 := A_ (Kd.V_below (kv_ HO650.out) hb)
      replace HO656 := A_ (Kd.V_below (kv_ HO656.out) hb)
      replace HO662 := A_ (Kd.R_below (kr_ HO662.out) hb)
      replace HO665 := A_ (Kd.R_below (kr_ HO665.out) hb)
      replace HO668 := A_ (Kd.R_below (kr_ HO668.out) hb)
      replace HO676 := A_ (Kd.R_below (kr_ HO676.out) hb)
      replace BK619 := A_ (bb_ BK619.out hb)
      replace BK620 := A_ (bb_ BK620.out hb)
      replace BK628 := A_ (bb_ BK628.out hb)
      replace BK629 := A_ (bb_ BK629.out hb)
      replace BK642 := A_ (bb_ BK642.out hb)
      replace HB := A_ (below_step (by repeat (first | (with_reducible first | exact HB.out | apply below_alloc | apply pw_below_drewN | apply below_drew1 | refine below_set ?_ GE619.out | refine below_set ?_ GE620.out | refine below_set ?_ GE628.out | refine below_set ?_ GE629.out | refine below_set ?_ GE642.out) | exact HB.out)) hb);(try clear hb);(try clear hb2);(try clear hk);(try clear hi)
      refine hK.out _ _ ⟨bc_ BK619.out 0, bc_ BK619.out 1, bc_ BK620.out 0, bc_ BK620.out 1, bc_ BK628.out 0, bc_ BK629.out 0, bc_ BK642.out 0⟩ (fun hHeld => ?_)
      clear hK K
      refine norm_ (a' := ?_) ?_ ?_
      rotate_left
      ·show Act.put _ (some 67) _ = _
       simp only [Act.put, lI_, l0_, lS_, i64_w, i32_w]
       rfl
      refine pu_ 48 (some 68) #[true, true, true, true, true, true, true, true, true, true, true, true, true, true, true, true, true, true, true, true, true, true, true, true, true, true, true, true, true, true, true, true, true, true, true, true, true, true, true, true, true, true, true, true, true, true, true, true, true, false] rfl rfl (any_of HT_.out (by kernel_rfl)) ?_
      refine pu_ 49 (some 4) #[true, true, true, true, true, true, true, true, true, true, true, true, true, true, true, true, true, true, true, true, true, true, true, true, true, true, true, true, true, true, true, true, true, true, true, true, true, true, true, true, true, true, true, true, true, true, true, true, true, true] rfl rfl (any_of HT_.out (by kernel_rfl)) ?_
      refine done_ (done_of HT_.out (by kernel_rfl)) ?_
      try go_wp2
      go_ret
      exact ⟨er_, by repeat (first | (with_reducible first | exact HB.out | apply below_alloc | apply pw_below_drewN | apply below_drew1 | refine below_set ?_ GE619.out | refine below_set ?_ GE620.out | refine below_set ?_ GE628.out | refine below_set ?_ GE629.out | refine below_set ?_ GE642.out) | exact HB.out)⟩
     ·rw [if_neg c28] at H
      have c28b0 : (t670 == t671) = false := beq_eq_false_iff_ne.mpr c28
      have c28b1 : (t670 != t671) = true := bne_iff_ne.mpr c28
      exact absurd ((Option.some.inj H).trans hr_.out) (by decide)
    ·replace c25 := Bool.eq_false_iff.mpr c25
     subst c25
     have H1 : (some false) = some r := by rw [if_neg (show ¬ (false = true) by decide)] at H; exact H
     clear H;have H := H1;clear H1
     exact absurd ((Option.some.inj H).trans hr_.out) (by decide)
   ·replace c19 := Bool.eq_false_iff.mpr c19
    subst c19
    have H1 : (some false) = some r := by rw [if_neg (show ¬ (false = true) by decide)] at H; exact H
    clear H;have H := H1;clear H1
    exact absurd ((Option.some.inj H).trans hr_.out) (by decide)
  ·replace c15 := Bool.eq_false_iff.mpr c15
   subst c15
   have H1 : (some false) = some r := by rw [if_neg (show ¬ (false = true) by decide)] at H; exact H
   clear H;have H := H1;clear H1
   exact absurd ((Option.some.inj H).trans hr_.out) (by decide)
 ·replace c4 := Bool.eq_false_iff.mpr c4
  subst c4
  have H1 : (some false) = some r := by rw [if_neg (show ¬ (false = true) by decide)] at H; exact H
  clear H;have H := H1;clear H1
  exact absurd ((Option.some.inj H).trans hr_.out) (by decide)
def L01_WideSums.Pure : Prop := ∀ (a0_0 : Int) (a0_1 : Int) (a1_0 : Int) (a1_1 : Int), (Lit.int .u64 a0_0).wf = true → (Lit.int .u64 a0_1).wf = true → (Lit.int .u64 a1_0).wf = true → (Lit.int .u64 a1_1).wf = true → ∃ k, L01_WideSums.f k a0_0 a0_1 a1_0 a1_1 = some true
theorem L01_WideSums.walk (P : L01_WideSums.Pure) (a0_0 : Int) (a0_1 : Int) (a1_0 : Int) (a1_1 : Int) (w : World) (w0_0 : (Lit.int .u64 a0_0).wf = true) (w0_1 : (Lit.int .u64 a0_1).wf = true) (w1_0 : (Lit.int .u64 a1_0).wf = true) (w1_1 : (Lit.int .u64 a1_1).wf = true) :
  Calls Try.prog 7 #[.agg #[.int .u64 a0_0, .int .u64 a0_1], .agg #[.int .u64 a1_0, .int .u64 a1_1]] w fun e w' => e = .returned (.bool true) ∧ Below w.heap.size w w' := by
 obtain ⟨k, h⟩ := P a0_0 a0_1 a1_0 a1_1 w0_0 w0_1 w1_0 w1_1
 refine (L01_WideSums.calls k a0_0 a0_1 a1_0 a1_1 true w h ⟨rfl⟩).mono ?_
 rintro e w' ⟨rfl, hd⟩
 exact ⟨rfl, hd⟩
end Go.Proofs.Ytjjehbedpgdhgaa.PA
