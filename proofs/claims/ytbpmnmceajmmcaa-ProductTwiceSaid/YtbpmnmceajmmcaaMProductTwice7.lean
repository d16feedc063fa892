/- What the Go functions that the statement ProductTwice reaches compute, and the mathematics on it, in the order in which one leans on the other; for every input. -/
import Derived.Test.YtbpmnmceajmmcaaVProductTwice0
import Derived.Test.YtbpmnmceajmmcaaMProductTwice0
import Derived.Test.YtbpmnmceajmmcaaMProductTwice6
import Derived.Test.YtbpmnmceajmmcaaMProductTwice1
import Derived.Test.YtbpmnmceajmmcaaMProductTwice5
namespace Go.Proofs.Ytbpmnmceajmmcaa.PA
open Go.RowKit Go.Proofs.YtbpmnmceajmmcaaW.PrintWords Go.Proofs.YtbpmnmceajmmcaaW.PrintLast Go.Proofs.YtbpmnmceajmmcaaW.PrintMore
attribute [local go_sem] max2_int min2_int max_two min_two max_three min_three max_four min_four   -- for this text's walks alone
set_option linter.unusedVariables false
set_option linter.unusedSimpArgs false
set_option maxHeartbeats 8000000
set_option maxRecDepth 100000
mutual
def product_parts.j0 : Nat → Int → Bool → Bool → Bool → Int → Int → Int → Bool → Int → Int → Int → Option (Int)
 | 0, _, _, _, _, _, _, _, _, _, _, _ => none
 | k + 1, x0, x7, x8, x204000, x204001, x204002, x204003, x205000, x205001, x205002, x205003 => if x204001 = 2 then (product_parts.j1 k x0 x7 x8 true x204000 x204001 x204002 x204003 x205000 x205001 x205002 x205003) else (product_parts.j1 k x0 x7 x8 (x205001 == 2) x204000 x204001 x204002 x204003 x205000 x205001 x205002 x205003)
def product_parts.j1 : Nat → Int → Bool → Bool → Bool → Bool → Int → Int → Int → Bool → Int → Int → Int → Option (Int)
 | 0, _, _, _, _, _, _, _, _, _, _, _, _ => none
 | k + 1, x0, x7, x8, x9, x204000, x204001, x204002, x204003, x205000, x205001, x205002, x205003 => if x204001 = 3 then (product_parts.j2 k x0 x7 x8 x9 true x204000 x204001 x204002 x204003 x205000 x205001 x205002 x205003) else (if x205001 = 3 then (product_parts.j2 k x0 x7 x8 x9 true x204000 x204001 x204002 x204003 x205000 x205001 x205002 x205003) else (if x8 = true then (product_parts.j2 k x0 x7 x8 x9 x9 x204000 x204001 x204002 x204003 x205000 x205001 x205002 x205003) else (product_parts.j2 k x0 x7 x8 x9 false x204000 x204001 x204002 x204003 x205000 x205001 x205002 x205003)))
def product_parts.j2 : Nat → Int → Bool → Bool → Bool → Bool → Bool → Int → Int → Int → Bool → Int → Int → Int → Option (Int)
 | 0, _, _, _, _, _, _, _, _, _, _, _, _, _ => none
 | k + 1, x0, x7, x8, x9, x31, x204000, x204001, x204002, x204003, x205000, x205001, x205002, x205003 => if x31 = true then ((shape_Nan.f x0).bind fun t205 => (some t205)) else (if x9 = true then ((shape_Inf.f x0 x7).bind fun t206 => (some t206)) else (if x8 = true then ((shape_Zero.f x0 x7).bind fun t207 => (some t207)) else ((wide_Mul.f x204003 x205003).bind fun bt208 => ((round_Pack.f x0 x7 bt208.1 bt208.2 (wrap64 (x204002 + x205002)) false).bind fun t210 => (some t210)))))
end
def product_parts.f (k : Nat) (a0 : Int) (a1_0 : Bool) (a1_1 : Int) (a1_2 : Int) (a1_3 : Int) (a2_0 : Bool) (a2_1 : Int) (a2_2 : Int) (a2_3 : Int) : Option (Int) := if a1_1 = 0 then (product_parts.j0 k a0 (a1_0 != a2_0) true a1_0 a1_1 a1_2 a1_3 a2_0 a2_1 a2_2 a2_3) else (product_parts.j0 k a0 (a1_0 != a2_0) (a2_1 == 0) a1_0 a1_1 a1_2 a1_3 a2_0 a2_1 a2_2 a2_3)
theorem product_parts.mono_l : ∀ k, (∀ y0 y1 y2 y3 y4 y5 y6 y7 y8 y9 y10, LeO (product_parts.j0 k y0 y1 y2 y3 y4 y5 y6 y7 y8 y9 y10) (product_parts.j0 (k + 1) y0 y1 y2 y3 y4 y5 y6 y7 y8 y9 y10)) ∧ (∀ y0 y1 y2 y3 y4 y5 y6 y7 y8 y9 y10 y11, LeO (product_parts.j1 k y0 y1 y2 y3 y4 y5 y6 y7 y8 y9 y10 y11) (product_parts.j1 (k + 1) y0 y1 y2 y3 y4 y5 y6 y7 y8 y9 y10 y11)) ∧ (∀ y0 y1 y2 y3 y4 y5 y6 y7 y8 y9 y10 y11 y12, LeO (product_parts.j2 k y0 y1 y2 y3 y4 y5 y6 y7 y8 y9 y10 y11 y12) (product_parts.j2 (k + 1) y0 y1 y2 y3 y4 y5 y6 y7 y8 y9 y10 y11 y12))
 | 0 => ⟨fun _ _ _ _ _ _ _ _ _ _ _ r h => by simp [product_parts.j0] at h, fun _ _ _ _ _ _ _ _ _ _ _ _ r h => by simp [product_parts.j1] at h, fun _ _ _ _ _ _ _ _ _ _ _ _ _ r h => by simp [product_parts.j2] at h⟩
 | k + 1 => by
  obtain ⟨ih0, ih1, ih2⟩ := product_parts.mono_l k
  refine ⟨?_, ?_, ?_⟩
  ·intro y0 y1 y2 y3 y4 y5 y6 y7 y8 y9 y10
   unfold product_parts.j0
   repeat' first
   | (with_reducible exact ih0 _ _ _ _ _ _ _ _ _ _ _)
   | (with_reducible exact ih1 _ _ _ _ _ _ _ _ _ _ _ _)
   | (with_reducible exact ih2 _ _ _ _ _ _ _ _ _ _ _ _ _)
   | (with_reducible exact LeO.refl _)
   | (with_reducible exact LeO.none _)
   | (with_reducible refine LeO.ite ?_ ?_)
   | (with_reducible refine LeO.bind ?_ (fun _ => ?_))
   | exact ih0 _ _ _ _ _ _ _ _ _ _ _
   | exact ih1 _ _ _ _ _ _ _ _ _ _ _ _
   | exact ih2 _ _ _ _ _ _ _ _ _ _ _ _ _
   | exact LeO.none _
   | refine LeO.ite ?_ ?_
   | refine LeO.bind ?_ (fun _ => ?_)
  ·intro y0 y1 y2 y3 y4 y5 y6 y7 y8 y9 y10 y11
   unfold product_parts.j1
   repeat' first
   | (with_reducible exact ih0 _ _ _ _ _ _ _ _ _ _ _)
   | (with_reducible exact ih1 _ _ _ _ _ _ _ _ _ _ _ _)
   | (with_reducible exact ih2 _ _ _ _ _ _ _ _ _ _ _ _ _)
   | (with_reducible exact LeO.refl _)
   | (with_reducible exact LeO.none _)
   | (with_reducible refine LeO.ite ?_ ?_)
   | (with_reducible refine LeO.bind ?_ (fun _ => ?_))
   | exact ih0 _ _ _ _ _ _ _ _ _ _ _
   | exact ih1 _ _ _ _ _ _ _ _ _ _ _ _
   | exact ih2 _ _ _ _ _ _ _ _ _ _ _ _ _
   | exact LeO.none _
   | refine LeO.ite ?_ ?_
   | refine LeO.bind ?_ (fun _ => ?_)
  ·intro y0 y1 y2 y3 y4 y5 y6 y7 y8 y9 y10 y11 y12
   unfold product_parts.j2
   repeat' first
   | (with_reducible exact ih0 _ _ _ _ _ _ _ _ _ _ _)
   | (with_reducible exact ih1 _ _ _ _ _ _ _ _ _ _ _ _)
   | (with_reducible exact ih2 _ _ _ _ _ _ _ _ _ _ _ _ _)
   | (with_reducible exact LeO.refl _)
   | (with_reducible exact LeO.none _)
   | (with_reducible refine LeO.ite ?_ ?_)
   | (with_reducible refine LeO.bind ?_ (fun _ => ?_))
   | exact ih0 _ _ _ _ _ _ _ _ _ _ _
   | exact ih1 _ _ _ _ _ _ _ _ _ _ _ _
   | exact ih2 _ _ _ _ _ _ _ _ _ _ _ _ _
   | exact LeO.none _
   | refine LeO.ite ?_ ?_
   | refine LeO.bind ?_ (fun _ => ?_)
theorem product_parts.mono : ∀ a0 a1 a2 a3 a4 a5 a6 a7 a8 k, LeO (product_parts.f k a0 a1 a2 a3 a4 a5 a6 a7 a8) (product_parts.f (k + 1) a0 a1 a2 a3 a4 a5 a6 a7 a8) := by
 intro a0 a1 a2 a3 a4 a5 a6 a7 a8 k
 obtain ⟨ih0, ih1, ih2⟩ := product_parts.mono_l k
 unfold product_parts.f
 repeat' first
   | (with_reducible exact ih0 _ _ _ _ _ _ _ _ _ _ _)
   | (with_reducible exact ih1 _ _ _ _ _ _ _ _ _ _ _ _)
   | (with_reducible exact ih2 _ _ _ _ _ _ _ _ _ _ _ _ _)
   | (with_reducible exact LeO.refl _)
   | (with_reducible exact LeO.none _)
   | (with_reducible refine LeO.ite ?_ ?_)
   | (with_reducible refine LeO.bind ?_ (fun _ => ?_))
   | exact ih0 _ _ _ _ _ _ _ _ _ _ _
   | exact ih1 _ _ _ _ _ _ _ _ _ _ _ _
   | exact ih2 _ _ _ _ _ _ _ _ _ _ _ _ _
   | exact LeO.none _
   | refine LeO.ite ?_ ?_
   | refine LeO.bind ?_ (fun _ => ?_)
def product_parts.T10 : Bool × List (List Nat × List Nat) := (true, [([], []), ([], []), ([], []), ([2], [2]), ([], []), ([4], [4]), ([3, 5], [3, 5]), ([], []), ([7], [7]), ([], []), ([9], [9]), ([8, 10], [8, 10]), ([0, 1, 6, 11, 6], [0, 1, 6, 11]), ([12, 12, 0, 1, 2, 3, 4, 5, 6, 7, 8, 9, 10, 11, 12], [12])])
def product_parts.B10 : List Nat := [0, 0, 0, 4, 0, 16, 60, 0, 128, 0, 512, 1920, 4095, 8191]
theorem product_parts.tab10 : rtab .any (opsOf Try.f54 10) = product_parts.T10 := by kernel_rfl
theorem product_parts.bits10 : waitsOk product_parts.T10.2 product_parts.B10 = true := by kernel_rfl
theorem product_parts.calls (k : Nat) (a0 : Int) (a1_0 : Bool) (a1_1 : Int) (a1_2 : Int) (a1_3 : Int) (a2_0 : Bool) (a2_1 : Int) (a2_2 : Int) (a2_3 : Int) (r : Int) (w : World) (h : product_parts.f k a0 a1_0 a1_1 a1_2 a1_3 a2_0 a2_1 a2_2 a2_3 = some r) :
  Calls Try.prog 54 #[.int .i64 a0, .agg #[.bool a1_0, .int .i64 a1_1, .int .i64 a1_2, .int .u64 a1_3], .agg #[.bool a2_0, .int .i64 a2_1, .int .i64 a2_2, .int .u64 a2_3]] w fun e w' => e = .returned (.int .u64 r) ∧ Below w.heap.size w w' := by
 have hu38 := Try.underlying38
 have HB := A_ (Below.refl w.heap.size w)
 have H : (if a1_1 = 0 then (product_parts.j0 k a0 (a1_0 != a2_0) true a1_0 a1_1 a1_2 a1_3 a2_0 a2_1 a2_2 a2_3) else (product_parts.j0 k a0 (a1_0 != a2_0) (a2_1 == 0) a1_0 a1_1 a1_2 a1_3 a2_0 a2_1 a2_2 a2_3)) = some r := h
 clear h;have HC4 := A_ H;clear H
 go_enter Try.func54, Try.ntmps54
 go_upto_region 2 with (first | ((with_reducible refine gate_dst (N := 4) rfl ?_); refine be_ 4 #[.bool a1_0, .int .i64 a1_1, .int .i64 a1_2, .int .u64 a1_3] 38 ?_; intro gb203 hg w5 hbox hb; have n0_ := A_ (below_step (hb_ HB.out) hb); have n1_ := A_ (hbox); have n2_ := A_ (sz_ hg (hb_ HB.out)); have n3_ := A_ (sz_ hg (hb_ HB.out)); clear HB; have HB := n0_; have BK203 := n1_; have GW203 := n2_; have GE203 := n3_; clear n0_ n1_ n2_ n3_; clear hb hbox hg) | ((with_reducible refine gate_dst (N := 5) rfl ?_); refine be_ 5 #[.bool a2_0, .int .i64 a2_1, .int .i64 a2_2, .int .u64 a2_3] 38 ?_; intro gb204 hg w6 hbox hb; have n0_ := A_ (bb_ BK203.out hb); have n1_ := A_ (below_step (hb1_ HB.out GE203.out) hb); have n2_ := A_ (hbox); have n3_ := A_ (sz_ hg (hb1_ HB.out GE203.out)); have n4_ := A_ (sz_ hg (hb1_ HB.out GE203.out)); have n5_ := A_ (nl_ hg BK203.out); have n6_ := A_ (ng_ hg BK203.out); clear BK203; clear HB; have BK203 := n0_; have HB := n1_; have BK204 := n2_; have GW204 := n3_; have GE204 := n4_; have NB203_204 := n5_; have NB204_203 := n6_; clear n0_ n1_ n2_ n3_ n4_ n5_ n6_; clear hb hbox hg; have hnb7 := NB203_204.out; have hnc7 := NB204_203.out; have hcz8_0 : w6.cell? ⟨gb203, 0, none⟩ = some (.bool a1_0) := bc_ BK203.out 0; have hcz8_1 : w6.cell? ⟨gb203, 1, none⟩ = some (.int .i64 a1_1) := bc_ BK203.out 1; have hcz8_2 : w6.cell? ⟨gb203, 2, none⟩ = some (.int .i64 a1_2) := bc_ BK203.out 2; have hcz8_3 : w6.cell? ⟨gb203, 3, none⟩ = some (.int .u64 a1_3) := bc_ BK203.out 3; have hfz8_0 := blk_frozen BK203.out 0; have hfz8_1 := blk_frozen BK203.out 1; have hfz8_2 := blk_frozen BK203.out 2; have hfz8_3 := blk_frozen BK203.out 3; have hcz9_0 : w6.cell? ⟨gb204, 0, none⟩ = some (.bool a2_0) := bc_ BK204.out 0; have hcz9_1 : w6.cell? ⟨gb204, 1, none⟩ = some (.int .i64 a2_1) := bc_ BK204.out 1; have hcz9_2 : w6.cell? ⟨gb204, 2, none⟩ = some (.int .i64 a2_2) := bc_ BK204.out 2; have hcz9_3 : w6.cell? ⟨gb204, 3, none⟩ = some (.int .u64 a2_3) := bc_ BK204.out 3; have hfz9_0 := blk_frozen BK204.out 0; have hfz9_1 := blk_frozen BK204.out 1; have hfz9_2 := blk_frozen BK204.out 2; have hfz9_3 := blk_frozen BK204.out 3))
 (try simp only [Act.put, lI_, l0_, lS_])
 go_cut [8] (fun v8 wc => ∃ (kq : Nat) (x8_3 : Bool), v8 = .bool x8_3 ∧ Aside0 (product_parts.j0 kq a0 (a1_0 != a2_0) x8_3 a1_0 a1_1 a1_2 a1_3 a2_0 a2_1 a2_2 a2_3 = some r) ∧ Aside0 (kq ≤ k) ∧ Aside0 (wc.heap[gb203]? = some (.cells #[.bool a1_0, .int .i64 a1_1, .int .i64 a1_2, .int .u64 a1_3] 38 (0, 0))) ∧ Aside0 (wc.heap[gb204]? = some (.cells #[.bool a2_0, .int .i64 a2_1, .int .i64 a2_2, .int .u64 a2_3] 38 (0, 0))) ∧ Aside0 (Below w.heap.size w wc))
 case first =>
  have H := HC4.out
  clear HC4
  by_cases c10 : a1_1 = 0
  ·rw [if_pos c10] at H
   have c10b0 : (a1_1 == 0) = true := beq_iff_eq.mpr c10
   have c10b1 : (a1_1 != 0) = false := bne_eq_false_iff_eq.mpr c10
   clear c10
   (first | rw [c10b0] | (simp only [i64_w, i32_w]; rw [c10b0]) | skip)
   have H' := A_ H
   clear H
   have hnb11 := NB203_204.out
   have hnc11 := NB204_203.out
   have hcz12_0 : w6.cell? ⟨gb203, 0, none⟩ = some (.bool a1_0) := bc_ BK203.out 0
   have hcz12_1 : w6.cell? ⟨gb203, 1, none⟩ = some (.int .i64 a1_1) := bc_ BK203.out 1
   have hcz12_2 : w6.cell? ⟨gb203, 2, none⟩ = some (.int .i64 a1_2) := bc_ BK203.out 2
   have hcz12_3 : w6.cell? ⟨gb203, 3, none⟩ = some (.int .u64 a1_3) := bc_ BK203.out 3
   have hfz12_0 := blk_frozen BK203.out 0
   have hfz12_1 := blk_frozen BK203.out 1
   have hfz12_2 := blk_frozen BK203.out 2
   have hfz12_3 := blk_frozen BK203.out 3
   go_wp2
   go_meet
   case rel => exact ⟨_, (true), sm_, H', ⟨by first | omega | exact Nat.le_refl _⟩, ⟨bk_ BK203.out⟩, ⟨bk_ BK204.out⟩, ⟨hb2_ HB.out GE203.out GE204.out⟩⟩
  ·rw [if_neg c10] at H
   have c10b0 : (a1_1 == 0) = false := beq_eq_false_iff_ne.mpr c10
   have c10b1 : (a1_1 != 0) = true := bne_iff_ne.mpr c10
   (first | rw [c10b0] | (simp only [i64_w, i32_w]; rw [c10b0]) | skip)
   have H' := A_ H
   clear H
   have hnb13 := NB203_204.out
   have hnc13 := NB204_203.out
   have hcz14_0 : w6.cell? ⟨gb203, 0, none⟩ = some (.bool a1_0) := bc_ BK203.out 0
   have hcz14_1 : w6.cell? ⟨gb203, 1, none⟩ = some (.int .i64 a1_1) := bc_ BK203.out 1
   have hcz14_2 : w6.cell? ⟨gb203, 2, none⟩ = some (.int .i64 a1_2) := bc_ BK203.out 2
   have hcz14_3 : w6.cell? ⟨gb203, 3, none⟩ = some (.int .u64 a1_3) := bc_ BK203.out 3
   have hfz14_0 := blk_frozen BK203.out 0
   have hfz14_1 := blk_frozen BK203.out 1
   have hfz14_2 := blk_frozen BK203.out 2
   have hfz14_3 := blk_frozen BK203.out 3
   have hcz15_0 : w6.cell? ⟨gb204, 0, none⟩ = some (.bool a2_0) := bc_ BK204.out 0
   have hcz15_1 : w6.cell? ⟨gb204, 1, none⟩ = some (.int .i64 a2_1) := bc_ BK204.out 1
   have hcz15_2 : w6.cell? ⟨gb204, 2, none⟩ = some (.int .i64 a2_2) := bc_ BK204.out 2
   have hcz15_3 : w6.cell? ⟨gb204, 3, none⟩ = some (.int .u64 a2_3) := bc_ BK204.out 3
   have hfz15_0 := blk_frozen BK204.out 0
   have hfz15_1 := blk_frozen BK204.out 1
   have hfz15_2 := blk_frozen BK204.out 2
   have hfz15_3 := blk_frozen BK204.out 3
   go_wp2
   go_meet
   case rel => exact ⟨_, ((a2_1 == 0)), sm_, H', ⟨by first | omega | exact Nat.le_refl _⟩, ⟨bk_ BK203.out⟩, ⟨bk_ BK204.out⟩, ⟨hb2_ HB.out GE203.out GE204.out⟩⟩
 case rest =>
  clear HC4
  try clear c1
  try clear p2
  try clear c5
  try clear c7
  try clear c10
  try clear c10b0
  try clear c10b1
  try clear c11
  try clear c13
  try clear hcz12_0
  try clear hcz12_1
  try clear hcz12_2
  try clear hcz12_3
  try clear hcz14_0
  try clear hcz14_1
  try clear hcz14_2
  try clear hcz14_3
  try clear hcz15_0
  try clear hcz15_1
  try clear hcz15_2
  try clear hcz15_3
  try clear hcz8_0
  try clear hcz8_1
  try clear hcz8_2
  try clear hcz8_3
  try clear hcz9_0
  try clear hcz9_1
  try clear hcz9_2
  try clear hcz9_3
  try clear hfz12_0
  try clear hfz12_1
  try clear hfz12_2
  try clear hfz12_3
  try clear hfz14_0
  try clear hfz14_1
  try clear hfz14_2
  try clear hfz14_3
  try clear hfz15_0
  try clear hfz15_1
  try clear hfz15_2
  try clear hfz15_3
  try clear hfz8_0
  try clear hfz8_1
  try clear hfz8_2
  try clear hfz8_3
  try clear hfz9_0
  try clear hfz9_1
  try clear hfz9_2
  try clear hfz9_3
  obtain ⟨kq, x8_3, rfl, HA, HJ3, BK203, BK204, HB⟩ := hcut
  cases kq with
  | zero => exact absurd HA.out (by simp [product_parts.j0])
  | succ kj3 =>
   have H := HA.out
   clear HA
   simp only [product_parts.j0] at H
   have HC16 := A_ H;clear H
   go_upto_region 3 with (fail)
   go_cut [9] (fun v9 wc => ∃ (kq : Nat) (x9_15 : Bool), v9 = .bool x9_15 ∧ Aside0 (product_parts.j1 kq a0 (a1_0 != a2_0) x8_3 x9_15 a1_0 a1_1 a1_2 a1_3 a2_0 a2_1 a2_2 a2_3 = some r) ∧ Aside0 (kq ≤ kj3) ∧ Aside0 (wc.heap[gb203]? = some (.cells #[.bool a1_0, .int .i64 a1_1, .int .i64 a1_2, .int .u64 a1_3] 38 (0, 0))) ∧ Aside0 (wc.heap[gb204]? = some (.cells #[.bool a2_0, .int .i64 a2_1, .int .i64 a2_2, .int .u64 a2_3] 38 (0, 0))) ∧ Aside0 (Below w.heap.size w wc))
   case first =>
    have H := HC16.out
    clear HC16
    by_cases c17 : a1_1 = 2
    ·rw [if_pos c17] at H
     have c17b0 : (a1_1 == 2) = true := beq_iff_eq.mpr c17
     have c17b1 : (a1_1 != 2) = false := bne_eq_false_iff_eq.mpr c17
     clear c17
     (first | rw [c17b0] | (simp only [i64_w, i32_w]; rw [c17b0]) | skip)
     have H' := A_ H
     clear H
     have hnb18 := NB203_204.out
     have hnc18 := NB204_203.out
     have hcz19_0 : wc.cell? ⟨gb203, 0, none⟩ = some (.bool a1_0) := bc_ BK203.out 0
     have hcz19_1 : wc.cell? ⟨gb203, 1, none⟩ = some (.int .i64 a1_1) := bc_ BK203.out 1
     have hcz19_2 : wc.cell? ⟨gb203, 2, none⟩ = some (.int .i64 a1_2) := bc_ BK203.out 2
     have hcz19_3 : wc.cell? ⟨gb203, 3, none⟩ = some (.int .u64 a1_3) := bc_ BK203.out 3
     have hfz19_0 := blk_frozen BK203.out 0
     have hfz19_1 := blk_frozen BK203.out 1
     have hfz19_2 := blk_frozen BK203.out 2
     have hfz19_3 := blk_frozen BK203.out 3
     go_wp2
     go_meet
     case rel => exact ⟨_, (true), sm_, H', ⟨by have := HJ3.out; first | omega | exact Nat.le_refl _⟩, ⟨bk_ BK203.out⟩, ⟨bk_ BK204.out⟩, ⟨hb2_ HB.out GE203.out GE204.out⟩⟩
    ·rw [if_neg c17] at H
     have c17b0 : (a1_1 == 2) = false := beq_eq_false_iff_ne.mpr c17
     have c17b1 : (a1_1 != 2) = true := bne_iff_ne.mpr c17
     (first | rw [c17b0] | (simp only [i64_w, i32_w]; rw [c17b0]) | skip)
     have H' := A_ H
     clear H
     have hnb20 := NB203_204.out
     have hnc20 := NB204_203.out
     have hcz21_0 : wc.cell? ⟨gb203, 0, none⟩ = some (.bool a1_0) := bc_ BK203.out 0
     have hcz21_1 : wc.cell? ⟨gb203, 1, none⟩ = some (.int .i64 a1_1) := bc_ BK203.out 1
     have hcz21_2 : wc.cell? ⟨gb203, 2, none⟩ = some (.int .i64 a1_2) := bc_ BK203.out 2
     have hcz21_3 : wc.cell? ⟨gb203, 3, none⟩ = some (.int .u64 a1_3) := bc_ BK203.out 3
     have hfz21_0 := blk_frozen BK203.out 0
     have hfz21_1 := blk_frozen BK203.out 1
     have hfz21_2 := blk_frozen BK203.out 2
     have hfz21_3 := blk_frozen BK203.out 3
     have hcz22_0 : wc.cell? ⟨gb204, 0, none⟩ = some (.bool a2_0) := bc_ BK204.out 0
     have hcz22_1 : wc.cell? ⟨gb204, 1, none⟩ = some (.int .i64 a2_1) := bc_ BK204.out 1
     have hcz22_2 : wc.cell? ⟨gb204, 2, none⟩ = some (.int .i64 a2_2) := bc_ BK204.out 2
     have hcz22_3 : wc.cell? ⟨gb204, 3, none⟩ = some (.int .u64 a2_3) := bc_ BK204.out 3
     have hfz22_0 := blk_frozen BK204.out 0
     have hfz22_1 := blk_frozen BK204.out 1
     have hfz22_2 := blk_frozen BK204.out 2
     have hfz22_3 := blk_frozen BK204.out 3
     go_wp2
     go_meet
     case rel => exact ⟨_, ((a2_1 == 2)), sm_, H', ⟨by have := HJ3.out; first | omega | exact Nat.le_refl _⟩, ⟨bk_ BK203.out⟩, ⟨bk_ BK204.out⟩, ⟨hb2_ HB.out GE203.out GE204.out⟩⟩
   case rest =>
    clear HC16
    try clear c1
    try clear c2
    try clear p2
    try clear c5
    try clear c7
    try clear c10
    try clear c10b0
    try clear c10b1
    try clear c11
    try clear c13
    try clear c17
    try clear c17b0
    try clear c17b1
    try clear c18
    try clear c20
    try clear hcz12_0
    try clear hcz12_1
    try clear hcz12_2
    try clear hcz12_3
    try clear hcz14_0
    try clear hcz14_1
    try clear hcz14_2
    try clear hcz14_3
    try clear hcz15_0
    try clear hcz15_1
    try clear hcz15_2
    try clear hcz15_3
    try clear hcz19_0
    try clear hcz19_1
    try clear hcz19_2
    try clear hcz19_3
    try clear hcz21_0
    try clear hcz21_1
    try clear hcz21_2
    try clear hcz21_3
    try clear hcz22_0
    try clear hcz22_1
    try clear hcz22_2
    try clear hcz22_3
    try clear hcz8_0
    try clear hcz8_1
    try clear hcz8_2
    try clear hcz8_3
    try clear hcz9_0
    try clear hcz9_1
    try clear hcz9_2
    try clear hcz9_3
    try clear hfz12_0
    try clear hfz12_1
    try clear hfz12_2
    try clear hfz12_3
    try clear hfz14_0
    try clear hfz14_1
    try clear hfz14_2
    try clear hfz14_3
    try clear hfz15_0
    try clear hfz15_1
    try clear hfz15_2
    try clear hfz15_3
    try clear hfz19_0
    try clear hfz19_1
    try clear hfz19_2
    try clear hfz19_3
    try clear hfz21_0
    try clear hfz21_1
    try clear hfz21_2
    try clear hfz21_3
    try clear hfz22_0
    try clear hfz22_1
    try clear hfz22_2
    try clear hfz22_3
    try clear hfz8_0
    try clear hfz8_1
    try clear hfz8_2
    try clear hfz8_3
    try clear hfz9_0
    try clear hfz9_1
    try clear hfz9_2
    try clear hfz9_3
    try clear p2
    obtain ⟨kq, x9_15, rfl, HA, HJ15, BK203, BK204, HB⟩ := hcut
    cases kq with
    | zero => exact absurd HA.out (by simp [product_parts.j1])
    | succ kj15 =>
     have H := HA.out
     clear HA
     simp only [product_parts.j1] at H
     have HC23 := A_ H;clear H
     go_upto_region 4 with (fail)
     go_cut [31] (fun v31 wc => ∃ (kq : Nat) (x31_22 : Bool), v31 = .bool x31_22 ∧ Aside0 (product_parts.j2 kq a0 (a1_0 != a2_0) x8_3 x9_15 x31_22 a1_0 a1_1 a1_2 a1_3 a2_0 a2_1 a2_2 a2_3 = some r) ∧ Aside0 (kq ≤ kj15) ∧ Aside0 (wc.heap[gb203]? = some (.cells #[.bool a1_0, .int .i64 a1_1, .int .i64 a1_2, .int .u64 a1_3] 38 (0, 0))) ∧ Aside0 (wc.heap[gb204]? = some (.cells #[.bool a2_0, .int .i64 a2_1, .int .i64 a2_2, .int .u64 a2_3] 38 (0, 0))) ∧ Aside0 (Below w.heap.size w wc))
     case first =>
      have H := HC23.out
      clear HC23
      by_cases c24 : a1_1 = 3
      ·rw [if_pos c24] at H
       have c24b0 : (a1_1 == 3) = true := beq_iff_eq.mpr c24
       have c24b1 : (a1_1 != 3) = false := bne_eq_false_iff_eq.mpr c24
       clear c24
       (first | rw [c24b0] | (simp only [i64_w, i32_w]; rw [c24b0]) | skip)
       have H' := A_ H
       clear H
       have hnb25 := NB203_204.out
       have hnc25 := NB204_203.out
       have hcz26_0 : wc.cell? ⟨gb203, 0, none⟩ = some (.bool a1_0) := bc_ BK203.out 0
       have hcz26_1 : wc.cell? ⟨gb203, 1, none⟩ = some (.int .i64 a1_1) := bc_ BK203.out 1
       have hcz26_2 : wc.cell? ⟨gb203, 2, none⟩ = some (.int .i64 a1_2) := bc_ BK203.out 2
       have hcz26_3 : wc.cell? ⟨gb203, 3, none⟩ = some (.int .u64 a1_3) := bc_ BK203.out 3
       have hfz26_0 := blk_frozen BK203.out 0
       have hfz26_1 := blk_frozen BK203.out 1
       have hfz26_2 := blk_frozen BK203.out 2
       have hfz26_3 := blk_frozen BK203.out 3
       go_wp2
       go_meet
       case rel => exact ⟨_, (true), sm_, H', ⟨by have := HJ3.out; have := HJ15.out; first | omega | exact Nat.le_refl _⟩, ⟨bk_ BK203.out⟩, ⟨bk_ BK204.out⟩, ⟨hb2_ HB.out GE203.out GE204.out⟩⟩
      ·rw [if_neg c24] at H
       have c24b0 : (a1_1 == 3) = false := beq_eq_false_iff_ne.mpr c24
       have c24b1 : (a1_1 != 3) = true := bne_iff_ne.mpr c24
       (first | rw [c24b0] | (simp only [i64_w, i32_w]; rw [c24b0]) | skip)
       by_cases c27 : a2_1 = 3
       ·rw [if_pos c27] at H
        have c27b0 : (a2_1 == 3) = true := beq_iff_eq.mpr c27
        have c27b1 : (a2_1 != 3) = false := bne_eq_false_iff_eq.mpr c27
        clear c27
        have H' := A_ H
        clear H
        have hnb28 := NB203_204.out
        have hnc28 := NB204_203.out
        have hcz29_0 : wc.cell? ⟨gb203, 0, none⟩ = some (.bool a1_0) := bc_ BK203.out 0
        have hcz29_1 : wc.cell? ⟨gb203, 1, none⟩ = some (.int .i64 a1_1) := bc_ BK203.out 1
        have hcz29_2 : wc.cell? ⟨gb203, 2, none⟩ = some (.int .i64 a1_2) := bc_ BK203.out 2
        have hcz29_3 : wc.cell? ⟨gb203, 3, none⟩ = some (.int .u64 a1_3) := bc_ BK203.out 3
        have hfz29_0 := blk_frozen BK203.out 0
        have hfz29_1 := blk_frozen BK203.out 1
        have hfz29_2 := blk_frozen BK203.out 2
        have hfz29_3 := blk_frozen BK203.out 3
        have hcz30_0 : wc.cell? ⟨gb204, 0, none⟩ = some (.bool a2_0) := bc_ BK204.out 0
        have hcz30_1 : wc.cell? ⟨gb204, 1, none⟩ = some (.int .i64 a2_1) := bc_ BK204.out 1
        have hcz30_2 : wc.cell? ⟨gb204, 2, none⟩ = some (.int .i64 a2_2) := bc_ BK204.out 2
        have hcz30_3 : wc.cell? ⟨gb204, 3, none⟩ = some (.int .u64 a2_3) := bc_ BK204.out 3
        have hfz30_0 := blk_frozen BK204.out 0
        have hfz30_1 := blk_frozen BK204.out 1
        have hfz30_2 := blk_frozen BK204.out 2
        have hfz30_3 := blk_frozen BK204.out 3
        go_wp2
        go_meet
        case rel => exact ⟨_, (true), sm_, H', ⟨by have := HJ3.out; have := HJ15.out; first | omega | exact Nat.le_refl _⟩, ⟨bk_ BK203.out⟩, ⟨bk_ BK204.out⟩, ⟨hb2_ HB.out GE203.out GE204.out⟩⟩
       ·rw [if_neg c27] at H
        have c27b0 : (a2_1 == 3) = false := beq_eq_false_iff_ne.mpr c27
        have c27b1 : (a2_1 != 3) = true := bne_iff_ne.mpr c27
        by_cases c31 : x8_3 = true
        ·subst c31
         have H1 : (product_parts.j2 kj15 a0 (a1_0 != a2_0) true x9_15 x9_15 a1_0 a1_1 a1_2 a1_3 a2_0 a2_1 a2_2 a2_3) = some r := by rw [if_pos rfl] at H; exact H
         clear H;have H := H1;clear H1
         have H' := A_ H
         clear H
         have hnb32 := NB203_204.out
         have hnc32 := NB204_203.out
         have hcz33_0 : wc.cell? ⟨gb203, 0, none⟩ = some (.bool a1_0) := bc_ BK203.out 0
         have hcz33_1 : wc.cell? ⟨gb203, 1, none⟩ = some (.int .i64 a1_1) := bc_ BK203.out 1
         have hcz33_2 : wc.cell? ⟨gb203, 2, none⟩ = some (.int .i64 a1_2) := bc_ BK203.out 2
         have hcz33_3 : wc.cell? ⟨gb203, 3, none⟩ = some (.int .u64 a1_3) := bc_ BK203.out 3
         have hfz33_0 := blk_frozen BK203.out 0
         have hfz33_1 := blk_frozen BK203.out 1
         have hfz33_2 := blk_frozen BK203.out 2
         have hfz33_3 := blk_frozen BK203.out 3
         have hcz34_0 : wc.cell? ⟨gb204, 0, none⟩ = some (.bool a2_0) := bc_ BK204.out 0
         have hcz34_1 : wc.cell? ⟨gb204, 1, none⟩ = some (.int .i64 a2_1) := bc_ BK204.out 1
         have hcz34_2 : wc.cell? ⟨gb204, 2, none⟩ = some (.int .i64 a2_2) := bc_ BK204.out 2
         have hcz34_3 : wc.cell? ⟨gb204, 3, none⟩ = some (.int .u64 a2_3) := bc_ BK204.out 3
         have hfz34_0 := blk_frozen BK204.out 0
         have hfz34_1 := blk_frozen BK204.out 1
         have hfz34_2 := blk_frozen BK204.out 2
         have hfz34_3 := blk_frozen BK204.out 3
         go_wp2
         go_meet
         case rel => exact ⟨_, (x9_15), sm_, H', ⟨by have := HJ3.out; have := HJ15.out; first | omega | exact Nat.le_refl _⟩, ⟨bk_ BK203.out⟩, ⟨bk_ BK204.out⟩, ⟨hb2_ HB.out GE203.out GE204.out⟩⟩
        ·replace c31 := Bool.eq_false_iff.mpr c31
         subst c31
         have H1 : (product_parts.j2 kj15 a0 (a1_0 != a2_0) false x9_15 false a1_0 a1_1 a1_2 a1_3 a2_0 a2_1 a2_2 a2_3) = some r := by rw [if_neg (show ¬ (false = true) by decide)] at H; exact H
         clear H;have H := H1;clear H1
         have H' := A_ H
         clear H
         have hnb35 := NB203_204.out
         have hnc35 := NB204_203.out
         have hcz36_0 : wc.cell? ⟨gb203, 0, none⟩ = some (.bool a1_0) := bc_ BK203.out 0
         have hcz36_1 : wc.cell? ⟨gb203, 1, none⟩ = some (.int .i64 a1_1) := bc_ BK203.out 1
         have hcz36_2 : wc.cell? ⟨gb203, 2, none⟩ = some (.int .i64 a1_2) := bc_ BK203.out 2
         have hcz36_3 : wc.cell? ⟨gb203, 3, none⟩ = some (.int .u64 a1_3) := bc_ BK203.out 3
         have hfz36_0 := blk_frozen BK203.out 0
         have hfz36_1 := blk_frozen BK203.out 1
         have hfz36_2 := blk_frozen BK203.out 2
         have hfz36_3 := blk_frozen BK203.out 3
         have hcz37_0 : wc.cell? ⟨gb204, 0, none⟩ = some (.bool a2_0) := bc_ BK204.out 0
         have hcz37_1 : wc.cell? ⟨gb204, 1, none⟩ = some (.int .i64 a2_1) := bc_ BK204.out 1
         have hcz37_2 : wc.cell? ⟨gb204, 2, none⟩ = some (.int .i64 a2_2) := bc_ BK204.out 2
         have hcz37_3 : wc.cell? ⟨gb204, 3, none⟩ = some (.int .u64 a2_3) := bc_ BK204.out 3
         have hfz37_0 := blk_frozen BK204.out 0
         have hfz37_1 := blk_frozen BK204.out 1
         have hfz37_2 := blk_frozen BK204.out 2
         have hfz37_3 := blk_frozen BK204.out 3
         go_wp2
         go_meet
         case rel => exact ⟨_, (false), sm_, H', ⟨by have := HJ3.out; have := HJ15.out; first | omega | exact Nat.le_refl _⟩, ⟨bk_ BK203.out⟩, ⟨bk_ BK204.out⟩, ⟨hb2_ HB.out GE203.out GE204.out⟩⟩
     case rest =>
      clear HC23
      try clear c1
      try clear c2
      try clear p2
      try clear c3
      try clear c5
      try clear c7
      try clear c10
      try clear c10b0
      try clear c10b1
      try clear c11
      try clear c13
      try clear c17
      try clear c17b0
      try clear c17b1
      try clear c18
      try clear c20
      try clear c24
      try clear c24b0
      try clear c24b1
      try clear c25
      try clear c27
      try clear c27b0
      try clear c27b1
      try clear c28
      try clear c31
      try clear c32
      try clear c35
      try clear hcz12_0
      try clear hcz12_1
      try clear hcz12_2
      try clear hcz12_3
      try clear hcz14_0
      try clear hcz14_1
      try clear hcz14_2
      try clear hcz14_3
      try clear hcz15_0
      try clear hcz15_1
      try clear hcz15_2
      try clear hcz15_3
      try clear hcz19_0
      try clear hcz19_1
      try clear hcz19_2
      try clear hcz19_3
      try clear hcz21_0
      try clear hcz21_1
      try clear hcz21_2
      try clear hcz21_3
      try clear hcz22_0
      try clear hcz22_1
      try clear hcz22_2
      try clear hcz22_3
      try clear hcz26_0
      try clear hcz26_1
      try clear hcz26_2
      try clear hcz26_3
      try clear hcz29_0
      try clear hcz29_1
      try clear hcz29_2
      try clear hcz29_3
      try clear hcz30_0
      try clear hcz30_1
      try clear hcz30_2
      try clear hcz30_3
      try clear hcz33_0
      try clear hcz33_1
      try clear hcz33_2
      try clear hcz33_3
      try clear hcz34_0
      try clear hcz34_1
      try clear hcz34_2
      try clear hcz34_3
      try clear hcz36_0
      try clear hcz36_1
      try clear hcz36_2
      try clear hcz36_3
      try clear hcz37_0
      try clear hcz37_1
      try clear hcz37_2
      try clear hcz37_3
      try clear hcz8_0
      try clear hcz8_1
      try clear hcz8_2
      try clear hcz8_3
      try clear hcz9_0
      try clear hcz9_1
      try clear hcz9_2
      try clear hcz9_3
      try clear hfz12_0
      try clear hfz12_1
      try clear hfz12_2
      try clear hfz12_3
      try clear hfz14_0
      try clear hfz14_1
      try clear hfz14_2
      try clear hfz14_3
      try clear hfz15_0
      try clear hfz15_1
      try clear hfz15_2
      try clear hfz15_3
      try clear hfz19_0
      try clear hfz19_1
      try clear hfz19_2
      try clear hfz19_3
      try clear hfz21_0
      try clear hfz21_1
      try clear hfz21_2
      try clear hfz21_3
      try clear hfz22_0
      try clear hfz22_1
      try clear hfz22_2
      try clear hfz22_3
      try clear hfz26_0
      try clear hfz26_1
      try clear hfz26_2
      try clear hfz26_3
      try clear hfz29_0
      try clear hfz29_1
      try clear hfz29_2
      try clear hfz29_3
      try clear hfz30_0
      try clear hfz30_1
      try clear hfz30_2
      try clear hfz30_3
      try clear hfz33_0
      try clear hfz33_1
      try clear hfz33_2
      try clear hfz33_3
      try clear hfz34_0
      try clear hfz34_1
      try clear hfz34_2
      try clear hfz34_3
      try clear hfz36_0
      try clear hfz36_1
      try clear hfz36_2
      try clear hfz36_3
      try clear hfz37_0
      try clear hfz37_1
      try clear hfz37_2
      try clear hfz37_3
      try clear hfz8_0
      try clear hfz8_1
      try clear hfz8_2
      try clear hfz8_3
      try clear hfz9_0
      try clear hfz9_1
      try clear hfz9_2
      try clear hfz9_3
      try clear p2
      obtain ⟨kq, x31_22, rfl, HA, HJ22, BK203, BK204, HB⟩ := hcut
      cases kq with
      | zero => exact absurd HA.out (by simp [product_parts.j2])
      | succ kj22 =>
       have H := HA.out
       clear HA
       simp only [product_parts.j2] at H
       by_cases c38 : x31_22 = true
       ·subst c38
        have H1 : ((shape_Nan.f a0).bind fun t205 => (some t205)) = some r := by rw [if_pos rfl] at H; exact H
        clear H;have H := H1;clear H1
        replace H := ob_ H
        obtain ⟨t205, A390, H⟩ := H
        replace H : (some t205) = some r := H
        have A39 := A_ A390;clear A390
        obtain rfl := Option.some.inj H
        go_wp2_with (first | ((with_reducible refine gate_callee (f := 34) rfl ?_); refine gl_ (some 47) Try.func34 #[.int .i64 a0] ?_; (with_reducible refine (shape_Nan.calls a0 t205 _ A39.out).mono ?_); rintro e w40 ⟨rfl, hb⟩; refine ⟨_, rfl, ?_⟩; have n0_ := A_ (bb_ BK203.out hb); have n1_ := A_ (bb_ BK204.out hb); have n2_ := A_ (below_step (hb2_ HB.out GE203.out GE204.out) hb); clear BK203; clear BK204; clear HB; have BK203 := n0_; have BK204 := n1_; have HB := n2_; clear n0_ n1_ n2_; (try clear hb); (try clear hb2); (try clear hk); (try clear hi)))
        go_ret
        exact ⟨er_, hb2_ HB.out GE203.out GE204.out⟩
       ·replace c38 := Bool.eq_false_iff.mpr c38
        subst c38
        have H1 : (if x9_15 = true then ((shape_Inf.f a0 (a1_0 != a2_0)).bind fun t206 => (some t206)) else (if x8_3 = true then ((shape_Zero.f a0 (a1_0 != a2_0)).bind fun t207 => (some t207)) else ((wide_Mul.f a1_3 a2_3).bind fun bt208 => ((round_Pack.f a0 (a1_0 != a2_0) bt208.1 bt208.2 (wrap64 (a1_2 + a2_2)) false).bind fun t210 => (some t210))))) = some r := by rw [if_neg (show ¬ (false = true) by decide)] at H; exact H
        clear H;have H := H1;clear H1
        by_cases c41 : x9_15 = true
        ·subst c41
         have H1 : ((shape_Inf.f a0 (a1_0 != a2_0)).bind fun t206 => (some t206)) = some r := by rw [if_pos rfl] at H; exact H
         clear H;have H := H1;clear H1
         replace H := ob_ H
         obtain ⟨t206, A420, H⟩ := H
         replace H : (some t206) = some r := H
         have A42 := A_ A420;clear A420
         obtain rfl := Option.some.inj H
         go_wp2_with (first | ((with_reducible refine gate_callee (f := 42) rfl ?_); refine gl_ (some 52) Try.func42 #[.int .i64 a0, .bool (a1_0 != a2_0)] ?_; (with_reducible refine (shape_Inf.calls a0 (a1_0 != a2_0) t206 _ A42.out).mono ?_); rintro e w43 ⟨rfl, hb⟩; refine ⟨_, rfl, ?_⟩; have n0_ := A_ (bb_ BK203.out hb); have n1_ := A_ (bb_ BK204.out hb); have n2_ := A_ (below_step (hb2_ HB.out GE203.out GE204.out) hb); clear BK203; clear BK204; clear HB; have BK203 := n0_; have BK204 := n1_; have HB := n2_; clear n0_ n1_ n2_; (try clear hb); (try clear hb2); (try clear hk); (try clear hi)))
         go_ret
         exact ⟨er_, hb2_ HB.out GE203.out GE204.out⟩
        ·replace c41 := Bool.eq_false_iff.mpr c41
         subst c41
         have H1 : (if x8_3 = true then ((shape_Zero.f a0 (a1_0 != a2_0)).bind fun t207 => (some t207)) else ((wide_Mul.f a1_3 a2_3).bind fun bt208 => ((round_Pack.f a0 (a1_0 != a2_0) bt208.1 bt208.2 (wrap64 (a1_2 + a2_2)) false).bind fun t210 => (some t210)))) = some r := by rw [if_neg (show ¬ (false = true) by decide)] at H; exact H
         clear H;have H := H1;clear H1
         by_cases c44 : x8_3 = true
         ·subst c44
          have H1 : ((shape_Zero.f a0 (a1_0 != a2_0)).bind fun t207 => (some t207)) = some r := by rw [if_pos rfl] at H; exact H
          clear H;have H := H1;clear H1
          replace H := ob_ H
          obtain ⟨t207, A450, H⟩ := H
          replace H : (some t207) = some r := H
          have A45 := A_ A450;clear A450
          obtain rfl := Option.some.inj H
          go_wp2_with (first | ((with_reducible refine gate_callee (f := 30) rfl ?_); refine gl_ (some 57) Try.func30 #[.int .i64 a0, .bool (a1_0 != a2_0)] ?_; (with_reducible refine (shape_Zero.calls a0 (a1_0 != a2_0) t207 _ A45.out).mono ?_); rintro e w46 ⟨rfl, hb⟩; refine ⟨_, rfl, ?_⟩; have n0_ := A_ (bb_ BK203.out hb); have n1_ := A_ (bb_ BK204.out hb); have n2_ := A_ (below_step (hb2_ HB.out GE203.out GE204.out) hb); clear BK203; clear BK204; clear HB; have BK203 := n0_; have BK204 := n1_; have HB := n2_; clear n0_ n1_ n2_; (try clear hb); (try clear hb2); (try clear hk); (try clear hi)))
          go_ret
          exact ⟨er_, hb2_ HB.out GE203.out GE204.out⟩
         ·replace c44 := Bool.eq_false_iff.mpr c44
          subst c44
          have H1 : ((wide_Mul.f a1_3 a2_3).bind fun bt208 => ((round_Pack.f a0 (a1_0 != a2_0) bt208.1 bt208.2 (wrap64 (a1_2 + a2_2)) false).bind fun t210 => (some t210))) = some r := by rw [if_neg (show ¬ (false = true) by decide)] at H; exact H
          clear H;have H := H1;clear H1
          replace H := ob_ H
          obtain ⟨⟨t208, t209⟩, A470, H⟩ := H
          replace H : ((round_Pack.f a0 (a1_0 != a2_0) t208 t209 (wrap64 (a1_2 + a2_2)) false).bind fun t210 => (some t210)) = some r := H
          have A47 := A_ A470;clear A470
          replace H := ob_ H
          obtain ⟨t210, A480, H⟩ := H
          replace H : (some t210) = some r := H
          have A48 := A_ A480;clear A480
          obtain rfl := Option.some.inj H
          try go_wp2
          have n0_ := A_ (blk_drew BK203.out)
          have n1_ := A_ (blk_drew BK204.out)
          have n2_ := A_ (below_drew1 HB.out)
          clear BK203;clear BK204;clear HB;have BK203 := n0_;have BK204 := n1_;have HB := n2_;clear n0_ n1_ n2_
          refine start_ (n := 14) (S := fun w' => w'.cell? ⟨gb203, 0, none⟩ = some (.bool a1_0) ∧ w'.cell? ⟨gb203, 1, none⟩ = some (.int .i64 a1_1) ∧ w'.cell? ⟨gb203, 2, none⟩ = some (.int .i64 a1_2) ∧ w'.cell? ⟨gb203, 3, none⟩ = some (.int .u64 a1_3) ∧ w'.cell? ⟨gb204, 0, none⟩ = some (.bool a2_0) ∧ w'.cell? ⟨gb204, 1, none⟩ = some (.int .i64 a2_1) ∧ w'.cell? ⟨gb204, 2, none⟩ = some (.int .i64 a2_2) ∧ w'.cell? ⟨gb204, 3, none⟩ = some (.int .u64 a2_3)) (ds := []) #[false, false, false, false, false, false, false, false, false, false, false, false, false, false] (by kernel_rfl) rfl rfl ⟨bc_ BK203.out 0, bc_ BK203.out 1, bc_ BK203.out 2, bc_ BK203.out 3, bc_ BK204.out 0, bc_ BK204.out 1, bc_ BK204.out 2, bc_ BK204.out 3⟩ (fun hHeld => ?_); refine with_tabW product_parts.tab10 product_parts.bits10 (fun HT_ HW_ => ?_)
          generalize wc.drew = w49 at BK203 BK204 HB hHeld ⊢
          refine pu_ 0 (some 58) #[true, false, false, false, false, false, false, false, false, false, false, false, false, false] rfl rfl (any_of HT_.out (by kernel_rfl)) ?_
          refine pu_ 1 (some 59) #[true, true, false, false, false, false, false, false, false, false, false, false, false, false] rfl rfl (any_of HT_.out (by kernel_rfl)) ?_
          refine pu_ 2 (some 60) #[true, true, true, false, false, false, false, false, false, false, false, false, false, false] rfl rfl (any_of HT_.out (by kernel_rfl)) ?_
          refine pu_ 4 (some 62) #[true, true, true, false, true, false, false, false, false, false, false, false, false, false] rfl rfl (any_of HT_.out (by kernel_rfl)) ?_
          refine pu_ 7 (some 65) #[true, true, true, false, true, false, false, true, false, false, false, false, false, false] rfl rfl (any_of HT_.out (by kernel_rfl)) ?_
          refine pu_ 9 (some 67) #[true, true, true, false, true, false, false, true, false, true, false, false, false, false] rfl rfl (any_of HT_.out (by kernel_rfl)) ?_
          refine tk8_ 3 (some 61) #[true, true, true, true, true, false, false, true, false, true, false, false, false, false] rfl rfl (take_ofW HT_.out HW_.out (by kernel_rfl)) hHeld ?_
          refine tk8_ 5 (some 63) #[true, true, true, true, true, true, false, true, false, true, false, false, false, false] rfl rfl (take_ofW HT_.out HW_.out (by kernel_rfl)) hHeld ?_
          refine tk8_ 8 (some 66) #[true, true, true, true, true, true, false, true, true, true, false, false, false, false] rfl rfl (take_ofW HT_.out HW_.out (by kernel_rfl)) hHeld ?_
          refine tk8_ 10 (some 68) #[true, true, true, true, true, true, false, true, true, true, true, false, false, false] rfl rfl (take_ofW HT_.out HW_.out (by kernel_rfl)) hHeld ?_
          refine pu_ 11 (some 69) #[true, true, true, true, true, true, false, true, true, true, true, true, false, false] rfl rfl (any_of HT_.out (by kernel_rfl)) ?_
          refine one_ (i := 6) (N := some 64) #[true, true, true, true, true, true, true, true, true, true, true, true, false, false] rfl rfl (one_of HT_.out (by kernel_rfl)) (by decide) (fun K hK => ?_)
          refine goes_ Try.func90 (by kernel_rfl) rfl #[.int .u64 a1_3, .int .u64 a2_3] (by rfl) rfl rfl mp_ ?_
          with_reducible refine (wide_Mul.calls a1_3 a2_3 t208 t209 _ A47.out).mono ?_
          rintro e w50 ⟨rfl, hb⟩
          refine ⟨_, rfl, ?_⟩
          have n0_ := A_ (bb_ BK203.out hb)
          have n1_ := A_ (bb_ BK204.out hb)
          have n2_ := A_ (below_step (hb2_ HB.out GE203.out GE204.out) hb)
          clear BK203;clear BK204;clear HB;have BK203 := n0_;have BK204 := n1_;have HB := n2_;clear n0_ n1_ n2_;(try clear hb);(try clear hb2);(try clear hk);(try clear hi)
          refine hK.out _ _ ⟨bc_ BK203.out 0, bc_ BK203.out 1, bc_ BK203.out 2, bc_ BK203.out 3, bc_ BK204.out 0, bc_ BK204.out 1, bc_ BK204.out 2, bc_ BK204.out 3⟩ (fun hHeld => ?_)
          clear hK K
          refine norm_ (a' := ?_) ?_ ?_
          rotate_left
          ·show Act.put _ (some 64) _ = _
           simp only [Act.put, lI_, l0_, lS_, i64_w, i32_w]
           rfl
          refine one_ (i := 12) (N := some 70) #[true, true, true, true, true, true, true, true, true, true, true, true, true, false] rfl rfl (one_of HT_.out (by kernel_rfl)) (by decide) (fun K hK => ?_)
          refine goes_ Try.func36 (by kernel_rfl) rfl #[.int .i64 a0, .bool (a1_0 != a2_0), .agg #[.int .u64 t208, .int .u64 t209], .int .i64 (wrap64 (a1_2 + a2_2)), .bool false] (by rfl) rfl rfl mp_ ?_
          with_reducible refine (round_Pack.calls a0 (a1_0 != a2_0) t208 t209 (wrap64 (a1_2 + a2_2)) false t210 _ A48.out).mono ?_
          rintro e w51 ⟨rfl, hb⟩
          refine ⟨_, rfl, ?_⟩
          have n0_ := A_ (bb_ BK203.out hb)
          have n1_ := A_ (bb_ BK204.out hb)
          have n2_ := A_ (below_step (hb2_ HB.out GE203.out GE204.out) hb)
          clear BK203;clear BK204;clear HB;have BK203 := n0_;have BK204 := n1_;have HB := n2_;clear n0_ n1_ n2_;(try clear hb);(try clear hb2);(try clear hk);(try clear hi)
          refine hK.out _ _ ⟨bc_ BK203.out 0, bc_ BK203.out 1, bc_ BK203.out 2, bc_ BK203.out 3, bc_ BK204.out 0, bc_ BK204.out 1, bc_ BK204.out 2, bc_ BK204.out 3⟩ (fun hHeld => ?_)
          clear hK K
          refine norm_ (a' := ?_) ?_ ?_
          rotate_left
          ·show Act.put _ (some 70) _ = _
           simp only [Act.put, lI_, l0_, lS_, i64_w, i32_w]
           rfl
          refine pu_ 13 (some 6) #[true, true, true, true, true, true, true, true, true, true, true, true, true, true] rfl rfl (any_of HT_.out (by kernel_rfl)) ?_
          refine done_ (done_of HT_.out (by kernel_rfl)) ?_
          try go_wp2
          go_ret
          exact ⟨er_, hb2_ HB.out GE203.out GE204.out⟩
def product_Mul.f (k : Nat) (a0 : Int) (a1 : Int) (a2 : Int) : Option (Int) := (product_known.f a0).bind fun t211 => (if t211 = true then ((shape_Open.f k a0 a1).bind fun bt212 => ((shape_Open.f k a0 a2).bind fun bt216 => ((product_parts.f k a0 bt212.1 bt212.2.1 bt212.2.2.1 bt212.2.2.2 bt216.1 bt216.2.1 bt216.2.2.1 bt216.2.2.2).bind fun t220 => (some t220)))) else (some 0))
theorem product_Mul.mono : ∀ a0 a1 a2 k, LeO (product_Mul.f k a0 a1 a2) (product_Mul.f (k + 1) a0 a1 a2) := by
 intro a0 a1 a2 k
 unfold product_Mul.f
 repeat' first
   | (with_reducible exact product_parts.mono _ _ _ _ _ _ _ _ _ _)
   | (with_reducible exact shape_Open.mono _ _ _)
   | (with_reducible exact LeO.refl _)
   | (with_reducible exact LeO.none _)
   | (with_reducible refine LeO.ite ?_ ?_)
   | (with_reducible refine LeO.bind ?_ (fun _ => ?_))
   | exact product_parts.mono _ _ _ _ _ _ _ _ _ _
   | exact shape_Open.mono _ _ _
   | exact LeO.none _
   | refine LeO.ite ?_ ?_
   | refine LeO.bind ?_ (fun _ => ?_)
theorem product_Mul.calls (k : Nat) (a0 : Int) (a1 : Int) (a2 : Int) (r : Int) (w : World) (h : product_Mul.f k a0 a1 a2 = some r) :
  Calls Try.prog 19 #[.int .i64 a0, .int .u64 a1, .int .u64 a2] w fun e w' => e = .returned (.int .u64 r) ∧ Below w.heap.size w w' := by
 have HB := A_ (Below.refl w.heap.size w)
 have H : ((product_known.f a0).bind fun t211 => (if t211 = true then ((shape_Open.f k a0 a1).bind fun bt212 => ((shape_Open.f k a0 a2).bind fun bt216 => ((product_parts.f k a0 bt212.1 bt212.2.1 bt212.2.2.1 bt212.2.2.2 bt216.1 bt216.2.1 bt216.2.2.1 bt216.2.2.2).bind fun t220 => (some t220)))) else (some 0))) = some r := h
 clear h
 replace H := ob_ H
 obtain ⟨t211, A40, H⟩ := H
 replace H : (if t211 = true then ((shape_Open.f k a0 a1).bind fun bt212 => ((shape_Open.f k a0 a2).bind fun bt216 => ((product_parts.f k a0 bt212.1 bt212.2.1 bt212.2.2.1 bt212.2.2.2 bt216.1 bt216.2.1 bt216.2.2.1 bt216.2.2.2).bind fun t220 => (some t220)))) else (some 0)) = some r := H
 have A4 := A_ A40;clear A40
 by_cases c5 : t211 = true
 ·subst c5
  have H1 : ((shape_Open.f k a0 a1).bind fun bt212 => ((shape_Open.f k a0 a2).bind fun bt216 => ((product_parts.f k a0 bt212.1 bt212.2.1 bt212.2.2.1 bt212.2.2.2 bt216.1 bt216.2.1 bt216.2.2.1 bt216.2.2.2).bind fun t220 => (some t220)))) = some r := by rw [if_pos rfl] at H; exact H
  clear H;have H := H1;clear H1
  replace H := ob_ H
  obtain ⟨⟨t212, t213, t214, t215⟩, A60, H⟩ := H
  replace H : ((shape_Open.f k a0 a2).bind fun bt216 => ((product_parts.f k a0 t212 t213 t214 t215 bt216.1 bt216.2.1 bt216.2.2.1 bt216.2.2.2).bind fun t220 => (some t220))) = some r := H
  have A6 := A_ A60;clear A60
  replace H := ob_ H
  obtain ⟨⟨t216, t217, t218, t219⟩, A70, H⟩ := H
  replace H : ((product_parts.f k a0 t212 t213 t214 t215 t216 t217 t218 t219).bind fun t220 => (some t220)) = some r := H
  have A7 := A_ A70;clear A70
  replace H := ob_ H
  obtain ⟨t220, A80, H⟩ := H
  replace H : (some t220) = some r := H
  have A8 := A_ A80;clear A80
  obtain rfl := Option.some.inj H
  go_enter Try.func19, Try.ntmps19
  go_wp2_with (first | ((with_reducible refine gate_callee (f := 53) rfl ?_); refine gl_ (some 8) Try.func53 #[.int .i64 a0] ?_; (with_reducible refine (product_known.calls a0 true _ A4.out).mono ?_); rintro e w' ⟨rfl, ⟨nd, rfl⟩⟩; refine ⟨_, rfl, ?_⟩) | ((with_reducible refine gate_callee (f := 31) rfl ?_); refine gl_ (some 13) Try.func31 #[.int .i64 a0, .int .u64 a1] ?_; (with_reducible refine (shape_Open.calls k a0 a1 t212 t213 t214 t215 _ A6.out).mono ?_); rintro e w9 ⟨rfl, hb⟩; refine ⟨_, rfl, ?_⟩; have n0_ := A_ (below_step (hb_ HB.out) hb); clear HB; have HB := n0_; clear n0_; (try clear hb); (try clear hb2); (try clear hk); (try clear hi)) | ((with_reducible refine gate_callee (f := 31) rfl ?_); refine gl_ (some 16) Try.func31 #[.int .i64 a0, .int .u64 a2] ?_; (with_reducible refine (shape_Open.calls k a0 a2 t216 t217 t218 t219 _ A7.out).mono ?_); rintro e w10 ⟨rfl, hb⟩; refine ⟨_, rfl, ?_⟩; have n0_ := A_ (below_step (hb_ HB.out) hb); clear HB; have HB := n0_; clear n0_; (try clear hb); (try clear hb2); (try clear hk); (try clear hi)) | ((with_reducible refine gate_callee (f := 54) rfl ?_); refine gl_ (some 17) Try.func54 #[.int .i64 a0, .agg #[.bool t212, .int .i64 t213, .int .i64 t214, .int .u64 t215], .agg #[.bool t216, .int .i64 t217, .int .i64 t218, .int .u64 t219]] ?_; (with_reducible refine (product_parts.calls k a0 t212 t213 t214 t215 t216 t217 t218 t219 t220 _ A8.out).mono ?_); rintro e w11 ⟨rfl, hb⟩; refine ⟨_, rfl, ?_⟩; have n0_ := A_ (below_step (hb_ HB.out) hb); clear HB; have HB := n0_; clear n0_; (try clear hb); (try clear hb2); (try clear hk); (try clear hi)))
  go_ret
  exact ⟨er_, hb_ HB.out⟩
 ·replace c5 := Bool.eq_false_iff.mpr c5
  subst c5
  have H1 : (some 0) = some r := by rw [if_neg (show ¬ (false = true) by decide)] at H; exact H
  clear H;have H := H1;clear H1
  obtain rfl := Option.some.inj H
  go_enter Try.func19, Try.ntmps19
  go_wp2_with (first | ((with_reducible refine gate_callee (f := 53) rfl ?_); refine gl_ (some 8) Try.func53 #[.int .i64 a0] ?_; (with_reducible refine (product_known.calls a0 false _ A4.out).mono ?_); rintro e w' ⟨rfl, ⟨nd, rfl⟩⟩; refine ⟨_, rfl, ?_⟩))
  go_ret
  exact ⟨er_, hb_ HB.out⟩
def round_Narrow.f (a0 : Int) (a1_0 : Bool) (a1_1 : Int) (a1_2 : Int) (a1_3 : Int) : Option (Int) := if a1_1 = 0 then ((shape_Zero.f a0 a1_0).bind fun t239 => (some t239)) else (if a1_1 = 1 then ((wide_Of.f a1_3).bind fun bt240 => ((round_Pack.f a0 a1_0 bt240.1 bt240.2 a1_2 false).bind fun t242 => (some t242))) else (if a1_1 = 2 then ((shape_Inf.f a0 a1_0).bind fun t243 => (some t243)) else (if a1_1 = 3 then ((shape_Nan.f a0).bind fun t244 => (some t244)) else (some 0))))
def round_Narrow.T5 : Bool × List (List Nat × List Nat) := (true, [([], []), ([], []), ([1], [1]), ([], []), ([3], [3]), ([4], [4]), ([], []), ([6], [6]), ([0, 2, 5, 7, 5], [0, 2, 5, 7]), ([8, 8, 0, 1, 2, 3, 4, 5, 6, 7, 8], [8])])
def round_Narrow.B5 : List Nat := [0, 0, 2, 0, 8, 24, 0, 64, 255, 511]
theorem round_Narrow.tab5 : rtab .any (opsOf Try.f40 5) = round_Narrow.T5 := by kernel_rfl
theorem round_Narrow.bits5 : waitsOk round_Narrow.T5.2 round_Narrow.B5 = true := by kernel_rfl
theorem round_Narrow.calls (a0 : Int) (a1_0 : Bool) (a1_1 : Int) (a1_2 : Int) (a1_3 : Int) (r : Int) (w : World) (h : round_Narrow.f a0 a1_0 a1_1 a1_2 a1_3 = some r) :
  Calls Try.prog 40 #[.int .i64 a0, .agg #[.bool a1_0, .int .i64 a1_1, .int .i64 a1_2, .int .u64 a1_3]] w fun e w' => e = .returned (.int .u64 r) ∧ Below w.heap.size w w' := by
 have hu38 := Try.underlying38
 have HB := A_ (Below.refl w.heap.size w)
 have H : (if a1_1 = 0 then ((shape_Zero.f a0 a1_0).bind fun t239 => (some t239)) else (if a1_1 = 1 then ((wide_Of.f a1_3).bind fun bt240 => ((round_Pack.f a0 a1_0 bt240.1 bt240.2 a1_2 false).bind fun t242 => (some t242))) else (if a1_1 = 2 then ((shape_Inf.f a0 a1_0).bind fun t243 => (some t243)) else (if a1_1 = 3 then ((shape_Nan.f a0).bind fun t244 => (some t244)) else (some 0))))) = some r := h
 clear h
 by_cases c3 : a1_1 = 0
 ·rw [if_pos c3] at H
  have c3b0 : (a1_1 == 0) = true := beq_iff_eq.mpr c3
  have c3b1 : (a1_1 != 0) = false := bne_eq_false_iff_eq.mpr c3
  clear c3
  replace H := ob_ H
  obtain ⟨t239, A40, H⟩ := H
  replace H : (some t239) = some r := H
  have A4 := A_ A40;clear A40
  obtain rfl := Option.some.inj H
  go_enter Try.func40, Try.ntmps40
  go_wp2_with (first | ((with_reducible refine gate_dst (N := 3) rfl ?_); refine be_ 3 #[.bool a1_0, .int .i64 a1_1, .int .i64 a1_2, .int .u64 a1_3] 38 ?_; intro gb238 hg w5 hbox hb; have n0_ := A_ (below_step (hb_ HB.out) hb); have n1_ := A_ (hbox); have n2_ := A_ (sz_ hg (hb_ HB.out)); have n3_ := A_ (sz_ hg (hb_ HB.out)); clear HB; have HB := n0_; have BK238 := n1_; have GW238 := n2_; have GE238 := n3_; clear n0_ n1_ n2_ n3_; clear hb hbox hg; have hcz6_0 : w5.cell? ⟨gb238, 0, none⟩ = some (.bool a1_0) := bc_ BK238.out 0; have hcz6_1 : w5.cell? ⟨gb238, 1, none⟩ = some (.int .i64 a1_1) := bc_ BK238.out 1; have hcz6_2 : w5.cell? ⟨gb238, 2, none⟩ = some (.int .i64 a1_2) := bc_ BK238.out 2; have hcz6_3 : w5.cell? ⟨gb238, 3, none⟩ = some (.int .u64 a1_3) := bc_ BK238.out 3; have hfz6_0 := blk_frozen BK238.out 0; have hfz6_1 := blk_frozen BK238.out 1; have hfz6_2 := blk_frozen BK238.out 2; have hfz6_3 := blk_frozen BK238.out 3) | ((with_reducible refine gate_callee (f := 30) rfl ?_); refine gl_ (some 12) Try.func30 #[.int .i64 a0, .bool a1_0] ?_; (with_reducible refine (shape_Zero.calls a0 a1_0 t239 _ A4.out).mono ?_); rintro e w7 ⟨rfl, hb⟩; refine ⟨_, rfl, ?_⟩; have n0_ := A_ (bb_ BK238.out hb); have n1_ := A_ (below_step (hb1_ HB.out GE238.out) hb); clear BK238; clear HB; have BK238 := n0_; have HB := n1_; clear n0_ n1_; (try clear hb); (try clear hb2); (try clear hk); (try clear hi)))
  go_ret
  exact ⟨er_, hb1_ HB.out GE238.out⟩
 ·rw [if_neg c3] at H
  have c3b0 : (a1_1 == 0) = false := beq_eq_false_iff_ne.mpr c3
  have c3b1 : (a1_1 != 0) = true := bne_iff_ne.mpr c3
  by_cases c8 : a1_1 = 1
  ·rw [if_pos c8] at H
   have c8b0 : (a1_1 == 1) = true := beq_iff_eq.mpr c8
   have c8b1 : (a1_1 != 1) = false := bne_eq_false_iff_eq.mpr c8
   clear c8
   replace H := ob_ H
   obtain ⟨⟨t240, t241⟩, A90, H⟩ := H
   replace H : ((round_Pack.f a0 a1_0 t240 t241 a1_2 false).bind fun t242 => (some t242)) = some r := H
   have A9 := A_ A90;clear A90
   replace H := ob_ H
   obtain ⟨t242, A100, H⟩ := H
   replace H : (some t242) = some r := H
   have A10 := A_ A100;clear A100
   obtain rfl := Option.some.inj H
   go_enter Try.func40, Try.ntmps40
   try go_wp2_with (first | ((with_reducible refine gate_dst (N := 3) rfl ?_); refine be_ 3 #[.bool a1_0, .int .i64 a1_1, .int .i64 a1_2, .int .u64 a1_3] 38 ?_; intro gb238 hg w11 hbox hb; have n0_ := A_ (below_step (hb_ HB.out) hb); have n1_ := A_ (hbox); have n2_ := A_ (sz_ hg (hb_ HB.out)); have n3_ := A_ (sz_ hg (hb_ HB.out)); clear HB; have HB := n0_; have BK238 := n1_; have GW238 := n2_; have GE238 := n3_; clear n0_ n1_ n2_ n3_; clear hb hbox hg; have hcz12_0 : w11.cell? ⟨gb238, 0, none⟩ = some (.bool a1_0) := bc_ BK238.out 0; have hcz12_1 : w11.cell? ⟨gb238, 1, none⟩ = some (.int .i64 a1_1) := bc_ BK238.out 1; have hcz12_2 : w11.cell? ⟨gb238, 2, none⟩ = some (.int .i64 a1_2) := bc_ BK238.out 2; have hcz12_3 : w11.cell? ⟨gb238, 3, none⟩ = some (.int .u64 a1_3) := bc_ BK238.out 3; have hfz12_0 := blk_frozen BK238.out 0; have hfz12_1 := blk_frozen BK238.out 1; have hfz12_2 := blk_frozen BK238.out 2; have hfz12_3 := blk_frozen BK238.out 3))
   have n0_ := A_ (blk_drew BK238.out)
   have n1_ := A_ (below_drew1 HB.out)
   clear BK238;clear HB;have BK238 := n0_;have HB := n1_;clear n0_ n1_
   refine start_ (n := 10) (S := fun w' => w'.cell? ⟨gb238, 0, none⟩ = some (.bool a1_0) ∧ w'.cell? ⟨gb238, 1, none⟩ = some (.int .i64 a1_1) ∧ w'.cell? ⟨gb238, 2, none⟩ = some (.int .i64 a1_2) ∧ w'.cell? ⟨gb238, 3, none⟩ = some (.int .u64 a1_3)) (ds := []) #[false, false, false, false, false, false, false, false, false, false] (by kernel_rfl) rfl rfl ⟨bc_ BK238.out 0, bc_ BK238.out 1, bc_ BK238.out 2, bc_ BK238.out 3⟩ (fun hHeld => ?_); refine with_tabW round_Narrow.tab5 round_Narrow.bits5 (fun HT_ HW_ => ?_)
   generalize w11.drew = w13 at BK238 HB hHeld ⊢
   refine pu_ 0 (some 15) #[true, false, false, false, false, false, false, false, false, false] rfl rfl (any_of HT_.out (by kernel_rfl)) ?_
   refine pu_ 1 (some 16) #[true, true, false, false, false, false, false, false, false, false] rfl rfl (any_of HT_.out (by kernel_rfl)) ?_
   refine pu_ 3 (some 18) #[true, true, false, true, false, false, false, false, false, false] rfl rfl (any_of HT_.out (by kernel_rfl)) ?_
   refine pu_ 6 (some 21) #[true, true, false, true, false, false, true, false, false, false] rfl rfl (any_of HT_.out (by kernel_rfl)) ?_
   refine tk4_ 2 (some 17) #[true, true, true, true, false, false, true, false, false, false] rfl rfl (take_ofW HT_.out HW_.out (by kernel_rfl)) hHeld ?_
   refine tk4_ 4 (some 19) #[true, true, true, true, true, false, true, false, false, false] rfl rfl (take_ofW HT_.out HW_.out (by kernel_rfl)) hHeld ?_
   refine tk4_ 7 (some 22) #[true, true, true, true, true, false, true, true, false, false] rfl rfl (take_ofW HT_.out HW_.out (by kernel_rfl)) hHeld ?_
   refine one_ (i := 5) (N := some 20) #[true, true, true, true, true, true, true, true, false, false] rfl rfl (one_of HT_.out (by kernel_rfl)) (by decide) (fun K hK => ?_)
   refine goes_ Try.func39 (by kernel_rfl) rfl #[.int .u64 a1_3] (by rfl) rfl rfl mp_ ?_
   with_reducible refine (wide_Of.calls a1_3 t240 t241 _ A9.out).mono ?_
   rintro e w14 ⟨rfl, hb⟩
   refine ⟨_, rfl, ?_⟩
   have n0_ := A_ (bb_ BK238.out hb)
   have n1_ := A_ (below_step (hb1_ HB.out GE238.out) hb)
   clear BK238;clear HB;have BK238 := n0_;have HB := n1_;clear n0_ n1_;(try clear hb);(try clear hb2);(try clear hk);(try clear hi)
   refine hK.out _ _ ⟨bc_ BK238.out 0, bc_ BK238.out 1, bc_ BK238.out 2, bc_ BK238.out 3⟩ (fun hHeld => ?_)
   clear hK K
   refine norm_ (a' := ?_) ?_ ?_
   rotate_left
   ·show Act.put _ (some 20) _ = _
    simp only [Act.put, lI_, l0_, lS_, i64_w, i32_w]
    rfl
   refine one_ (i := 8) (N := some 23) #[true, true, true, true, true, true, true, true, true, false] rfl rfl (one_of HT_.out (by kernel_rfl)) (by decide) (fun K hK => ?_)
   refine goes_ Try.func36 (by kernel_rfl) rfl #[.int .i64 a0, .bool a1_0, .agg #[.int .u64 t240, .int .u64 t241], .int .i64 a1_2, .bool false] (by rfl) rfl rfl mp_ ?_
   with_reducible refine (round_Pack.calls a0 a1_0 t240 t241 a1_2 false t242 _ A10.out).mono ?_
   rintro e w15 ⟨rfl, hb⟩
   refine ⟨_, rfl, ?_⟩
   have n0_ := A_ (bb_ BK238.out hb)
   have n1_ := A_ (below_step (hb1_ HB.out GE238.out) hb)
   clear BK238;clear HB;have BK238 := n0_;have HB := n1_;clear n0_ n1_;(try clear hb);(try clear hb2);(try clear hk);(try clear hi)
   refine hK.out _ _ ⟨bc_ BK238.out 0, bc_ BK238.out 1, bc_ BK238.out 2, bc_ BK238.out 3⟩ (fun hHeld => ?_)
   clear hK K
   refine norm_ (a' := ?_) ?_ ?_
   rotate_left
   ·show Act.put _ (some 23) _ = _
    simp only [Act.put, lI_, l0_, lS_, i64_w, i32_w]
    rfl
   refine pu_ 9 (some 4) #[true, true, true, true, true, true, true, true, true, true] rfl rfl (any_of HT_.out (by kernel_rfl)) ?_
   refine done_ (done_of HT_.out (by kernel_rfl)) ?_
   try go_wp2
   go_ret
   exact ⟨er_, hb1_ HB.out GE238.out⟩
  ·rw [if_neg c8] at H
   have c8b0 : (a1_1 == 1) = false := beq_eq_false_iff_ne.mpr c8
   have c8b1 : (a1_1 != 1) = true := bne_iff_ne.mpr c8
   by_cases c16 : a1_1 = 2
   ·rw [if_pos c16] at H
    have c16b0 : (a1_1 == 2) = true := beq_iff_eq.mpr c16
    have c16b1 : (a1_1 != 2) = false := bne_eq_false_iff_eq.mpr c16
    clear c16
    replace H := ob_ H
    obtain ⟨t243, A170, H⟩ := H
    replace H : (some t243) = some r := H
    have A17 := A_ A170;clear A170
    obtain rfl := Option.some.inj H
    go_enter Try.func40, Try.ntmps40
    go_wp2_with (first | ((with_reducible refine gate_dst (N := 3) rfl ?_); refine be_ 3 #[.bool a1_0, .int .i64 a1_1, .int .i64 a1_2, .int .u64 a1_3] 38 ?_; intro gb238 hg w18 hbox hb; have n0_ := A_ (below_step (hb_ HB.out) hb); have n1_ := A_ (hbox); have n2_ := A_ (sz_ hg (hb_ HB.out)); have n3_ := A_ (sz_ hg (hb_ HB.out)); clear HB; have HB := n0_; have BK238 := n1_; have GW238 := n2_; have GE238 := n3_; clear n0_ n1_ n2_ n3_; clear hb hbox hg; have hcz19_0 : w18.cell? ⟨gb238, 0, none⟩ = some (.bool a1_0) := bc_ BK238.out 0; have hcz19_1 : w18.cell? ⟨gb238, 1, none⟩ = some (.int .i64 a1_1) := bc_ BK238.out 1; have hcz19_2 : w18.cell? ⟨gb238, 2, none⟩ = some (.int .i64 a1_2) := bc_ BK238.out 2; have hcz19_3 : w18.cell? ⟨gb238, 3, none⟩ = some (.int .u64 a1_3) := bc_ BK238.out 3; have hfz19_0 := blk_frozen BK238.out 0; have hfz19_1 := blk_frozen BK238.out 1; have hfz19_2 := blk_frozen BK238.out 2; have hfz19_3 := blk_frozen BK238.out 3) | ((with_reducible refine gate_callee (f := 42) rfl ?_); refine gl_ (some 29) Try.func42 #[.int .i64 a0, .bool a1_0] ?_; (with_reducible refine (shape_Inf.calls a0 a1_0 t243 _ A17.out).mono ?_); rintro e w20 ⟨rfl, hb⟩; refine ⟨_, rfl, ?_⟩; have n0_ := A_ (bb_ BK238.out hb); have n1_ := A_ (below_step (hb1_ HB.out GE238.out) hb); clear BK238; clear HB; have BK238 := n0_; have HB := n1_; clear n0_ n1_; (try clear hb); (try clear hb2); (try clear hk); (try clear hi)))
    go_ret
    exact ⟨er_, hb1_ HB.out GE238.out⟩
   ·rw [if_neg c16] at H
    have c16b0 : (a1_1 == 2) = false := beq_eq_false_iff_ne.mpr c16
    have c16b1 : (a1_1 != 2) = true := bne_iff_ne.mpr c16
    by_cases c21 : a1_1 = 3
    ·rw [if_pos c21] at H
     have c21b0 : (a1_1 == 3) = true := beq_iff_eq.mpr c21
     have c21b1 : (a1_1 != 3) = false := bne_eq_false_iff_eq.mpr c21
     clear c21
     replace H := ob_ H
     obtain ⟨t244, A220, H⟩ := H
     replace H : (some t244) = some r := H
     have A22 := A_ A220;clear A220
     obtain rfl := Option.some.inj H
     go_enter Try.func40, Try.ntmps40
     go_wp2_with (first | ((with_reducible refine gate_dst (N := 3) rfl ?_); refine be_ 3 #[.bool a1_0, .int .i64 a1_1, .int .i64 a1_2, .int .u64 a1_3] 38 ?_; intro gb238 hg w23 hbox hb; have n0_ := A_ (below_step (hb_ HB.out) hb); have n1_ := A_ (hbox); have n2_ := A_ (sz_ hg (hb_ HB.out)); have n3_ := A_ (sz_ hg (hb_ HB.out)); clear HB; have HB := n0_; have BK238 := n1_; have GW238 := n2_; have GE238 := n3_; clear n0_ n1_ n2_ n3_; clear hb hbox hg; have hcz24_0 : w23.cell? ⟨gb238, 0, none⟩ = some (.bool a1_0) := bc_ BK238.out 0; have hcz24_1 : w23.cell? ⟨gb238, 1, none⟩ = some (.int .i64 a1_1) := bc_ BK238.out 1; have hcz24_2 : w23.cell? ⟨gb238, 2, none⟩ = some (.int .i64 a1_2) := bc_ BK238.out 2; have hcz24_3 : w23.cell? ⟨gb238, 3, none⟩ = some (.int .u64 a1_3) := bc_ BK238.out 3; have hfz24_0 := blk_frozen BK238.out 0; have hfz24_1 := blk_frozen BK238.out 1; have hfz24_2 := blk_frozen BK238.out 2; have hfz24_3 := blk_frozen BK238.out 3) | ((with_reducible refine gate_callee (f := 34) rfl ?_); refine gl_ (some 33) Try.func34 #[.int .i64 a0] ?_; (with_reducible refine (shape_Nan.calls a0 t244 _ A22.out).mono ?_); rintro e w25 ⟨rfl, hb⟩; refine ⟨_, rfl, ?_⟩; have n0_ := A_ (bb_ BK238.out hb); have n1_ := A_ (below_step (hb1_ HB.out GE238.out) hb); clear BK238; clear HB; have BK238 := n0_; have HB := n1_; clear n0_ n1_; (try clear hb); (try clear hb2); (try clear hk); (try clear hi)))
     go_ret
     exact ⟨er_, hb1_ HB.out GE238.out⟩
    ·rw [if_neg c21] at H
     have c21b0 : (a1_1 == 3) = false := beq_eq_false_iff_ne.mpr c21
     have c21b1 : (a1_1 != 3) = true := bne_iff_ne.mpr c21
     obtain rfl := Option.some.inj H
     go_enter Try.func40, Try.ntmps40
     go_wp2_with (first | ((with_reducible refine gate_dst (N := 3) rfl ?_); refine be_ 3 #[.bool a1_0, .int .i64 a1_1, .int .i64 a1_2, .int .u64 a1_3] 38 ?_; intro gb238 hg w26 hbox hb; have n0_ := A_ (below_step (hb_ HB.out) hb); have n1_ := A_ (hbox); have n2_ := A_ (sz_ hg (hb_ HB.out)); have n3_ := A_ (sz_ hg (hb_ HB.out)); clear HB; have HB := n0_; have BK238 := n1_; have GW238 := n2_; have GE238 := n3_; clear n0_ n1_ n2_ n3_; clear hb hbox hg; have hcz27_0 : w26.cell? ⟨gb238, 0, none⟩ = some (.bool a1_0) := bc_ BK238.out 0; have hcz27_1 : w26.cell? ⟨gb238, 1, none⟩ = some (.int .i64 a1_1) := bc_ BK238.out 1; have hcz27_2 : w26.cell? ⟨gb238, 2, none⟩ = some (.int .i64 a1_2) := bc_ BK238.out 2; have hcz27_3 : w26.cell? ⟨gb238, 3, none⟩ = some (.int .u64 a1_3) := bc_ BK238.out 3; have hfz27_0 := blk_frozen BK238.out 0; have hfz27_1 := blk_frozen BK238.out 1; have hfz27_2 := blk_frozen BK238.out 2; have hfz27_3 := blk_frozen BK238.out 3))
     go_ret
     exact ⟨er_, hb1_ HB.out GE238.out⟩
-- IMPORT Derived.Test.YtbpmnmceajmmcaaNr
def product_Scale.f (k : Nat) (a0 : Int) (a1 : Int) (a2 : Int) : Option (Int) := (product_known.f a0).bind fun t => if t = true then ((shape_Open.f k a0 a1).bind fun b => round_Narrow.f a0 b.1 b.2.1 (if b.2.1 = 1 then wrap64 (b.2.2.1 + (mn (mx a2 (-1048576)) 1048576)) else b.2.2.1) b.2.2.2) else some 0
theorem product_Scale.mono : ∀ a0 a1 a2 k, LeO (product_Scale.f k a0 a1 a2) (product_Scale.f (k + 1) a0 a1 a2) := by
 intro a0 a1 a2 k
 unfold product_Scale.f
 refine LeO.bind (LeO.refl _) fun t => ?_
 refine LeO.ite (LeO.bind (shape_Open.mono _ _ _) fun _ => LeO.refl _) (LeO.refl _)
theorem product_Scale.calls (k : Nat) (a0 : Int) (a1 : Int) (a2 : Int) (r : Int) (w : World) (h : product_Scale.f k a0 a1 a2 = some r) :
  Calls Try.prog 21 #[.int .i64 a0, .int .u64 a1, .int .i64 a2] w fun e w' => e = .returned (.int .u64 r) ∧ Below w.heap.size w w' := by
 have hu50 := Try.underlying38
 obtain ⟨t, A0, H⟩ := ob_ h
 have B0 := A_ A0;clear A0 h
 cases t
 ·rw [if_neg (by decide)] at H
  obtain rfl := Option.some.inj H
  clear H
  go_enter Try.func21, Try.ntmps21
  go_wp2_with (go_at_call 53; (with_reducible refine (product_known.calls a0 false _ B0.out).mono ?_); rintro e w1 ⟨rfl, hb⟩)
  go_ret
  exact ⟨rfl, hb.below⟩
 ·rw [if_pos rfl] at H
  obtain ⟨⟨s, kd, ex, g⟩, A1, H⟩ := ob_ H
  have B1 := A_ A1
  obtain ⟨n, hn⟩ : ∃ n, (mn (mx a2 (-1048576)) 1048576) = n := ⟨_, rfl⟩
  have N_ := A_ (show (if 1048576 < (if a2 < -1048576 then -1048576 else a2) then 1048576 else (if a2 < -1048576 then -1048576 else a2)) = n from hn)
  simp only [hn] at H
  clear A1 hn
  by_cases c : kd = 1
  ·rw [if_pos c] at H
   subst c
   have B2 := A_ H
   obtain ⟨m, hm⟩ : ∃ m, wrap64 (ex + n) = m := ⟨_, rfl⟩
   rw [hm] at B2
   have M_ := A_ hm;clear H hm
   go_enter Try.func21, Try.ntmps21
   go_wp2_with (first
    | (go_at_call 53; (with_reducible refine (product_known.calls a0 true _ B0.out).mono ?_); rintro e w1 ⟨rfl, hd⟩; have HB := A_ hd.below; clear hd)
    | (go_at_call 31; (with_reducible refine (shape_Open.calls k a0 a1 s 1 ex g _ B1.out).mono ?_); rintro e w2 ⟨rfl, hb⟩; replace HB := A_ (below_step HB.out hb); clear hb; have NN := N_.out; have MM := M_.out)
    | (go_at_call 40; (with_reducible refine (round_Narrow.calls a0 s 1 m g r _ B2.out).mono ?_); rintro e w3 ⟨rfl, hb⟩))
   all_goals (go_ret; exact ⟨rfl, below_step (below_alloc HB.out _) hb⟩)
  ·rw [if_neg c] at H
   have B2 := A_ H
   have c0 : (kd == 1) = false := beq_eq_false_iff_ne.mpr c
   clear H c N_
   go_enter Try.func21, Try.ntmps21
   go_wp2_with (first
    | (go_at_call 53; (with_reducible refine (product_known.calls a0 true _ B0.out).mono ?_); rintro e w1 ⟨rfl, hd⟩; have HB := A_ hd.below; clear hd)
    | (go_at_call 31; (with_reducible refine (shape_Open.calls k a0 a1 s kd ex g _ B1.out).mono ?_); rintro e w2 ⟨rfl, hb⟩; replace HB := A_ (below_step HB.out hb); clear hb)
    | (go_at_call 40; (with_reducible refine (round_Narrow.calls a0 s kd ex g r _ B2.out).mono ?_); rintro e w3 ⟨rfl, hb⟩))
   go_ret
   exact ⟨rfl, below_step (below_alloc HB.out _) hb⟩
def sum_known.f (a0 : Int) : Option (Bool) := if a0 = 32 then (some true) else (some (a0 == 64))
theorem sum_known.calls (a0 : Int) (r : Bool) (w : World) (h : sum_known.f a0 = some r) :
  Calls Try.prog 55 #[.int .i64 a0] w fun e w' => e = .returned (.bool r) ∧ Drawn0 w w' := by
 have H : (if a0 = 32 then (some true) else (some (a0 == 64))) = some r := h
 clear h
 by_cases c2 : a0 = 32
 ·rw [if_pos c2] at H
  have c2b0 : (a0 == 32) = true := beq_iff_eq.mpr c2
  have c2b1 : (a0 != 32) = false := bne_eq_false_iff_eq.mpr c2
  clear c2
  obtain rfl := Option.some.inj H
  go_enter Try.func55, Try.ntmps55
  go_wp2
  go_ret
  exact ⟨sm_, by repeat (first | exact Drawn0.refl _ | apply Drawn0.step)⟩
 ·rw [if_neg c2] at H
  have c2b0 : (a0 == 32) = false := beq_eq_false_iff_ne.mpr c2
  have c2b1 : (a0 != 32) = true := bne_iff_ne.mpr c2
  obtain rfl := Option.some.inj H
  go_enter Try.func55, Try.ntmps55
  go_wp2
  go_ret
  exact ⟨sm_, by repeat (first | exact Drawn0.refl _ | apply Drawn0.step)⟩
def sum_align.f (a0_0 : Bool) (a0_1 : Int) (a0_2 : Int) (a0_3 : Int) (a1_0 : Bool) (a1_1 : Int) (a1_2 : Int) (a1_3 : Int) : Option (Int × Int × Int × Int × Int × Bool) := (wide_Of.f a0_3).bind fun bt253 => ((wide_Left.f bt253.1 bt253.2 (mn (wrap64 (a0_2 - a1_2)) 64)).bind fun bt255 => ((wide_Of.f a1_3).bind fun bt258 => ((wide_Right.f bt258.1 bt258.2 (wrap64 ((wrap64 (a0_2 - a1_2)) - (mn (wrap64 (a0_2 - a1_2)) 64)))).bind fun bt260 => (some (bt255.1, bt255.2, bt260.1, bt260.2.1, wrap64 (a0_2 - (mn (wrap64 (a0_2 - a1_2)) 64)), bt260.2.2)))))
def sum_align.T3 : Bool × List (List Nat × List Nat) := (true, [([], []), ([0], [0]), ([1], [1]), ([], []), ([2, 3, 2], [2, 3]), ([], []), ([5], [5]), ([], []), ([6, 7], [6, 7]), ([4, 8], [4, 8]), ([], []), ([10, 9, 4, 0, 1, 2, 3, 4, 5, 6, 7, 8, 9, 10], [9, 10])])
def sum_align.B3 : List Nat := [0, 1, 3, 0, 15, 0, 32, 0, 224, 511, 0, 2047]
theorem sum_align.tab3 : rtab .any (opsOf Try.f108 3) = sum_align.T3 := by kernel_rfl
theorem sum_align.bits3 : waitsOk sum_align.T3.2 sum_align.B3 = true := by kernel_rfl
theorem sum_align.calls (a0_0 : Bool) (a0_1 : Int) (a0_2 : Int) (a0_3 : Int) (a1_0 : Bool) (a1_1 : Int) (a1_2 : Int) (a1_3 : Int) (r1 : Int) (r2 : Int) (r3 : Int) (r4 : Int) (r5 : Int) (r6 : Bool) (w : World) (h : sum_align.f a0_0 a0_1 a0_2 a0_3 a1_0 a1_1 a1_2 a1_3 = some (r1, r2, r3, r4, r5, r6)) :
  Calls Try.prog 108 #[.agg #[.bool a0_0, .int .i64 a0_1, .int .i64 a0_2, .int .u64 a0_3], .agg #[.bool a1_0, .int .i64 a1_1, .int .i64 a1_2, .int .u64 a1_3]] w fun e w' => e = .returned (.agg #[.int .u64 r1, .int .u64 r2, .int .u64 r3, .int .u64 r4, .int .i64 r5, .bool r6]) ∧ Below w.heap.size w w' := by
 have hu38 := Try.underlying38
 have hu122 := Try.underlying122
 have hu42 := Try.underlying42
 have HB := A_ (Below.refl w.heap.size w)
 have H : ((wide_Of.f a0_3).bind fun bt253 => ((wide_Left.f bt253.1 bt253.2 (mn (wrap64 (a0_2 - a1_2)) 64)).bind fun bt255 => ((wide_Of.f a1_3).bind fun bt258 => ((wide_Right.f bt258.1 bt258.2 (wrap64 ((wrap64 (a0_2 - a1_2)) - (mn (wrap64 (a0_2 - a1_2)) 64)))).bind fun bt260 => (some (bt255.1, bt255.2, bt260.1, bt260.2.1, wrap64 (a0_2 - (mn (wrap64 (a0_2 - a1_2)) 64)), bt260.2.2)))))) = some (r1, r2, r3, r4, r5, r6) := h
 clear h
 obtain ⟨ji3, hji3⟩ : ∃ j_ : Int, (mn (wrap64 (a0_2 - a1_2)) 64) = j_ := ⟨_, rfl⟩
 replace H : ((wide_Of.f a0_3).bind fun bt253 => ((wide_Left.f bt253.1 bt253.2 (ji3)).bind fun bt255 => ((wide_Of.f a1_3).bind fun bt258 => ((wide_Right.f bt258.1 bt258.2 (wrap64 ((wrap64 (a0_2 - a1_2)) - (ji3)))).bind fun bt260 => (some (bt255.1, bt255.2, bt260.1, bt260.2.1, wrap64 (a0_2 - (ji3)), bt260.2.2)))))) = some (r1, r2, r3, r4, r5, r6) := by first | (rw [hji3] at H; exact H) | (simp only [hji3] at H ⊢; exact H)
 (try (have hji3h : ji3 ≤ 64 := by (rw [← hji3]; unfold mn; (repeat' split) <;> omega)))
 (try (have hji3g : ji3 ≤ 64 := by omega))
 have hji3_ : (if 64 < (wrap64 (a0_2 - a1_2)) then 64 else (wrap64 (a0_2 - a1_2))) = ji3 := hji3
 replace H := ob_ H
 obtain ⟨⟨t253, t254⟩, A40, H⟩ := H
 replace H : ((wide_Left.f t253 t254 (ji3)).bind fun bt255 => ((wide_Of.f a1_3).bind fun bt258 => ((wide_Right.f bt258.1 bt258.2 (wrap64 ((wrap64 (a0_2 - a1_2)) - (ji3)))).bind fun bt260 => (some (bt255.1, bt255.2, bt260.1, bt260.2.1, wrap64 (a0_2 - (ji3)), bt260.2.2))))) = some (r1, r2, r3, r4, r5, r6) := H
 have A4 := A_ A40;clear A40
 replace H := ob_ H
 obtain ⟨⟨t255, t256⟩, A50, H⟩ := H
 replace H : ((wide_Of.f a1_3).bind fun bt258 => ((wide_Right.f bt258.1 bt258.2 (wrap64 ((wrap64 (a0_2 - a1_2)) - (ji3)))).bind fun bt260 => (some (t255, t256, bt260.1, bt260.2.1, wrap64 (a0_2 - (ji3)), bt260.2.2)))) = some (r1, r2, r3, r4, r5, r6) := H
 have A5 := A_ A50;clear A50
 replace H := ob_ H
 obtain ⟨⟨t258, t259⟩, A60, H⟩ := H
 replace H : ((wide_Right.f t258 t259 (wrap64 ((wrap64 (a0_2 - a1_2)) - (ji3)))).bind fun bt260 => (some (t255, t256, bt260.1, bt260.2.1, wrap64 (a0_2 - (ji3)), bt260.2.2))) = some (r1, r2, r3, r4, r5, r6) := H
 have A6 := A_ A60;clear A60
 replace H := ob_ H
 obtain ⟨⟨t260, t261, t262⟩, A70, H⟩ := H
 replace H : (some (t255, t256, t260, t261, wrap64 (a0_2 - (ji3)), t262)) = some (r1, r2, r3, r4, r5, r6) := H
 have A7 := A_ A70;clear A70
 simp only [Option.some.injEq, Prod.mk.injEq] at H
 obtain ⟨rfl, rfl, rfl, rfl, rfl, rfl⟩ := H
 go_enter Try.func108, Try.ntmps108
 try go_wp2_with (first | ((with_reducible refine gate_dst (N := 2) rfl ?_); refine be_ 2 #[.bool a0_0, .int .i64 a0_1, .int .i64 a0_2, .int .u64 a0_3] 38 ?_; intro gb250 hg w8 hbox hb; have n0_ := A_ (below_step (hb_ HB.out) hb); have n1_ := A_ (hbox); have n2_ := A_ (sz_ hg (hb_ HB.out)); have n3_ := A_ (sz_ hg (hb_ HB.out)); clear HB; have HB := n0_; have BK250 := n1_; have GW250 := n2_; have GE250 := n3_; clear n0_ n1_ n2_ n3_; clear hb hbox hg) | ((with_reducible refine gate_dst (N := 3) rfl ?_); refine be_ 3 #[.bool a1_0, .int .i64 a1_1, .int .i64 a1_2, .int .u64 a1_3] 38 ?_; intro gb251 hg w9 hbox hb; have n0_ := A_ (bb_ BK250.out hb); have n1_ := A_ (below_step (hb1_ HB.out GE250.out) hb); have n2_ := A_ (hbox); have n3_ := A_ (sz_ hg (hb1_ HB.out GE250.out)); have n4_ := A_ (sz_ hg (hb1_ HB.out GE250.out)); have n5_ := A_ (nl_ hg BK250.out); have n6_ := A_ (ng_ hg BK250.out); clear BK250; clear HB; have BK250 := n0_; have HB := n1_; have BK251 := n2_; have GW251 := n3_; have GE251 := n4_; have NB250_251 := n5_; have NB251_250 := n6_; clear n0_ n1_ n2_ n3_ n4_ n5_ n6_; clear hb hbox hg) | ((with_reducible refine gate_dst (N := 4) rfl ?_); refine be_ 4 #[.int .u64 0, .int .u64 0, .int .u64 0, .int .u64 0, .int .i64 0, .bool false] 122 ?_; intro gb252 hg w10 hbox hb; have n0_ := A_ (bb_ BK250.out hb); have n1_ := A_ (bb_ BK251.out hb); have n2_ := A_ (below_step (hb2_ HB.out GE250.out GE251.out) hb); have n3_ := A_ (hbox); have n4_ := A_ (sz_ hg (hb2_ HB.out GE250.out GE251.out)); have n5_ := A_ (sz_ hg (hb2_ HB.out GE250.out GE251.out)); have n6_ := A_ (nl_ hg BK250.out); have n7_ := A_ (ng_ hg BK250.out); have n8_ := A_ (nl_ hg BK251.out); have n9_ := A_ (ng_ hg BK251.out); clear BK250; clear BK251; clear HB; have BK250 := n0_; have BK251 := n1_; have HB := n2_; have BK252 := n3_; have GW252 := n4_; have GE252 := n5_; have NB250_252 := n6_; have NB252_250 := n7_; have NB251_252 := n8_; have NB252_251 := n9_; clear n0_ n1_ n2_ n3_ n4_ n5_ n6_ n7_ n8_ n9_; clear hb hbox hg; have hnb11 := NB250_251.out; have hnc11 := NB251_250.out; have hnb12 := NB250_252.out; have hnc12 := NB252_250.out; have hcz13_0 : w10.cell? ⟨gb250, 0, none⟩ = some (.bool a0_0) := bc_ BK250.out 0; have hcz13_1 : w10.cell? ⟨gb250, 1, none⟩ = some (.int .i64 a0_1) := bc_ BK250.out 1; have hcz13_2 : w10.cell? ⟨gb250, 2, none⟩ = some (.int .i64 a0_2) := bc_ BK250.out 2; have hcz13_3 : w10.cell? ⟨gb250, 3, none⟩ = some (.int .u64 a0_3) := bc_ BK250.out 3; have hfz13_0 := blk_frozen BK250.out 0; have hfz13_1 := blk_frozen BK250.out 1; have hfz13_2 := blk_frozen BK250.out 2; have hfz13_3 := blk_frozen BK250.out 3; have hnb14 := NB251_252.out; have hnc14 := NB252_251.out; have hcz15_0 : w10.cell? ⟨gb251, 0, none⟩ = some (.bool a1_0) := bc_ BK251.out 0; have hcz15_1 : w10.cell? ⟨gb251, 1, none⟩ = some (.int .i64 a1_1) := bc_ BK251.out 1; have hcz15_2 : w10.cell? ⟨gb251, 2, none⟩ = some (.int .i64 a1_2) := bc_ BK251.out 2; have hcz15_3 : w10.cell? ⟨gb251, 3, none⟩ = some (.int .u64 a1_3) := bc_ BK251.out 3; have hfz15_0 := blk_frozen BK251.out 0; have hfz15_1 := blk_frozen BK251.out 1; have hfz15_2 := blk_frozen BK251.out 2; have hfz15_3 := blk_frozen BK251.out 3))
 have n0_ := A_ (blk_drew BK250.out)
 have n1_ := A_ (blk_drew BK251.out)
 have n2_ := A_ (blk_drew BK252.out)
 have n3_ := A_ (below_drew1 HB.out)
 clear BK250;clear BK251;clear BK252;clear HB;have BK250 := n0_;have BK251 := n1_;have BK252 := n2_;have HB := n3_;clear n0_ n1_ n2_ n3_
 refine start_ (n := 12) (S := fun w' => w'.cell? ⟨gb250, 0, none⟩ = some (.bool a0_0) ∧ w'.cell? ⟨gb250, 1, none⟩ = some (.int .i64 a0_1) ∧ w'.cell? ⟨gb250, 2, none⟩ = some (.int .i64 a0_2) ∧ w'.cell? ⟨gb250, 3, none⟩ = some (.int .u64 a0_3)) (ds := []) #[false, false, false, false, false, false, false, false, false, false, false, false] (by kernel_rfl) rfl rfl ⟨bc_ BK250.out 0, bc_ BK250.out 1, bc_ BK250.out 2, bc_ BK250.out 3⟩ (fun hHeld => ?_); refine with_tabW sum_align.tab3 sum_align.bits3 (fun HT_ HW_ => ?_)
 generalize w10.drew = w16 at BK250 BK251 BK252 HB hHeld ⊢
 refine pu_ 0 (some 15) #[true, false, false, false, false, false, false, false, false, false, false, false] rfl rfl (any_of HT_.out (by kernel_rfl)) ?_
 refine pu_ 3 (some 18) #[true, false, false, true, false, false, false, false, false, false, false, false] rfl rfl (any_of HT_.out (by kernel_rfl)) ?_
 refine pu_ 5 (some 20) #[true, false, false, true, false, true, false, false, false, false, false, false] rfl rfl (any_of HT_.out (by kernel_rfl)) ?_
 refine pu_ 7 (some 22) #[true, false, false, true, false, true, false, true, false, false, false, false] rfl rfl (any_of HT_.out (by kernel_rfl)) ?_
 refine tk4_ 1 (some 16) #[true, true, false, true, false, true, false, true, false, false, false, false] rfl rfl (take_ofW HT_.out HW_.out (by kernel_rfl)) hHeld ?_
 refine tk4_ 6 (some 21) #[true, true, false, true, false, true, true, true, false, false, false, false] rfl rfl (take_ofW HT_.out HW_.out (by kernel_rfl)) hHeld ?_
 refine pu_ 8 (some 23) #[true, true, false, true, false, true, true, true, true, false, false, false] rfl rfl (any_of HT_.out (by kernel_rfl)) ?_
 refine join_ (σ := Nat) 1 #[true, true, true, true, true, true, true, true, true, true, true, false] (fun s_ => [(17, .agg #[.int .u64 t253, .int .u64 t254]), (19, .agg #[.int .u64 t255, .int .u64 t256]), (7, .pointer (some ⟨s_, 0, none⟩)), (24, .agg #[.int .u64 t255, .int .u64 t256, .int .u64 0, .int .u64 0, .int .i64 (wrap64 (a0_2 - (ji3))), .bool false])]) (fun s_ w' => (w'.cell? ⟨gb250, 0, none⟩ = some (.bool a0_0) ∧ w'.cell? ⟨gb250, 1, none⟩ = some (.int .i64 a0_1) ∧ w'.cell? ⟨gb250, 2, none⟩ = some (.int .i64 a0_2) ∧ w'.cell? ⟨gb250, 3, none⟩ = some (.int .u64 a0_3)) ∧ (w'.heap[gb250]? = some (.cells #[.bool a0_0, .int .i64 a0_1, .int .i64 a0_2, .int .u64 a0_3] 38 (0, 0))) ∧ (w'.heap[gb251]? = some (.cells #[.bool a1_0, .int .i64 a1_1, .int .i64 a1_2, .int .u64 a1_3] 38 (0, 0))) ∧ (w'.heap[gb252]? = some (.cells #[.int .u64 0, .int .u64 0, .int .u64 0, .int .u64 0, .int .i64 0, .bool false] 122 (0, 0))) ∧ (w'.heap[s_]? = some (.cells #[.int .u64 0, .int .u64 0, .int .u64 0, .int .u64 0, .int .i64 0, .bool false] 122 (0, 0))) ∧ (w.heap.size ≤ s_) ∧ (w.heap.size ≤ s_) ∧ (gb250 ≠ s_) ∧ (s_ ≠ gb250) ∧ (gb251 ≠ s_) ∧ (s_ ≠ gb251) ∧ (gb252 ≠ s_) ∧ (s_ ≠ gb252) ∧ (Below w.heap.size w w')) ?_ ?_
 rotate_left
 ·intro hCont
  refine two_ (i := 2) (j := 10) (Ni := some 17) (Nj := some 7) #[true, true, true, true, false, true, true, true, true, false, false, false] #[true, true, false, true, false, true, true, true, true, false, true, false] rfl rfl rfl rfl (two_of HT_.out (by kernel_rfl)) (by decide) (by decide) (fun K hK => ?_) (fun K hK => ?_)
  ·skip
   refine goes_ Try.func39 (by kernel_rfl) rfl #[.int .u64 a0_3] (by rfl) rfl rfl mp_ ?_
   with_reducible refine (wide_Of.calls a0_3 t253 t254 _ A4.out).mono ?_
   rintro e w17 ⟨rfl, hb⟩
   refine ⟨_, rfl, ?_⟩
   have n0_ := A_ (bb_ BK250.out hb)
   have n1_ := A_ (bb_ BK251.out hb)
   have n2_ := A_ (bb_ BK252.out hb)
   have n3_ := A_ (below_step (hb3_ HB.out GE250.out GE251.out GE252.out) hb)
   clear BK250;clear BK251;clear BK252;clear HB;have BK250 := n0_;have BK251 := n1_;have BK252 := n2_;have HB := n3_;clear n0_ n1_ n2_ n3_;(try clear hb);(try clear hb2);(try clear hk);(try clear hi)
   refine hK.out _ _ ⟨bc_ BK250.out 0, bc_ BK250.out 1, bc_ BK250.out 2, bc_ BK250.out 3⟩ (fun hHeld => ?_)
   clear hK K
   refine norm_ (a' := ?_) ?_ ?_
   rotate_left
   ·show Act.put _ (some 17) _ = _
    simp only [Act.put, lI_, l0_, lS_, i64_w, i32_w]
    rfl
   refine two_ (i := 4) (j := 10) (Ni := some 19) (Nj := some 7) #[true, true, true, true, true, true, true, true, true, false, false, false] #[true, true, true, true, false, true, true, true, true, false, true, false] rfl rfl rfl rfl (two_of HT_.out (by kernel_rfl)) (by decide) (by decide) (fun K hK => ?_) (fun K hK => ?_)
   ·skip
    refine goes_ Try.func41 (by kernel_rfl) rfl #[.agg #[.int .u64 t253, .int .u64 t254], .int .i64 ji3] (by rfl) rfl rfl (by (try simp only [List.map_toArray, List.map_cons, List.map_nil]); first | done | (simp only [hji3]; rfl) | rfl | (simp only [List.length_drop, List.length_take]; rfl)) ?_
    with_reducible refine (wide_Left.calls t253 t254 ji3 t255 t256 _ A5.out).mono ?_
    rintro e w18 ⟨rfl, hb⟩
    refine ⟨_, rfl, ?_⟩
    have n0_ := A_ (bb_ BK250.out hb)
    have n1_ := A_ (bb_ BK251.out hb)
    have n2_ := A_ (bb_ BK252.out hb)
    have n3_ := A_ (below_step (hb3_ HB.out GE250.out GE251.out GE252.out) hb)
    clear BK250;clear BK251;clear BK252;clear HB;have BK250 := n0_;have BK251 := n1_;have BK252 := n2_;have HB := n3_;clear n0_ n1_ n2_ n3_;(try clear hb);(try clear hb2);(try clear hk);(try clear hi)
    refine hK.out _ _ ⟨bc_ BK250.out 0, bc_ BK250.out 1, bc_ BK250.out 2, bc_ BK250.out 3⟩ (fun hHeld => ?_)
    clear hK K
    refine norm_ (a' := ?_) ?_ ?_
    rotate_left
    ·show Act.put _ (some 19) _ = _
     simp only [Act.put, lI_, l0_, lS_, i64_w, i32_w]
     rfl
    refine pu_ 9 (some 24) #[true, true, true, true, true, true, true, true, true, true, false, false] rfl rfl (any_of HT_.out (by kernel_rfl)) ?_
    refine one_ (i := 10) (N := some 7) #[true, true, true, true, true, true, true, true, true, true, true, false] rfl rfl (one_of HT_.out (by kernel_rfl)) (by decide) (fun K hK => ?_)
    refine box_step ?hg (N := 7) ?hd (cs := #[.int .u64 0, .int .u64 0, .int .u64 0, .int .u64 0, .int .i64 0, .bool false]) (t := 122) ?hr ?_; (case hd => rfl); (case hg => rfl); (case hr => first | (go_simp; done) | (go_simp; rfl))
    intro gb257 hg w19 hbox hb
    have n0_ := A_ (bb_ BK250.out hb)
    have n1_ := A_ (bb_ BK251.out hb)
    have n2_ := A_ (bb_ BK252.out hb)
    have n3_ := A_ (below_step (hb3_ HB.out GE250.out GE251.out GE252.out) hb)
    have n4_ := A_ (hbox)
    have n5_ := A_ (sz_ hg (hb3_ HB.out GE250.out GE251.out GE252.out))
    have n6_ := A_ (sz_ hg (hb3_ HB.out GE250.out GE251.out GE252.out))
    have n7_ := A_ (nl_ hg BK250.out)
    have n8_ := A_ (ng_ hg BK250.out)
    have n9_ := A_ (nl_ hg BK251.out)
    have n10_ := A_ (ng_ hg BK251.out)
    have n11_ := A_ (nl_ hg BK252.out)
    have n12_ := A_ (ng_ hg BK252.out)
    clear BK250;clear BK251;clear BK252;clear HB;have BK250 := n0_;have BK251 := n1_;have BK252 := n2_;have HB := n3_;have BK257 := n4_;have GW257 := n5_;have GE257 := n6_;have NB250_257 := n7_;have NB257_250 := n8_;have NB251_257 := n9_;have NB257_251 := n10_;have NB252_257 := n11_;have NB257_252 := n12_;clear n0_ n1_ n2_ n3_ n4_ n5_ n6_ n7_ n8_ n9_ n10_ n11_ n12_;clear hb hbox hg
    refine hK.out _ _ ⟨bc_ BK250.out 0, bc_ BK250.out 1, bc_ BK250.out 2, bc_ BK250.out 3⟩ (fun hHeld => ?_)
    clear hK K
    refine norm_ (a' := ?_) ?_ ?_
    rotate_left
    ·show Act.put _ (some 7) _ = _
     simp only [Act.put, lI_, l0_, lS_, i64_w, i32_w]
     rfl
    exact norm_ (by simp only [putAll, Act.put, lI_, l0_, lS_]) (hCont (gb257) _ ⟨hHeld, (bk_ BK250.out), (bk_ BK251.out), (bk_ BK252.out), (bk_ BK257.out), GW257.out, GE257.out, NB250_257.out, NB257_250.out, NB251_257.out, NB257_251.out, NB252_257.out, NB257_252.out, (hb4_ HB.out GE250.out GE251.out GE252.out GE257.out)⟩)
   ·skip
    refine box_step ?hg (N := 7) ?hd (cs := #[.int .u64 0, .int .u64 0, .int .u64 0, .int .u64 0, .int .i64 0, .bool false]) (t := 122) ?hr ?_; (case hd => rfl); (case hg => rfl); (case hr => first | (go_simp; done) | (go_simp; rfl))
    intro gb257 hg w18 hbox hb
    have n0_ := A_ (bb_ BK250.out hb)
    have n1_ := A_ (bb_ BK251.out hb)
    have n2_ := A_ (bb_ BK252.out hb)
    have n3_ := A_ (below_step (hb3_ HB.out GE250.out GE251.out GE252.out) hb)
    have n4_ := A_ (hbox)
    have n5_ := A_ (sz_ hg (hb3_ HB.out GE250.out GE251.out GE252.out))
    have n6_ := A_ (sz_ hg (hb3_ HB.out GE250.out GE251.out GE252.out))
    have n7_ := A_ (nl_ hg BK250.out)
    have n8_ := A_ (ng_ hg BK250.out)
    have n9_ := A_ (nl_ hg BK251.out)
    have n10_ := A_ (ng_ hg BK251.out)
    have n11_ := A_ (nl_ hg BK252.out)
    have n12_ := A_ (ng_ hg BK252.out)
    clear BK250;clear BK251;clear BK252;clear HB;have BK250 := n0_;have BK251 := n1_;have BK252 := n2_;have HB := n3_;have BK257 := n4_;have GW257 := n5_;have GE257 := n6_;have NB250_257 := n7_;have NB257_250 := n8_;have NB251_257 := n9_;have NB257_251 := n10_;have NB252_257 := n11_;have NB257_252 := n12_;clear n0_ n1_ n2_ n3_ n4_ n5_ n6_ n7_ n8_ n9_ n10_ n11_ n12_;clear hb hbox hg
    refine hK.out _ _ ⟨bc_ BK250.out 0, bc_ BK250.out 1, bc_ BK250.out 2, bc_ BK250.out 3⟩ (fun hHeld => ?_)
    clear hK K
    refine norm_ (a' := ?_) ?_ ?_
    rotate_left
    ·show Act.put _ (some 7) _ = _
     simp only [Act.put, lI_, l0_, lS_, i64_w, i32_w]
     rfl
    refine one_ (i := 4) (N := some 19) #[true, true, true, true, true, true, true, true, true, false, true, false] rfl rfl (one_of HT_.out (by kernel_rfl)) (by decide) (fun K hK => ?_)
    refine goes_ Try.func41 (by kernel_rfl) rfl #[.agg #[.int .u64 t253, .int .u64 t254], .int .i64 ji3] (by rfl) rfl rfl (by (try simp only [List.map_toArray, List.map_cons, List.map_nil]); first | done | (simp only [hji3]; rfl) | rfl | (simp only [List.length_drop, List.length_take]; rfl)) ?_
    with_reducible refine (wide_Left.calls t253 t254 ji3 t255 t256 _ A5.out).mono ?_
    rintro e w19 ⟨rfl, hb⟩
    refine ⟨_, rfl, ?_⟩
    have n0_ := A_ (bb_ BK250.out hb)
    have n1_ := A_ (bb_ BK251.out hb)
    have n2_ := A_ (bb_ BK252.out hb)
    have n3_ := A_ (bb_ BK257.out hb)
    have n4_ := A_ (below_step (hb4_ HB.out GE250.out GE251.out GE252.out GE257.out) hb)
    clear BK250;clear BK251;clear BK252;clear BK257;clear HB;have BK250 := n0_;have BK251 := n1_;have BK252 := n2_;have BK257 := n3_;have HB := n4_;clear n0_ n1_ n2_ n3_ n4_;(try clear hb);(try clear hb2);(try clear hk);(try clear hi)
    refine hK.out _ _ ⟨bc_ BK250.out 0, bc_ BK250.out 1, bc_ BK250.out 2, bc_ BK250.out 3⟩ (fun hHeld => ?_)
    clear hK K
    refine norm_ (a' := ?_) ?_ ?_
    rotate_left
    ·show Act.put _ (some 19) _ = _
     simp only [Act.put, lI_, l0_, lS_, i64_w, i32_w]
     rfl
    refine pu_ 9 (some 24) #[true, true, true, true, true, true, true, true, true, true, true, false] rfl rfl (any_of HT_.out (by kernel_rfl)) ?_
    exact norm_ (by simp only [putAll, Act.put, lI_, l0_, lS_]) (hCont (gb257) _ ⟨hHeld, (bk_ BK250.out), (bk_ BK251.out), (bk_ BK252.out), (bk_ BK257.out), GW257.out, GE257.out, NB250_257.out, NB257_250.out, NB251_257.out, NB257_251.out, NB252_257.out, NB257_252.out, (hb4_ HB.out GE250.out GE251.out GE252.out GE257.out)⟩)
  ·skip
   refine box_step ?hg (N := 7) ?hd (cs := #[.int .u64 0, .int .u64 0, .int .u64 0, .int .u64 0, .int .i64 0, .bool false]) (t := 122) ?hr ?_; (case hd => rfl); (case hg => rfl); (case hr => first | (go_simp; done) | (go_simp; rfl))
   intro gb257 hg w17 hbox hb
   have n0_ := A_ (bb_ BK250.out hb)
   have n1_ := A_ (bb_ BK251.out hb)
   have n2_ := A_ (bb_ BK252.out hb)
   have n3_ := A_ (below_step (hb3_ HB.out GE250.out GE251.out GE252.out) hb)
   have n4_ := A_ (hbox)
   have n5_ := A_ (sz_ hg (hb3_ HB.out GE250.out GE251.out GE252.out))
   have n6_ := A_ (sz_ hg (hb3_ HB.out GE250.out GE251.out GE252.out))
   have n7_ := A_ (nl_ hg BK250.out)
   have n8_ := A_ (ng_ hg BK250.out)
   have n9_ := A_ (nl_ hg BK251.out)
   have n10_ := A_ (ng_ hg BK251.out)
   have n11_ := A_ (nl_ hg BK252.out)
   have n12_ := A_ (ng_ hg BK252.out)
   clear BK250;clear BK251;clear BK252;clear HB;have BK250 := n0_;have BK251 := n1_;have BK252 := n2_;have HB := n3_;have BK257 := n4_;have GW257 := n5_;have GE257 := n6_;have NB250_257 := n7_;have NB257_250 := n8_;have NB251_257 := n9_;have NB257_251 := n10_;have NB252_257 := n11_;have NB257_252 := n12_;clear n0_ n1_ n2_ n3_ n4_ n5_ n6_ n7_ n8_ n9_ n10_ n11_ n12_;clear hb hbox hg
   refine hK.out _ _ ⟨bc_ BK250.out 0, bc_ BK250.out 1, bc_ BK250.out 2, bc_ BK250.out 3⟩ (fun hHeld => ?_)
   clear hK K
   refine norm_ (a' := ?_) ?_ ?_
   rotate_left
   ·show Act.put _ (some 7) _ = _
    simp only [Act.put, lI_, l0_, lS_, i64_w, i32_w]
    rfl
   refine one_ (i := 2) (N := some 17) #[true, true, true, true, false, true, true, true, true, false, true, false] rfl rfl (one_of HT_.out (by kernel_rfl)) (by decide) (fun K hK => ?_)
   refine goes_ Try.func39 (by kernel_rfl) rfl #[.int .u64 a0_3] (by rfl) rfl rfl mp_ ?_
   with_reducible refine (wide_Of.calls a0_3 t253 t254 _ A4.out).mono ?_
   rintro e w18 ⟨rfl, hb⟩
   refine ⟨_, rfl, ?_⟩
   have n0_ := A_ (bb_ BK250.out hb)
   have n1_ := A_ (bb_ BK251.out hb)
   have n2_ := A_ (bb_ BK252.out hb)
   have n3_ := A_ (bb_ BK257.out hb)
   have n4_ := A_ (below_step (hb4_ HB.out GE250.out GE251.out GE252.out GE257.out) hb)
   clear BK250;clear BK251;clear BK252;clear BK257;clear HB;have BK250 := n0_;have BK251 := n1_;have BK252 := n2_;have BK257 := n3_;have HB := n4_;clear n0_ n1_ n2_ n3_ n4_;(try clear hb);(try clear hb2);(try clear hk);(try clear hi)
   refine hK.out _ _ ⟨bc_ BK250.out 0, bc_ BK250.out 1, bc_ BK250.out 2, bc_ BK250.out 3⟩ (fun hHeld => ?_)
   clear hK K
   refine norm_ (a' := ?_) ?_ ?_
   rotate_left
   ·show Act.put _ (some 17) _ = _
    simp only [Act.put, lI_, l0_, lS_, i64_w, i32_w]
    rfl
   refine one_ (i := 4) (N := some 19) #[true, true, true, true, true, true, true, true, true, false, true, false] rfl rfl (one_of HT_.out (by kernel_rfl)) (by decide) (fun K hK => ?_)
   refine goes_ Try.func41 (by kernel_rfl) rfl #[.agg #[.int .u64 t253, .int .u64 t254], .int .i64 ji3] (by rfl) rfl rfl (by (try simp only [List.map_toArray, List.map_cons, List.map_nil]); first | done | (simp only [hji3]; rfl) | rfl | (simp only [List.length_drop, List.length_take]; rfl)) ?_
   with_reducible refine (wide_Left.calls t253 t254 ji3 t255 t256 _ A5.out).mono ?_
   rintro e w19 ⟨rfl, hb⟩
   refine ⟨_, rfl, ?_⟩
   have n0_ := A_ (bb_ BK250.out hb)
   have n1_ := A_ (bb_ BK251.out hb)
   have n2_ := A_ (bb_ BK252.out hb)
   have n3_ := A_ (bb_ BK257.out hb)
   have n4_ := A_ (below_step (hb4_ HB.out GE250.out GE251.out GE252.out GE257.out) hb)
   clear BK250;clear BK251;clear BK252;clear BK257;clear HB;have BK250 := n0_;have BK251 := n1_;have BK252 := n2_;have BK257 := n3_;have HB := n4_;clear n0_ n1_ n2_ n3_ n4_;(try clear hb);(try clear hb2);(try clear hk);(try clear hi)
   refine hK.out _ _ ⟨bc_ BK250.out 0, bc_ BK250.out 1, bc_ BK250.out 2, bc_ BK250.out 3⟩ (fun hHeld => ?_)
   clear hK K
   refine norm_ (a' := ?_) ?_ ?_
   rotate_left
   ·show Act.put _ (some 19) _ = _
    simp only [Act.put, lI_, l0_, lS_, i64_w, i32_w]
    rfl
   refine pu_ 9 (some 24) #[true, true, true, true, true, true, true, true, true, true, true, false] rfl rfl (any_of HT_.out (by kernel_rfl)) ?_
   exact norm_ (by simp only [putAll, Act.put, lI_, l0_, lS_]) (hCont (gb257) _ ⟨hHeld, (bk_ BK250.out), (bk_ BK251.out), (bk_ BK252.out), (bk_ BK257.out), GW257.out, GE257.out, NB250_257.out, NB257_250.out, NB251_257.out, NB257_251.out, NB252_257.out, NB257_252.out, (hb4_ HB.out GE250.out GE251.out GE252.out GE257.out)⟩)
 rintro gb257 w20 ⟨hS_, h0_, h1_, h2_, h3_, h4_, h5_, h6_, h7_, h8_, h9_, h10_, h11_, h12_⟩
 have n0_ : Aside0 (w20.heap[gb250]? = some (.cells #[.bool a0_0, .int .i64 a0_1, .int .i64 a0_2, .int .u64 a0_3] 38 (0, 0))) := ⟨h0_⟩
 have n1_ : Aside0 (w20.heap[gb251]? = some (.cells #[.bool a1_0, .int .i64 a1_1, .int .i64 a1_2, .int .u64 a1_3] 38 (0, 0))) := ⟨h1_⟩
 have n2_ : Aside0 (w20.heap[gb252]? = some (.cells #[.int .u64 0, .int .u64 0, .int .u64 0, .int .u64 0, .int .i64 0, .bool false] 122 (0, 0))) := ⟨h2_⟩
 have n3_ : Aside0 (w20.heap[gb257]? = some (.cells #[.int .u64 0, .int .u64 0, .int .u64 0, .int .u64 0, .int .i64 0, .bool false] 122 (0, 0))) := ⟨h3_⟩
 have n4_ : Aside0 (w.heap.size ≤ gb257) := ⟨h4_⟩
 have n5_ : Aside0 (w.heap.size ≤ gb257) := ⟨h5_⟩
 have n6_ : Aside0 (gb250 ≠ gb257) := ⟨h6_⟩
 have n7_ : Aside0 (gb257 ≠ gb250) := ⟨h7_⟩
 have n8_ : Aside0 (gb251 ≠ gb257) := ⟨h8_⟩
 have n9_ : Aside0 (gb257 ≠ gb251) := ⟨h9_⟩
 have n10_ : Aside0 (gb252 ≠ gb257) := ⟨h10_⟩
 have n11_ : Aside0 (gb257 ≠ gb252) := ⟨h11_⟩
 have n12_ : Aside0 (Below w.heap.size w w20) := ⟨h12_⟩
 clear BK250;clear BK251;clear BK252;clear HB;clear h0_ h1_ h2_ h3_ h4_ h5_ h6_ h7_ h8_ h9_ h10_ h11_ h12_;have BK250 := n0_;have BK251 := n1_;have BK252 := n2_;have BK257 := n3_;have GW257 := n4_;have GE257 := n5_;have NB250_257 := n6_;have NB257_250 := n7_;have NB251_257 := n8_;have NB257_251 := n9_;have NB252_257 := n10_;have NB257_252 := n11_;have HB := n12_;clear n0_ n1_ n2_ n3_ n4_ n5_ n6_ n7_ n8_ n9_ n10_ n11_ n12_
 have hHeld : w20.cell? ⟨gb250, 0, none⟩ = some (.bool a0_0) ∧ w20.cell? ⟨gb250, 1, none⟩ = some (.int .i64 a0_1) ∧ w20.cell? ⟨gb250, 2, none⟩ = some (.int .i64 a0_2) ∧ w20.cell? ⟨gb250, 3, none⟩ = some (.int .u64 a0_3) := hS_
 refine norm_ (a' := ?_) ?_ ?_
 rotate_left
 ·simp only [putAll, Act.put, lI_, l0_, lS_]
  rfl
 refine one_ (i := 11) (N := none) #[true, true, true, true, true, true, true, true, true, true, true, true] rfl rfl (one_of HT_.out (by kernel_rfl)) (by decide) (fun K hK => ?_)
 have hs21 : w20.cell? ⟨gb257, 0, none⟩ = some (.int .u64 0) := bc_ BK257.out 0
 have hfs21 := blk_frozen BK257.out 0
 have hns21_0 := NB250_257.out
 have hns21_1 := NB251_257.out
 have hns21_2 := NB252_257.out
 have hms21_0 := NB257_250.out
 have hms21_1 := NB257_251.out
 have hms21_2 := NB257_252.out
 have hs22 : w20.cell? ⟨gb257, 1, none⟩ = some (.int .u64 0) := bc_ BK257.out 1
 have hfs22 := blk_frozen BK257.out 1
 have hns22_0 := NB250_257.out
 have hns22_1 := NB251_257.out
 have hns22_2 := NB252_257.out
 have hms22_0 := NB257_250.out
 have hms22_1 := NB257_251.out
 have hms22_2 := NB257_252.out
 have hs23 : w20.cell? ⟨gb257, 2, none⟩ = some (.int .u64 0) := bc_ BK257.out 2
 have hfs23 := blk_frozen BK257.out 2
 have hns23_0 := NB250_257.out
 have hns23_1 := NB251_257.out
 have hns23_2 := NB252_257.out
 have hms23_0 := NB257_250.out
 have hms23_1 := NB257_251.out
 have hms23_2 := NB257_252.out
 have hs24 : w20.cell? ⟨gb257, 3, none⟩ = some (.int .u64 0) := bc_ BK257.out 3
 have hfs24 := blk_frozen BK257.out 3
 have hns24_0 := NB250_257.out
 have hns24_1 := NB251_257.out
 have hns24_2 := NB252_257.out
 have hms24_0 := NB257_250.out
 have hms24_1 := NB257_251.out
 have hms24_2 := NB257_252.out
 have hs25 : w20.cell? ⟨gb257, 4, none⟩ = some (.int .i64 0) := bc_ BK257.out 4
 have hfs25 := blk_frozen BK257.out 4
 have hns25_0 := NB250_257.out
 have hns25_1 := NB251_257.out
 have hns25_2 := NB252_257.out
 have hms25_0 := NB257_250.out
 have hms25_1 := NB257_251.out
 have hms25_2 := NB257_252.out
 have hs26 : w20.cell? ⟨gb257, 5, none⟩ = some (.bool false) := bc_ BK257.out 5
 have hfs26 := blk_frozen BK257.out 5
 have hns26_0 := NB250_257.out
 have hns26_1 := NB251_257.out
 have hns26_2 := NB252_257.out
 have hms26_0 := NB257_250.out
 have hms26_1 := NB257_251.out
 have hms26_2 := NB257_252.out
 refine skip_ (w1 := ?_) (by rfl) rfl ?_ ?_
 rotate_left
 ·go_simp
  rfl
 refine hK.out _ _ ⟨((cell_far (p := ⟨gb257, _, none⟩) NB250_257.out _).trans (((cell_far (p := ⟨gb257, _, none⟩) NB250_257.out _).trans (((cell_far (p := ⟨gb257, _, none⟩) NB250_257.out _).trans (((cell_far (p := ⟨gb257, _, none⟩) NB250_257.out _).trans (((cell_far (p := ⟨gb257, _, none⟩) NB250_257.out _).trans (((cell_far (p := ⟨gb257, _, none⟩) NB250_257.out _).trans (hHeld.1)))))))))))), ((cell_far (p := ⟨gb257, _, none⟩) NB250_257.out _).trans (((cell_far (p := ⟨gb257, _, none⟩) NB250_257.out _).trans (((cell_far (p := ⟨gb257, _, none⟩) NB250_257.out _).trans (((cell_far (p := ⟨gb257, _, none⟩) NB250_257.out _).trans (((cell_far (p := ⟨gb257, _, none⟩) NB250_257.out _).trans (((cell_far (p := ⟨gb257, _, none⟩) NB250_257.out _).trans (hHeld.2.1)))))))))))), ((cell_far (p := ⟨gb257, _, none⟩) NB250_257.out _).trans (((cell_far (p := ⟨gb257, _, none⟩) NB250_257.out _).trans (((cell_far (p := ⟨gb257, _, none⟩) NB250_257.out _).trans (((cell_far (p := ⟨gb257, _, none⟩) NB250_257.out _).trans (((cell_far (p := ⟨gb257, _, none⟩) NB250_257.out _).trans (((cell_far (p := ⟨gb257, _, none⟩) NB250_257.out _).trans (hHeld.2.2.1)))))))))))), ((cell_far (p := ⟨gb257, _, none⟩) NB250_257.out _).trans (((cell_far (p := ⟨gb257, _, none⟩) NB250_257.out _).trans (((cell_far (p := ⟨gb257, _, none⟩) NB250_257.out _).trans (((cell_far (p := ⟨gb257, _, none⟩) NB250_257.out _).trans (((cell_far (p := ⟨gb257, _, none⟩) NB250_257.out _).trans (((cell_far (p := ⟨gb257, _, none⟩) NB250_257.out _).trans (hHeld.2.2.2))))))))))))⟩ (fun hHeld => ?_)
 clear hK K
 refine done_ (done_of HT_.out (by kernel_rfl)) ?_
 have hnb27 := NB251_257.out
 have hnc27 := NB257_251.out
 have hcz28_0 : w20.cell? ⟨gb251, 0, none⟩ = some (.bool a1_0) := bc_ BK251.out 0
 have hcz28_1 : w20.cell? ⟨gb251, 1, none⟩ = some (.int .i64 a1_1) := bc_ BK251.out 1
 have hcz28_2 : w20.cell? ⟨gb251, 2, none⟩ = some (.int .i64 a1_2) := bc_ BK251.out 2
 have hcz28_3 : w20.cell? ⟨gb251, 3, none⟩ = some (.int .u64 a1_3) := bc_ BK251.out 3
 have hfz28_0 := blk_frozen BK251.out 0
 have hfz28_1 := blk_frozen BK251.out 1
 have hfz28_2 := blk_frozen BK251.out 2
 have hfz28_3 := blk_frozen BK251.out 3
 try go_wp2_with (first | ((with_reducible refine gate_callee (f := 39) rfl ?_); refine gl_ (some 28) Try.func39 #[.int .u64 a1_3] ?_; (with_reducible refine (wide_Of.calls a1_3 t258 t259 _ A6.out).mono ?_); rintro e w29 ⟨rfl, hb⟩; refine ⟨_, rfl, ?_⟩; have n0_ := A_ (blk_below (g := gb250) (o := .cells #[.bool a0_0, .int .i64 a0_1, .int .i64 a0_2, .int .u64 a0_3] 38 (0, 0)) (bf6_ BK250.out NB250_257.out NB250_257.out NB250_257.out NB250_257.out NB250_257.out NB250_257.out) hb); have n1_ := A_ (blk_below (g := gb251) (o := .cells #[.bool a1_0, .int .i64 a1_1, .int .i64 a1_2, .int .u64 a1_3] 38 (0, 0)) (bf6_ BK251.out NB251_257.out NB251_257.out NB251_257.out NB251_257.out NB251_257.out NB251_257.out) hb); have n2_ := A_ (blk_below (g := gb252) (o := .cells #[.int .u64 0, .int .u64 0, .int .u64 0, .int .u64 0, .int .i64 0, .bool false] 122 (0, 0)) (bf6_ BK252.out NB252_257.out NB252_257.out NB252_257.out NB252_257.out NB252_257.out NB252_257.out) hb); have n3_ := A_ (blk_below (g := gb257) (o := .cells #[.int .u64 t255, .int .u64 t256, .int .u64 0, .int .u64 0, .int .i64 (wrap64 (a0_2 - (ji3))), .bool false] 122 (0, 0)) (by (with_reducible repeat (first | refine blk_drewN ?_ _ | refine blk_drew ?_ | refine blk_alloc ?_ _)); refine blk_put (cs := #[.int .u64 t255, .int .u64 t256, .int .u64 0, .int .u64 0, .int .i64 (wrap64 (a0_2 - (ji3))), .bool false]) ?_ 5 _ rfl; (with_reducible repeat (first | refine blk_drewN ?_ _ | refine blk_drew ?_ | refine blk_alloc ?_ _)); refine blk_put (cs := #[.int .u64 t255, .int .u64 t256, .int .u64 0, .int .u64 0, .int .i64 0, .bool false]) ?_ 4 _ rfl; (with_reducible repeat (first | refine blk_drewN ?_ _ | refine blk_drew ?_ | refine blk_alloc ?_ _)); refine blk_put (cs := #[.int .u64 t255, .int .u64 t256, .int .u64 0, .int .u64 0, .int .i64 0, .bool false]) ?_ 3 _ rfl; (with_reducible repeat (first | refine blk_drewN ?_ _ | refine blk_drew ?_ | refine blk_alloc ?_ _)); refine blk_put (cs := #[.int .u64 t255, .int .u64 t256, .int .u64 0, .int .u64 0, .int .i64 0, .bool false]) ?_ 2 _ rfl; (with_reducible repeat (first | refine blk_drewN ?_ _ | refine blk_drew ?_ | refine blk_alloc ?_ _)); refine blk_put (cs := #[.int .u64 t255, .int .u64 0, .int .u64 0, .int .u64 0, .int .i64 0, .bool false]) ?_ 1 _ rfl; (with_reducible repeat (first | refine blk_drewN ?_ _ | refine blk_drew ?_ | refine blk_alloc ?_ _)); refine blk_put (cs := #[.int .u64 0, .int .u64 0, .int .u64 0, .int .u64 0, .int .i64 0, .bool false]) ?_ 0 _ rfl; (with_reducible repeat (first | refine blk_drewN ?_ _ | refine blk_drew ?_ | refine blk_alloc ?_ _)); exact BK257.out) hb); have n4_ := A_ (below_step (hb4_ HB.out GE250.out GE251.out GE252.out GE257.out) hb); clear BK250; clear BK251; clear BK252; clear BK257; clear HB; have BK250 := n0_; have BK251 := n1_; have BK252 := n2_; have BK257 := n3_; have HB := n4_; clear n0_ n1_ n2_ n3_ n4_; (try clear hb); (try clear hb2); (try clear hk); (try clear hi)) | ((with_reducible refine gate_callee (f := 116) rfl ?_); refine goesL_ (some 32) rfl rfl Try.func116 (by kernel_rfl) rfl #[.agg #[.int .u64 t258, .int .u64 t259], .int .i64 (wrap64 ((wrap64 (a0_2 - a1_2)) - (ji3)))] rfl (by (try simp only [List.map_toArray, List.map_cons, List.map_nil]); first | done | (simp only [hji3]; rfl) | rfl | (simp only [List.length_drop, List.length_take]; rfl)) ?_; (with_reducible refine (wide_Right.calls t258 t259 (wrap64 ((wrap64 (a0_2 - a1_2)) - (ji3))) t260 t261 t262 _ A7.out).mono ?_); rintro e w30 ⟨rfl, hb⟩; refine ⟨_, rfl, ?_⟩; have n0_ := A_ (bb_ BK250.out hb); have n1_ := A_ (bb_ BK251.out hb); have n2_ := A_ (bb_ BK252.out hb); have n3_ := A_ (bb_ BK257.out hb); have n4_ := A_ (below_step (hb4_ HB.out GE250.out GE251.out GE252.out GE257.out) hb); clear BK250; clear BK251; clear BK252; clear BK257; clear HB; have BK250 := n0_; have BK251 := n1_; have BK252 := n2_; have BK257 := n3_; have HB := n4_; clear n0_ n1_ n2_ n3_ n4_; (try clear hb); (try clear hb2); (try clear hk); (try clear hi); have hnb31 := NB257_250.out; have hnc31 := NB250_257.out; have hnb32 := NB257_252.out; have hnc32 := NB252_257.out; have hcz33_0 : w30.cell? ⟨gb257, 0, none⟩ = some (.int .u64 t255) := bc_ BK257.out 0; have hcz33_1 : w30.cell? ⟨gb257, 1, none⟩ = some (.int .u64 t256) := bc_ BK257.out 1; have hcz33_2 : w30.cell? ⟨gb257, 2, none⟩ = some (.int .u64 0) := bc_ BK257.out 2; have hcz33_3 : w30.cell? ⟨gb257, 3, none⟩ = some (.int .u64 0) := bc_ BK257.out 3; have hcz33_4 : w30.cell? ⟨gb257, 4, none⟩ = some (.int .i64 (wrap64 (a0_2 - (ji3)))) := bc_ BK257.out 4; have hcz33_5 : w30.cell? ⟨gb257, 5, none⟩ = some (.bool false) := bc_ BK257.out 5; have hfz33_0 := blk_frozen BK257.out 0; have hfz33_1 := blk_frozen BK257.out 1; have hfz33_2 := blk_frozen BK257.out 2; have hfz33_3 := blk_frozen BK257.out 3; have hfz33_4 := blk_frozen BK257.out 4; have hfz33_5 := blk_frozen BK257.out 5; have hcz34_0 : w30.cell? ⟨gb252, 0, none⟩ = some (.int .u64 0) := bc_ BK252.out 0; have hcz34_1 : w30.cell? ⟨gb252, 1, none⟩ = some (.int .u64 0) := bc_ BK252.out 1; have hcz34_2 : w30.cell? ⟨gb252, 2, none⟩ = some (.int .u64 0) := bc_ BK252.out 2; have hcz34_3 : w30.cell? ⟨gb252, 3, none⟩ = some (.int .u64 0) := bc_ BK252.out 3; have hcz34_4 : w30.cell? ⟨gb252, 4, none⟩ = some (.int .i64 0) := bc_ BK252.out 4; have hcz34_5 : w30.cell? ⟨gb252, 5, none⟩ = some (.bool false) := bc_ BK252.out 5; have hfz34_0 := blk_frozen BK252.out 0; have hfz34_1 := blk_frozen BK252.out 1; have hfz34_2 := blk_frozen BK252.out 2; have hfz34_3 := blk_frozen BK252.out 3; have hfz34_4 := blk_frozen BK252.out 4; have hfz34_5 := blk_frozen BK252.out 5))
 refine bodyPost_ret (results_cell_row rfl _ _ gb252 122 #[.int .u64 t255, .int .u64 t256, .int .u64 t260, .int .u64 t261, .int .i64 (wrap64 (a0_2 - (ji3))), .bool t262] (0, 0) _ rfl (by (with_reducible repeat (first | refine blk_drewN ?_ _ | refine blk_drew ?_ | refine blk_alloc ?_ _)); refine blk_put (cs := #[.int .u64 t255, .int .u64 t256, .int .u64 t260, .int .u64 t261, .int .i64 (wrap64 (a0_2 - (ji3))), .bool false]) ?_ 5 _ rfl; (with_reducible repeat (first | refine blk_drewN ?_ _ | refine blk_drew ?_ | refine blk_alloc ?_ _)); refine blk_put (cs := #[.int .u64 t255, .int .u64 t256, .int .u64 t260, .int .u64 t261, .int .i64 0, .bool false]) ?_ 4 _ rfl; (with_reducible repeat (first | refine blk_drewN ?_ _ | refine blk_drew ?_ | refine blk_alloc ?_ _)); refine blk_put (cs := #[.int .u64 t255, .int .u64 t256, .int .u64 t260, .int .u64 0, .int .i64 0, .bool false]) ?_ 3 _ rfl; (with_reducible repeat (first | refine blk_drewN ?_ _ | refine blk_drew ?_ | refine blk_alloc ?_ _)); refine blk_put (cs := #[.int .u64 t255, .int .u64 t256, .int .u64 0, .int .u64 0, .int .i64 0, .bool false]) ?_ 2 _ rfl; (with_reducible repeat (first | refine blk_drewN ?_ _ | refine blk_drew ?_ | refine blk_alloc ?_ _)); refine blk_put (cs := #[.int .u64 t255, .int .u64 0, .int .u64 0, .int .u64 0, .int .i64 0, .bool false]) ?_ 1 _ rfl; (with_reducible repeat (first | refine blk_drewN ?_ _ | refine blk_drew ?_ | refine blk_alloc ?_ _)); refine blk_put (cs := #[.int .u64 0, .int .u64 0, .int .u64 0, .int .u64 0, .int .i64 0, .bool false]) ?_ 0 _ rfl; (with_reducible repeat (first | refine blk_drewN ?_ _ | refine blk_drew ?_ | refine blk_alloc ?_ _)); refine blk_far ?_ NB252_257.out _; (with_reducible repeat (first | refine blk_drewN ?_ _ | refine blk_drew ?_ | refine blk_alloc ?_ _)); refine blk_far ?_ NB252_257.out _; (with_reducible repeat (first | refine blk_drewN ?_ _ | refine blk_drew ?_ | refine blk_alloc ?_ _)); refine blk_far ?_ NB252_257.out _; (with_reducible repeat (first | refine blk_drewN ?_ _ | refine blk_drew ?_ | refine blk_alloc ?_ _)); exact BK252.out) Try.underlying122 rfl (by kernel_rfl)) rfl ?_
 exact ⟨by first | rfl | (simp [errW_none, errW_some] <;> rfl) | (simp only [← hji3]; first | rfl | (simp [errW_none, errW_some] <;> rfl)) | (simp [*, errW_none, errW_some] <;> rfl), hb4_ HB.out GE250.out GE251.out GE252.out GE257.out⟩
end Go.Proofs.Ytbpmnmceajmmcaa.PA
