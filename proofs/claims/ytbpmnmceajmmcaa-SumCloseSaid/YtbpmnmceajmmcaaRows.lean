/-
  No cell of these rows narrows 'for every input' (looked for: loops, veiled, ifaces, maps, wideKeys, modest, calm, conditions, laid).
  DERIVED. THE GIVEN ROWS OF THIS SEAT. 12 by the template 'for every input the law returns true; each argument reads behind the call as it read before'; 0 by the template 'total and deterministic' (their statements: YtbpmnmceajmmcaaTotals.lean).
  GIVEN WITH THE SEED: the statements are not yours to turn. If you find one false, say at which input.
  Laid BY PROGRAM, IN A SANDBOX (cutbox-rows.mjs): the forced cells as the released guide's own fill.sh prints them over the translation 5c521762d990d9d0… (all of the seat's roots in one cut). By AI agents, Wed Nov 11 2026. No macro, syntax, notation, axiom, sorry.
-/
import Derived.Test.YtbpmnmceajmmcaaChecked
import GoSem.Claim
import GoSem.ClaimJoined
import GoSem.ClaimMapViews
import Derived.JoinedTies
import Derived.KernelRfl
namespace Go.Proofs.Ytbpmnmceajmmcaa
/- THE CELL 'sum', in the pinned program and in every row, IS THE sha256 OF THE DUMP (.gsa) THAT YtbpmnmceajmmcaaProg.lean LOADS. Nothing in Lean hashes anything: it is a label: what it is worth is what the hold of that sum in a sandbox is worth. -/
noncomputable def Try.pinned : Pinned := { name := "ytbpmnmceajmmcaa", sum := "5c521762d990d9d032276477d7400baa49b54bccbc8fa37a8a52d39d215ea6a3", checked := Try.checked }
namespace Rows
def none {H : Type} : Left H := { results := [], args := [] }

/-- 'trunnionlaw05.ProductTwice': WHATEVER THE INPUT: true; the input reads as it did. -/
def productTwiceSpec : ChangeSpec := { name := "productTwice", fn := fun _ => fun
  | [d1, d2] => { results := [.lit (.bool true)], args := [d1, d2] }
  | _ => none }
def productTwiceRow : OpenClaim := { program := "ytbpmnmceajmmcaa", sum := "5c521762d990d9d032276477d7400baa49b54bccbc8fa37a8a52d39d215ea6a3", func := "trunnion/trunnionlaw05.ProductTwice", spec := "productTwice", inPlace := ["math/bits.Add64", "math/bits.Sub64"], apart := false }
def ProductTwiceSaid : Prop := productTwiceRow.holds Try.pinned (OpenSpec.ofChange productTwiceSpec)

/-- ITS FALSE NEIGHBOUR: 'it returns false'. Refute it at one input. -/
def productTwiceWrong : ChangeSpec := { name := "productTwice", fn := fun _ => fun
  | [d1, d2] => { results := [.lit (.bool false)], args := [d1, d2] }
  | _ => none }
def ProductTwiceWrongFalsely : Prop := productTwiceRow.holds Try.pinned (OpenSpec.ofChange productTwiceWrong)

/-- 'trunnionlaw05.ProductScales': WHATEVER THE INPUT: true; the input reads as it did. -/
def productScalesSpec : ChangeSpec := { name := "productScales", fn := fun _ => fun
  | [d1, d2, d3] => { results := [.lit (.bool true)], args := [d1, d2, d3] }
  | _ => none }
def productScalesRow : OpenClaim := { program := "ytbpmnmceajmmcaa", sum := "5c521762d990d9d032276477d7400baa49b54bccbc8fa37a8a52d39d215ea6a3", func := "trunnion/trunnionlaw05.ProductScales", spec := "productScales", inPlace := ["math/bits.Add64"], apart := false }
def ProductScalesSaid : Prop := productScalesRow.holds Try.pinned (OpenSpec.ofChange productScalesSpec)

/-- ITS FALSE NEIGHBOUR: 'it returns false'. Refute it at one input. -/
def productScalesWrong : ChangeSpec := { name := "productScales", fn := fun _ => fun
  | [d1, d2, d3] => { results := [.lit (.bool false)], args := [d1, d2, d3] }
  | _ => none }
def ProductScalesWrongFalsely : Prop := productScalesRow.holds Try.pinned (OpenSpec.ofChange productScalesWrong)

/-- 'trunnionlaw06.QuotientDivs': WHATEVER THE INPUT: true; the input reads as it did. -/
def quotientDivsSpec : ChangeSpec := { name := "quotientDivs", fn := fun _ => fun
  | [d1, d2, d3] => { results := [.lit (.bool true)], args := [d1, d2, d3] }
  | _ => none }
def quotientDivsRow : OpenClaim := { program := "ytbpmnmceajmmcaa", sum := "5c521762d990d9d032276477d7400baa49b54bccbc8fa37a8a52d39d215ea6a3", func := "trunnion/trunnionlaw06.QuotientDivs", spec := "quotientDivs", inPlace := ["math/bits.Add64"], named := ["math/bits.divideError", "math/bits.overflowError"], apart := false }
def QuotientDivsSaid : Prop := quotientDivsRow.holds Try.pinned (OpenSpec.ofChange quotientDivsSpec)

/-- ITS FALSE NEIGHBOUR: 'it returns false'. Refute it at one input. -/
def quotientDivsWrong : ChangeSpec := { name := "quotientDivs", fn := fun _ => fun
  | [d1, d2, d3] => { results := [.lit (.bool false)], args := [d1, d2, d3] }
  | _ => none }
def QuotientDivsWrongFalsely : Prop := quotientDivsRow.holds Try.pinned (OpenSpec.ofChange quotientDivsWrong)

/-- 'trunnionlaw06.QuotientKeeps': WHATEVER THE INPUT: true; the input reads as it did. -/
def quotientKeepsSpec : ChangeSpec := { name := "quotientKeeps", fn := fun _ => fun
  | [d1, d2, d3] => { results := [.lit (.bool true)], args := [d1, d2, d3] }
  | _ => none }
def quotientKeepsRow : OpenClaim := { program := "ytbpmnmceajmmcaa", sum := "5c521762d990d9d032276477d7400baa49b54bccbc8fa37a8a52d39d215ea6a3", func := "trunnion/trunnionlaw06.QuotientKeeps", spec := "quotientKeeps", inPlace := ["math/bits.Add64"], named := ["math/bits.divideError", "math/bits.overflowError"], apart := false }
def QuotientKeepsSaid : Prop := quotientKeepsRow.holds Try.pinned (OpenSpec.ofChange quotientKeepsSpec)

/-- ITS FALSE NEIGHBOUR: 'it returns false'. Refute it at one input. -/
def quotientKeepsWrong : ChangeSpec := { name := "quotientKeeps", fn := fun _ => fun
  | [d1, d2, d3] => { results := [.lit (.bool false)], args := [d1, d2, d3] }
  | _ => none }
def QuotientKeepsWrongFalsely : Prop := quotientKeepsRow.holds Try.pinned (OpenSpec.ofChange quotientKeepsWrong)

/-- 'trunnionlaw06.QuotientScale': WHATEVER THE INPUT: true; the input reads as it did. -/
def quotientScaleSpec : ChangeSpec := { name := "quotientScale", fn := fun _ => fun
  | [d1, d2, d3] => { results := [.lit (.bool true)], args := [d1, d2, d3] }
  | _ => none }
def quotientScaleRow : OpenClaim := { program := "ytbpmnmceajmmcaa", sum := "5c521762d990d9d032276477d7400baa49b54bccbc8fa37a8a52d39d215ea6a3", func := "trunnion/trunnionlaw06.QuotientScale", spec := "quotientScale", inPlace := ["math/bits.Add64"], named := ["math/bits.divideError", "math/bits.overflowError"], apart := false }
def QuotientScaleSaid : Prop := quotientScaleRow.holds Try.pinned (OpenSpec.ofChange quotientScaleSpec)

/-- ITS FALSE NEIGHBOUR: 'it returns false'. Refute it at one input. -/
def quotientScaleWrong : ChangeSpec := { name := "quotientScale", fn := fun _ => fun
  | [d1, d2, d3] => { results := [.lit (.bool false)], args := [d1, d2, d3] }
  | _ => none }
def QuotientScaleWrongFalsely : Prop := quotientScaleRow.holds Try.pinned (OpenSpec.ofChange quotientScaleWrong)

/-- 'trunnionlaw03.RoundPacks': WHATEVER THE INPUT: true; the input reads as it did. -/
def roundPacksSpec : ChangeSpec := { name := "roundPacks", fn := fun _ => fun
  | [d1, d2] => { results := [.lit (.bool true)], args := [d1, d2] }
  | _ => none }
def roundPacksRow : OpenClaim := { program := "ytbpmnmceajmmcaa", sum := "5c521762d990d9d032276477d7400baa49b54bccbc8fa37a8a52d39d215ea6a3", func := "trunnion/trunnionlaw03.RoundPacks", spec := "roundPacks", inPlace := ["math/bits.Add64"], apart := false }
def RoundPacksSaid : Prop := roundPacksRow.holds Try.pinned (OpenSpec.ofChange roundPacksSpec)

/-- ITS FALSE NEIGHBOUR: 'it returns false'. Refute it at one input. -/
def roundPacksWrong : ChangeSpec := { name := "roundPacks", fn := fun _ => fun
  | [d1, d2] => { results := [.lit (.bool false)], args := [d1, d2] }
  | _ => none }
def RoundPacksWrongFalsely : Prop := roundPacksRow.holds Try.pinned (OpenSpec.ofChange roundPacksWrong)

/-- 'trunnionlaw03.RoundRises': WHATEVER THE INPUT: true; the input reads as it did. -/
def roundRisesSpec : ChangeSpec := { name := "roundRises", fn := fun _ => fun
  | [d1, d2] => { results := [.lit (.bool true)], args := [d1, d2] }
  | _ => none }
def roundRisesRow : OpenClaim := { program := "ytbpmnmceajmmcaa", sum := "5c521762d990d9d032276477d7400baa49b54bccbc8fa37a8a52d39d215ea6a3", func := "trunnion/trunnionlaw03.RoundRises", spec := "roundRises", inPlace := ["math/bits.Add64"], apart := false }
def RoundRisesSaid : Prop := roundRisesRow.holds Try.pinned (OpenSpec.ofChange roundRisesSpec)

/-- ITS FALSE NEIGHBOUR: 'it returns false'. Refute it at one input. -/
def roundRisesWrong : ChangeSpec := { name := "roundRises", fn := fun _ => fun
  | [d1, d2] => { results := [.lit (.bool false)], args := [d1, d2] }
  | _ => none }
def RoundRisesWrongFalsely : Prop := roundRisesRow.holds Try.pinned (OpenSpec.ofChange roundRisesWrong)

/-- 'trunnionlaw03.RoundKeeps': WHATEVER THE INPUT: true; the input reads as it did. -/
def roundKeepsSpec : ChangeSpec := { name := "roundKeeps", fn := fun _ => fun
  | [d1, d2, d3] => { results := [.lit (.bool true)], args := [d1, d2, d3] }
  | _ => none }
def roundKeepsRow : OpenClaim := { program := "ytbpmnmceajmmcaa", sum := "5c521762d990d9d032276477d7400baa49b54bccbc8fa37a8a52d39d215ea6a3", func := "trunnion/trunnionlaw03.RoundKeeps", spec := "roundKeeps", inPlace := ["math/bits.Add64"], apart := false }
def RoundKeepsSaid : Prop := roundKeepsRow.holds Try.pinned (OpenSpec.ofChange roundKeepsSpec)

/-- ITS FALSE NEIGHBOUR: 'it returns false'. Refute it at one input. -/
def roundKeepsWrong : ChangeSpec := { name := "roundKeeps", fn := fun _ => fun
  | [d1, d2, d3] => { results := [.lit (.bool false)], args := [d1, d2, d3] }
  | _ => none }
def RoundKeepsWrongFalsely : Prop := roundKeepsRow.holds Try.pinned (OpenSpec.ofChange roundKeepsWrong)

/-- 'trunnionlaw04.SumAdds': WHATEVER THE INPUT: true; the input reads as it did. -/
def sumAddsSpec : ChangeSpec := { name := "sumAdds", fn := fun _ => fun
  | [d1, d2, d3] => { results := [.lit (.bool true)], args := [d1, d2, d3] }
  | _ => none }
def sumAddsRow : OpenClaim := { program := "ytbpmnmceajmmcaa", sum := "5c521762d990d9d032276477d7400baa49b54bccbc8fa37a8a52d39d215ea6a3", func := "trunnion/trunnionlaw04.SumAdds", spec := "sumAdds", inPlace := ["math/bits.Add64", "math/bits.Sub64"], apart := false }
def SumAddsSaid : Prop := sumAddsRow.holds Try.pinned (OpenSpec.ofChange sumAddsSpec)

/-- ITS FALSE NEIGHBOUR: 'it returns false'. Refute it at one input. -/
def sumAddsWrong : ChangeSpec := { name := "sumAdds", fn := fun _ => fun
  | [d1, d2, d3] => { results := [.lit (.bool false)], args := [d1, d2, d3] }
  | _ => none }
def SumAddsWrongFalsely : Prop := sumAddsRow.holds Try.pinned (OpenSpec.ofChange sumAddsWrong)

/-- 'trunnionlaw04.SumOrder': WHATEVER THE INPUT: true; the input reads as it did. -/
def sumOrderSpec : ChangeSpec := { name := "sumOrder", fn := fun _ => fun
  | [d1, d2] => { results := [.lit (.bool true)], args := [d1, d2] }
  | _ => none }
def sumOrderRow : OpenClaim := { program := "ytbpmnmceajmmcaa", sum := "5c521762d990d9d032276477d7400baa49b54bccbc8fa37a8a52d39d215ea6a3", func := "trunnion/trunnionlaw04.SumOrder", spec := "sumOrder", inPlace := ["math/bits.Add64", "math/bits.Sub64"], apart := false }
def SumOrderSaid : Prop := sumOrderRow.holds Try.pinned (OpenSpec.ofChange sumOrderSpec)

/-- ITS FALSE NEIGHBOUR: 'it returns false'. Refute it at one input. -/
def sumOrderWrong : ChangeSpec := { name := "sumOrder", fn := fun _ => fun
  | [d1, d2] => { results := [.lit (.bool false)], args := [d1, d2] }
  | _ => none }
def SumOrderWrongFalsely : Prop := sumOrderRow.holds Try.pinned (OpenSpec.ofChange sumOrderWrong)

/-- 'trunnionlaw04.SumClose': WHATEVER THE INPUT: true; the input reads as it did. -/
def sumCloseSpec : ChangeSpec := { name := "sumClose", fn := fun _ => fun
  | [d1, d2, d3] => { results := [.lit (.bool true)], args := [d1, d2, d3] }
  | _ => none }
def sumCloseRow : OpenClaim := { program := "ytbpmnmceajmmcaa", sum := "5c521762d990d9d032276477d7400baa49b54bccbc8fa37a8a52d39d215ea6a3", func := "trunnion/trunnionlaw04.SumClose", spec := "sumClose", inPlace := ["math/bits.Add64", "math/bits.Sub64"], apart := false }
def SumCloseSaid : Prop := sumCloseRow.holds Try.pinned (OpenSpec.ofChange sumCloseSpec)

/-- ITS FALSE NEIGHBOUR: 'it returns false'. Refute it at one input. -/
def sumCloseWrong : ChangeSpec := { name := "sumClose", fn := fun _ => fun
  | [d1, d2, d3] => { results := [.lit (.bool false)], args := [d1, d2, d3] }
  | _ => none }
def SumCloseWrongFalsely : Prop := sumCloseRow.holds Try.pinned (OpenSpec.ofChange sumCloseWrong)

/-- 'trunnionlaw04.SumTotals': WHATEVER THE INPUT: true; the input reads as it did. -/
def sumTotalsSpec : ChangeSpec := { name := "sumTotals", fn := fun _ => fun
  | [d1, d2] => { results := [.lit (.bool true)], args := [d1, d2] }
  | _ => none }
def sumTotalsRow : OpenClaim := { program := "ytbpmnmceajmmcaa", sum := "5c521762d990d9d032276477d7400baa49b54bccbc8fa37a8a52d39d215ea6a3", func := "trunnion/trunnionlaw04.SumTotals", spec := "sumTotals", inPlace := ["math/bits.Add64", "math/bits.Sub64"], apart := false }
def SumTotalsSaid : Prop := sumTotalsRow.holds Try.pinned (OpenSpec.ofChange sumTotalsSpec)

/-- ITS FALSE NEIGHBOUR: 'it returns false'. Refute it at one input. -/
def sumTotalsWrong : ChangeSpec := { name := "sumTotals", fn := fun _ => fun
  | [d1, d2] => { results := [.lit (.bool false)], args := [d1, d2] }
  | _ => none }
def SumTotalsWrongFalsely : Prop := sumTotalsRow.holds Try.pinned (OpenSpec.ofChange sumTotalsWrong)

/- THE SECOND FORM. 'bulk': how many values and letters a reading holds, each counted each time it is reached (what is shared counts as often as it is met; a slice's spare places count too). A statement '..UptoSaid' is the law's where the arguments, and the package variables that the reading takes, are together of bulk at most 1048576: NARROWER than '..Said'. Prove '..Said' where nothing that the law and all that it calls make is longer than what came in: it says more and counts as full. Else prove '..UptoSaid'. A law counts once. -/
mutual
def uptoBulk {H : Type} : DataW H → Nat
  | .lit (.string bytes) => bytes.length + 1
  | .lit _ => 1
  | .nil => 1
  | .ptr d => uptoBulk d + 1
  | .slice elems spare => uptoBulkAll elems + uptoBulkAll spare + 1
  | .agg parts => uptoBulkAll parts + 1
  | .iface _ d => uptoBulk d + 1
  | .map entries => uptoBulkEntries entries + 1
  | .held _ => 1
def uptoBulkAll {H : Type} : List (DataW H) → Nat
  | [] => 0
  | d :: r => uptoBulk d + uptoBulkAll r
def uptoBulkEntries {H : Type} : List (Lit × DataW H) → Nat
  | [] => 0
  | x :: r => uptoBulkEntry x + uptoBulkEntries r
def uptoBulkEntry {H : Type} : Lit × DataW H → Nat
  | (.string bytes, d) => bytes.length + uptoBulk d + 1
  | (_, d) => uptoBulk d + 1
 end
def uptoSmall : (H : Type) → List (DataW H) → Bool := fun _ ds => decide (uptoBulkAll ds ≤ 1048576)
def OpenSpec.upto (s : _root_.Go.ChangeSpec) : _root_.Go.OpenSpec := { _root_.Go.OpenSpec.ofChange s with cond := some uptoSmall }

/-- 'trunnionlaw05.ProductTwice', WHERE WHAT IT READS IS OF BULK AT MOST 1048576: true; the input reads as it did. -/
def productTwiceUptoRow : OpenClaim := { program := "ytbpmnmceajmmcaa", sum := "5c521762d990d9d032276477d7400baa49b54bccbc8fa37a8a52d39d215ea6a3", func := "trunnion/trunnionlaw05.ProductTwice", spec := "productTwice", inPlace := ["math/bits.Add64", "math/bits.Sub64"], apart := false, narrowed := true }
def ProductTwiceUptoSaid : Prop := productTwiceUptoRow.holds Try.pinned (OpenSpec.upto productTwiceSpec)

/-- 'trunnionlaw05.ProductScales', WHERE WHAT IT READS IS OF BULK AT MOST 1048576: true; the input reads as it did. -/
def productScalesUptoRow : OpenClaim := { program := "ytbpmnmceajmmcaa", sum := "5c521762d990d9d032276477d7400baa49b54bccbc8fa37a8a52d39d215ea6a3", func := "trunnion/trunnionlaw05.ProductScales", spec := "productScales", inPlace := ["math/bits.Add64"], apart := false, narrowed := true }
def ProductScalesUptoSaid : Prop := productScalesUptoRow.holds Try.pinned (OpenSpec.upto productScalesSpec)

/-- 'trunnionlaw06.QuotientDivs', WHERE WHAT IT READS IS OF BULK AT MOST 1048576: true; the input reads as it did. -/
def quotientDivsUptoRow : OpenClaim := { program := "ytbpmnmceajmmcaa", sum := "5c521762d990d9d032276477d7400baa49b54bccbc8fa37a8a52d39d215ea6a3", func := "trunnion/trunnionlaw06.QuotientDivs", spec := "quotientDivs", inPlace := ["math/bits.Add64"], named := ["math/bits.divideError", "math/bits.overflowError"], apart := false, narrowed := true }
def QuotientDivsUptoSaid : Prop := quotientDivsUptoRow.holds Try.pinned (OpenSpec.upto quotientDivsSpec)

/-- 'trunnionlaw06.QuotientKeeps', WHERE WHAT IT READS IS OF BULK AT MOST 1048576: true; the input reads as it did. -/
def quotientKeepsUptoRow : OpenClaim := { program := "ytbpmnmceajmmcaa", sum := "5c521762d990d9d032276477d7400baa49b54bccbc8fa37a8a52d39d215ea6a3", func := "trunnion/trunnionlaw06.QuotientKeeps", spec := "quotientKeeps", inPlace := ["math/bits.Add64"], named := ["math/bits.divideError", "math/bits.overflowError"], apart := false, narrowed := true }
def QuotientKeepsUptoSaid : Prop := quotientKeepsUptoRow.holds Try.pinned (OpenSpec.upto quotientKeepsSpec)

/-- 'trunnionlaw06.QuotientScale', WHERE WHAT IT READS IS OF BULK AT MOST 1048576: true; the input reads as it did. -/
def quotientScaleUptoRow : OpenClaim := { program := "ytbpmnmceajmmcaa", sum := "5c521762d990d9d032276477d7400baa49b54bccbc8fa37a8a52d39d215ea6a3", func := "trunnion/trunnionlaw06.QuotientScale", spec := "quotientScale", inPlace := ["math/bits.Add64"], named := ["math/bits.divideError", "math/bits.overflowError"], apart := false, narrowed := true }
def QuotientScaleUptoSaid : Prop := quotientScaleUptoRow.holds Try.pinned (OpenSpec.upto quotientScaleSpec)

/-- 'trunnionlaw03.RoundPacks', WHERE WHAT IT READS IS OF BULK AT MOST 1048576: true; the input reads as it did. -/
def roundPacksUptoRow : OpenClaim := { program := "ytbpmnmceajmmcaa", sum := "5c521762d990d9d032276477d7400baa49b54bccbc8fa37a8a52d39d215ea6a3", func := "trunnion/trunnionlaw03.RoundPacks", spec := "roundPacks", inPlace := ["math/bits.Add64"], apart := false, narrowed := true }
def RoundPacksUptoSaid : Prop := roundPacksUptoRow.holds Try.pinned (OpenSpec.upto roundPacksSpec)

/-- 'trunnionlaw03.RoundRises', WHERE WHAT IT READS IS OF BULK AT MOST 1048576: true; the input reads as it did. -/
def roundRisesUptoRow : OpenClaim := { program := "ytbpmnmceajmmcaa", sum := "5c521762d990d9d032276477d7400baa49b54bccbc8fa37a8a52d39d215ea6a3", func := "trunnion/trunnionlaw03.RoundRises", spec := "roundRises", inPlace := ["math/bits.Add64"], apart := false, narrowed := true }
def RoundRisesUptoSaid : Prop := roundRisesUptoRow.holds Try.pinned (OpenSpec.upto roundRisesSpec)

/-- 'trunnionlaw03.RoundKeeps', WHERE WHAT IT READS IS OF BULK AT MOST 1048576: true; the input reads as it did. -/
def roundKeepsUptoRow : OpenClaim := { program := "ytbpmnmceajmmcaa", sum := "5c521762d990d9d032276477d7400baa49b54bccbc8fa37a8a52d39d215ea6a3", func := "trunnion/trunnionlaw03.RoundKeeps", spec := "roundKeeps", inPlace := ["math/bits.Add64"], apart := false, narrowed := true }
def RoundKeepsUptoSaid : Prop := roundKeepsUptoRow.holds Try.pinned (OpenSpec.upto roundKeepsSpec)

/-- 'trunnionlaw04.SumAdds', WHERE WHAT IT READS IS OF BULK AT MOST 1048576: true; the input reads as it did. -/
def sumAddsUptoRow : OpenClaim := { program := "ytbpmnmceajmmcaa", sum := "5c521762d990d9d032276477d7400baa49b54bccbc8fa37a8a52d39d215ea6a3", func := "trunnion/trunnionlaw04.SumAdds", spec := "sumAdds", inPlace := ["math/bits.Add64", "math/bits.Sub64"], apart := false, narrowed := true }
def SumAddsUptoSaid : Prop := sumAddsUptoRow.holds Try.pinned (OpenSpec.upto sumAddsSpec)

/-- 'trunnionlaw04.SumOrder', WHERE WHAT IT READS IS OF BULK AT MOST 1048576: true; the input reads as it did. -/
def sumOrderUptoRow : OpenClaim := { program := "ytbpmnmceajmmcaa", sum := "5c521762d990d9d032276477d7400baa49b54bccbc8fa37a8a52d39d215ea6a3", func := "trunnion/trunnionlaw04.SumOrder", spec := "sumOrder", inPlace := ["math/bits.Add64", "math/bits.Sub64"], apart := false, narrowed := true }
def SumOrderUptoSaid : Prop := sumOrderUptoRow.holds Try.pinned (OpenSpec.upto sumOrderSpec)

/-- 'trunnionlaw04.SumClose', WHERE WHAT IT READS IS OF BULK AT MOST 1048576: true; the input reads as it did. -/
def sumCloseUptoRow : OpenClaim := { program := "ytbpmnmceajmmcaa", sum := "5c521762d990d9d032276477d7400baa49b54bccbc8fa37a8a52d39d215ea6a3", func := "trunnion/trunnionlaw04.SumClose", spec := "sumClose", inPlace := ["math/bits.Add64", "math/bits.Sub64"], apart := false, narrowed := true }
def SumCloseUptoSaid : Prop := sumCloseUptoRow.holds Try.pinned (OpenSpec.upto sumCloseSpec)

/-- 'trunnionlaw04.SumTotals', WHERE WHAT IT READS IS OF BULK AT MOST 1048576: true; the input reads as it did. -/
def sumTotalsUptoRow : OpenClaim := { program := "ytbpmnmceajmmcaa", sum := "5c521762d990d9d032276477d7400baa49b54bccbc8fa37a8a52d39d215ea6a3", func := "trunnion/trunnionlaw04.SumTotals", spec := "sumTotals", inPlace := ["math/bits.Add64", "math/bits.Sub64"], apart := false, narrowed := true }
def SumTotalsUptoSaid : Prop := sumTotalsUptoRow.holds Try.pinned (OpenSpec.upto sumTotalsSpec)

end Rows
end Go.Proofs.Ytbpmnmceajmmcaa
