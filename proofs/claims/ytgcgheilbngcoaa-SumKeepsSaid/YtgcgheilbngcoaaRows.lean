/-
  No cell of these rows narrows 'for every input' (looked for: loops, veiled, ifaces, maps, wideKeys, modest, calm, conditions, laid).
  DERIVED. THE GIVEN ROWS OF THIS SEAT. 26 by the template 'for every input the law returns true; each argument reads behind the call as it read before'; 0 by the template 'total and deterministic' (their statements: YtgcgheilbngcoaaTotals.lean).
  GIVEN WITH THE SEED: the statements are not yours to turn. If you find one false, say at which input.
  Laid BY PROGRAM, IN A SANDBOX (cutbox-rows.mjs): the forced cells as the released guide's own fill.sh prints them over the translation 9d00d4d6fe47341d… (all of the seat's roots in one cut). By AI agents, Wed Nov 11 2026. No macro, syntax, notation, axiom, sorry.
-/
import Derived.Test.YtgcgheilbngcoaaChecked
import GoSem.Claim
import GoSem.ClaimJoined
import GoSem.ClaimMapViews
import Derived.JoinedTies
import Derived.KernelRfl
namespace Go.Proofs.Ytgcgheilbngcoaa
/- THE CELL 'sum', in the pinned program and in every row, IS THE sha256 OF THE DUMP (.gsa) THAT YtgcgheilbngcoaaProg.lean LOADS. Nothing in Lean hashes anything: it is a label: what it is worth is what the hold of that sum in a sandbox is worth. -/
noncomputable def Try.pinned : Pinned := { name := "ytgcgheilbngcoaa", sum := "9d00d4d6fe47341d64c2457b84ffb073f8b5aea0bbfc101161a82a6b302f0bb5", checked := Try.checked }
namespace Rows
def none {H : Type} : Left H := { results := [], args := [] }

/-- 'trunnionlaw12.ChopTraps': WHATEVER THE INPUT: true; the input reads as it did. -/
def chopTrapsSpec : ChangeSpec := { name := "chopTraps", fn := fun _ => fun
  | [d1, d2] => { results := [.lit (.bool true)], args := [d1, d2] }
  | _ => none }
def chopTrapsRow : OpenClaim := { program := "ytgcgheilbngcoaa", sum := "9d00d4d6fe47341d64c2457b84ffb073f8b5aea0bbfc101161a82a6b302f0bb5", func := "trunnion/trunnionlaw12.ChopTraps", spec := "chopTraps", apart := false }
def ChopTrapsSaid : Prop := chopTrapsRow.holds Try.pinned (OpenSpec.ofChange chopTrapsSpec)

/-- ITS FALSE NEIGHBOUR: 'it returns false'. Refute it at one input. -/
def chopTrapsWrong : ChangeSpec := { name := "chopTraps", fn := fun _ => fun
  | [d1, d2] => { results := [.lit (.bool false)], args := [d1, d2] }
  | _ => none }
def ChopTrapsWrongFalsely : Prop := chopTrapsRow.holds Try.pinned (OpenSpec.ofChange chopTrapsWrong)

/-- 'trunnionlaw12.ChopOrder': WHATEVER THE INPUT: true; the input reads as it did. -/
def chopOrderSpec : ChangeSpec := { name := "chopOrder", fn := fun _ => fun
  | [d1, d2, d3] => { results := [.lit (.bool true)], args := [d1, d2, d3] }
  | _ => none }
def chopOrderRow : OpenClaim := { program := "ytgcgheilbngcoaa", sum := "9d00d4d6fe47341d64c2457b84ffb073f8b5aea0bbfc101161a82a6b302f0bb5", func := "trunnion/trunnionlaw12.ChopOrder", spec := "chopOrder", apart := false }
def ChopOrderSaid : Prop := chopOrderRow.holds Try.pinned (OpenSpec.ofChange chopOrderSpec)

/-- ITS FALSE NEIGHBOUR: 'it returns false'. Refute it at one input. -/
def chopOrderWrong : ChangeSpec := { name := "chopOrder", fn := fun _ => fun
  | [d1, d2, d3] => { results := [.lit (.bool false)], args := [d1, d2, d3] }
  | _ => none }
def ChopOrderWrongFalsely : Prop := chopOrderRow.holds Try.pinned (OpenSpec.ofChange chopOrderWrong)

/-- 'trunnionlaw03.RoundPacks': WHATEVER THE INPUT: true; the input reads as it did. -/
def roundPacksSpec : ChangeSpec := { name := "roundPacks", fn := fun _ => fun
  | [d1, d2] => { results := [.lit (.bool true)], args := [d1, d2] }
  | _ => none }
def roundPacksRow : OpenClaim := { program := "ytgcgheilbngcoaa", sum := "9d00d4d6fe47341d64c2457b84ffb073f8b5aea0bbfc101161a82a6b302f0bb5", func := "trunnion/trunnionlaw03.RoundPacks", spec := "roundPacks", inPlace := ["math/bits.Add64"], apart := false }
def RoundPacksSaid : Prop := roundPacksRow.holds Try.pinned (OpenSpec.ofChange roundPacksSpec)

/-- ITS FALSE NEIGHBOUR: 'it returns false'. Refute it at one input. -/
def roundPacksWrong : ChangeSpec := { name := "roundPacks", fn := fun _ => fun
  | [d1, d2] => { results := [.lit (.bool false)], args := [d1, d2] }
  | _ => none }
def RoundPacksWrongFalsely : Prop := roundPacksRow.holds Try.pinned (OpenSpec.ofChange roundPacksWrong)

/-- 'trunnionlaw03.RoundRises': WHATEVER THE INPUT: true; the input reads as it did. -/
def roundRisesSpec : ChangeSpec := { name := "roundRises", fn := fun _ => fun
  | [d1, d2] => { results := [.lit (.bool true)], args := [d1, d2] }
  | _ => none }
def roundRisesRow : OpenClaim := { program := "ytgcgheilbngcoaa", sum := "9d00d4d6fe47341d64c2457b84ffb073f8b5aea0bbfc101161a82a6b302f0bb5", func := "trunnion/trunnionlaw03.RoundRises", spec := "roundRises", inPlace := ["math/bits.Add64"], apart := false }
def RoundRisesSaid : Prop := roundRisesRow.holds Try.pinned (OpenSpec.ofChange roundRisesSpec)

/-- ITS FALSE NEIGHBOUR: 'it returns false'. Refute it at one input. -/
def roundRisesWrong : ChangeSpec := { name := "roundRises", fn := fun _ => fun
  | [d1, d2] => { results := [.lit (.bool false)], args := [d1, d2] }
  | _ => none }
def RoundRisesWrongFalsely : Prop := roundRisesRow.holds Try.pinned (OpenSpec.ofChange roundRisesWrong)

/-- 'trunnionlaw03.RoundWholes': WHATEVER THE INPUT: true; the input reads as it did. -/
def roundWholesSpec : ChangeSpec := { name := "roundWholes", fn := fun _ => fun
  | [d1, d2, d3] => { results := [.lit (.bool true)], args := [d1, d2, d3] }
  | _ => none }
def roundWholesRow : OpenClaim := { program := "ytgcgheilbngcoaa", sum := "9d00d4d6fe47341d64c2457b84ffb073f8b5aea0bbfc101161a82a6b302f0bb5", func := "trunnion/trunnionlaw03.RoundWholes", spec := "roundWholes", inPlace := ["math/bits.Add64"], apart := false }
def RoundWholesSaid : Prop := roundWholesRow.holds Try.pinned (OpenSpec.ofChange roundWholesSpec)

/-- ITS FALSE NEIGHBOUR: 'it returns false'. Refute it at one input. -/
def roundWholesWrong : ChangeSpec := { name := "roundWholes", fn := fun _ => fun
  | [d1, d2, d3] => { results := [.lit (.bool false)], args := [d1, d2, d3] }
  | _ => none }
def RoundWholesWrongFalsely : Prop := roundWholesRow.holds Try.pinned (OpenSpec.ofChange roundWholesWrong)

/-- 'trunnionlaw03.RoundKeeps': WHATEVER THE INPUT: true; the input reads as it did. -/
def roundKeepsSpec : ChangeSpec := { name := "roundKeeps", fn := fun _ => fun
  | [d1, d2, d3] => { results := [.lit (.bool true)], args := [d1, d2, d3] }
  | _ => none }
def roundKeepsRow : OpenClaim := { program := "ytgcgheilbngcoaa", sum := "9d00d4d6fe47341d64c2457b84ffb073f8b5aea0bbfc101161a82a6b302f0bb5", func := "trunnion/trunnionlaw03.RoundKeeps", spec := "roundKeeps", inPlace := ["math/bits.Add64"], apart := false }
def RoundKeepsSaid : Prop := roundKeepsRow.holds Try.pinned (OpenSpec.ofChange roundKeepsSpec)

/-- ITS FALSE NEIGHBOUR: 'it returns false'. Refute it at one input. -/
def roundKeepsWrong : ChangeSpec := { name := "roundKeeps", fn := fun _ => fun
  | [d1, d2, d3] => { results := [.lit (.bool false)], args := [d1, d2, d3] }
  | _ => none }
def RoundKeepsWrongFalsely : Prop := roundKeepsRow.holds Try.pinned (OpenSpec.ofChange roundKeepsWrong)

/-- 'trunnionlaw05.ProductMuls': WHATEVER THE INPUT: true; the input reads as it did. -/
def productMulsSpec : ChangeSpec := { name := "productMuls", fn := fun _ => fun
  | [d1, d2, d3] => { results := [.lit (.bool true)], args := [d1, d2, d3] }
  | _ => none }
def productMulsRow : OpenClaim := { program := "ytgcgheilbngcoaa", sum := "9d00d4d6fe47341d64c2457b84ffb073f8b5aea0bbfc101161a82a6b302f0bb5", func := "trunnion/trunnionlaw05.ProductMuls", spec := "productMuls", inPlace := ["math/bits.Add64"], apart := false }
def ProductMulsSaid : Prop := productMulsRow.holds Try.pinned (OpenSpec.ofChange productMulsSpec)

/-- ITS FALSE NEIGHBOUR: 'it returns false'. Refute it at one input. -/
def productMulsWrong : ChangeSpec := { name := "productMuls", fn := fun _ => fun
  | [d1, d2, d3] => { results := [.lit (.bool false)], args := [d1, d2, d3] }
  | _ => none }
def ProductMulsWrongFalsely : Prop := productMulsRow.holds Try.pinned (OpenSpec.ofChange productMulsWrong)

/-- 'trunnionlaw11.CastOrder': WHATEVER THE INPUT: true; the input reads as it did. -/
def castOrderSpec : ChangeSpec := { name := "castOrder", fn := fun _ => fun
  | [d1, d2, d3] => { results := [.lit (.bool true)], args := [d1, d2, d3] }
  | _ => none }
def castOrderRow : OpenClaim := { program := "ytgcgheilbngcoaa", sum := "9d00d4d6fe47341d64c2457b84ffb073f8b5aea0bbfc101161a82a6b302f0bb5", func := "trunnion/trunnionlaw11.CastOrder", spec := "castOrder", inPlace := ["math/bits.Add64"], apart := false }
def CastOrderSaid : Prop := castOrderRow.holds Try.pinned (OpenSpec.ofChange castOrderSpec)

/-- ITS FALSE NEIGHBOUR: 'it returns false'. Refute it at one input. -/
def castOrderWrong : ChangeSpec := { name := "castOrder", fn := fun _ => fun
  | [d1, d2, d3] => { results := [.lit (.bool false)], args := [d1, d2, d3] }
  | _ => none }
def CastOrderWrongFalsely : Prop := castOrderRow.holds Try.pinned (OpenSpec.ofChange castOrderWrong)

/-- 'trunnionlaw11.CastTurns': WHATEVER THE INPUT: true; the input reads as it did. -/
def castTurnsSpec : ChangeSpec := { name := "castTurns", fn := fun _ => fun
  | [d] => { results := [.lit (.bool true)], args := [d] }
  | _ => none }
def castTurnsRow : OpenClaim := { program := "ytgcgheilbngcoaa", sum := "9d00d4d6fe47341d64c2457b84ffb073f8b5aea0bbfc101161a82a6b302f0bb5", func := "trunnion/trunnionlaw11.CastTurns", spec := "castTurns", inPlace := ["math/bits.Add64"], apart := false }
def CastTurnsSaid : Prop := castTurnsRow.holds Try.pinned (OpenSpec.ofChange castTurnsSpec)

/-- ITS FALSE NEIGHBOUR: 'it returns false'. Refute it at one input. -/
def castTurnsWrong : ChangeSpec := { name := "castTurns", fn := fun _ => fun
  | [d] => { results := [.lit (.bool false)], args := [d] }
  | _ => none }
def CastTurnsWrongFalsely : Prop := castTurnsRow.holds Try.pinned (OpenSpec.ofChange castTurnsWrong)

/-- 'trunnionlaw09.WholeMakes': WHATEVER THE INPUT: true; the input reads as it did. -/
def wholeMakesSpec : ChangeSpec := { name := "wholeMakes", fn := fun _ => fun
  | [d1, d2] => { results := [.lit (.bool true)], args := [d1, d2] }
  | _ => none }
def wholeMakesRow : OpenClaim := { program := "ytgcgheilbngcoaa", sum := "9d00d4d6fe47341d64c2457b84ffb073f8b5aea0bbfc101161a82a6b302f0bb5", func := "trunnion/trunnionlaw09.WholeMakes", spec := "wholeMakes", inPlace := ["math/bits.Add64"], unfollowed := true, recurses := true, apart := false }
def WholeMakesSaid : Prop := wholeMakesRow.holds Try.pinned (OpenSpec.ofChange wholeMakesSpec)

/-- ITS FALSE NEIGHBOUR: 'it returns false'. Refute it at one input. -/
def wholeMakesWrong : ChangeSpec := { name := "wholeMakes", fn := fun _ => fun
  | [d1, d2] => { results := [.lit (.bool false)], args := [d1, d2] }
  | _ => none }
def WholeMakesWrongFalsely : Prop := wholeMakesRow.holds Try.pinned (OpenSpec.ofChange wholeMakesWrong)

/-- 'trunnionlaw05.ProductScales': WHATEVER THE INPUT: true; the input reads as it did. -/
def productScalesSpec : ChangeSpec := { name := "productScales", fn := fun _ => fun
  | [d1, d2, d3] => { results := [.lit (.bool true)], args := [d1, d2, d3] }
  | _ => none }
def productScalesRow : OpenClaim := { program := "ytgcgheilbngcoaa", sum := "9d00d4d6fe47341d64c2457b84ffb073f8b5aea0bbfc101161a82a6b302f0bb5", func := "trunnion/trunnionlaw05.ProductScales", spec := "productScales", inPlace := ["math/bits.Add64"], apart := false }
def ProductScalesSaid : Prop := productScalesRow.holds Try.pinned (OpenSpec.ofChange productScalesSpec)

/-- ITS FALSE NEIGHBOUR: 'it returns false'. Refute it at one input. -/
def productScalesWrong : ChangeSpec := { name := "productScales", fn := fun _ => fun
  | [d1, d2, d3] => { results := [.lit (.bool false)], args := [d1, d2, d3] }
  | _ => none }
def ProductScalesWrongFalsely : Prop := productScalesRow.holds Try.pinned (OpenSpec.ofChange productScalesWrong)

/-- 'trunnionlaw07.RadixRoots': WHATEVER THE INPUT: true; the input reads as it did. -/
def radixRootsSpec : ChangeSpec := { name := "radixRoots", fn := fun _ => fun
  | [d1, d2] => { results := [.lit (.bool true)], args := [d1, d2] }
  | _ => none }
def radixRootsRow : OpenClaim := { program := "ytgcgheilbngcoaa", sum := "9d00d4d6fe47341d64c2457b84ffb073f8b5aea0bbfc101161a82a6b302f0bb5", func := "trunnion/trunnionlaw07.RadixRoots", spec := "radixRoots", inPlace := ["math/bits.Add64"], apart := false }
def RadixRootsSaid : Prop := radixRootsRow.holds Try.pinned (OpenSpec.ofChange radixRootsSpec)

/-- ITS FALSE NEIGHBOUR: 'it returns false'. Refute it at one input. -/
def radixRootsWrong : ChangeSpec := { name := "radixRoots", fn := fun _ => fun
  | [d1, d2] => { results := [.lit (.bool false)], args := [d1, d2] }
  | _ => none }
def RadixRootsWrongFalsely : Prop := radixRootsRow.holds Try.pinned (OpenSpec.ofChange radixRootsWrong)

/-- 'trunnionlaw09.WholeKeeps': WHATEVER THE INPUT: true; the input reads as it did. -/
def wholeKeepsSpec : ChangeSpec := { name := "wholeKeeps", fn := fun _ => fun
  | [d1, d2] => { results := [.lit (.bool true)], args := [d1, d2] }
  | _ => none }
def wholeKeepsRow : OpenClaim := { program := "ytgcgheilbngcoaa", sum := "9d00d4d6fe47341d64c2457b84ffb073f8b5aea0bbfc101161a82a6b302f0bb5", func := "trunnion/trunnionlaw09.WholeKeeps", spec := "wholeKeeps", inPlace := ["math/bits.Add64"], unfollowed := true, recurses := true, apart := false }
def WholeKeepsSaid : Prop := wholeKeepsRow.holds Try.pinned (OpenSpec.ofChange wholeKeepsSpec)

/-- ITS FALSE NEIGHBOUR: 'it returns false'. Refute it at one input. -/
def wholeKeepsWrong : ChangeSpec := { name := "wholeKeeps", fn := fun _ => fun
  | [d1, d2] => { results := [.lit (.bool false)], args := [d1, d2] }
  | _ => none }
def WholeKeepsWrongFalsely : Prop := wholeKeepsRow.holds Try.pinned (OpenSpec.ofChange wholeKeepsWrong)

/-- 'trunnionlaw05.ProductKeeps': WHATEVER THE INPUT: true; the input reads as it did. -/
def productKeepsSpec : ChangeSpec := { name := "productKeeps", fn := fun _ => fun
  | [d1, d2, d3] => { results := [.lit (.bool true)], args := [d1, d2, d3] }
  | _ => none }
def productKeepsRow : OpenClaim := { program := "ytgcgheilbngcoaa", sum := "9d00d4d6fe47341d64c2457b84ffb073f8b5aea0bbfc101161a82a6b302f0bb5", func := "trunnion/trunnionlaw05.ProductKeeps", spec := "productKeeps", inPlace := ["math/bits.Add64"], apart := false }
def ProductKeepsSaid : Prop := productKeepsRow.holds Try.pinned (OpenSpec.ofChange productKeepsSpec)

/-- ITS FALSE NEIGHBOUR: 'it returns false'. Refute it at one input. -/
def productKeepsWrong : ChangeSpec := { name := "productKeeps", fn := fun _ => fun
  | [d1, d2, d3] => { results := [.lit (.bool false)], args := [d1, d2, d3] }
  | _ => none }
def ProductKeepsWrongFalsely : Prop := productKeepsRow.holds Try.pinned (OpenSpec.ofChange productKeepsWrong)

/-- 'trunnionlaw07.RadixKeeps': WHATEVER THE INPUT: true; the input reads as it did. -/
def radixKeepsSpec : ChangeSpec := { name := "radixKeeps", fn := fun _ => fun
  | [d1, d2, d3] => { results := [.lit (.bool true)], args := [d1, d2, d3] }
  | _ => none }
def radixKeepsRow : OpenClaim := { program := "ytgcgheilbngcoaa", sum := "9d00d4d6fe47341d64c2457b84ffb073f8b5aea0bbfc101161a82a6b302f0bb5", func := "trunnion/trunnionlaw07.RadixKeeps", spec := "radixKeeps", inPlace := ["math/bits.Add64"], apart := false }
def RadixKeepsSaid : Prop := radixKeepsRow.holds Try.pinned (OpenSpec.ofChange radixKeepsSpec)

/-- ITS FALSE NEIGHBOUR: 'it returns false'. Refute it at one input. -/
def radixKeepsWrong : ChangeSpec := { name := "radixKeeps", fn := fun _ => fun
  | [d1, d2, d3] => { results := [.lit (.bool false)], args := [d1, d2, d3] }
  | _ => none }
def RadixKeepsWrongFalsely : Prop := radixKeepsRow.holds Try.pinned (OpenSpec.ofChange radixKeepsWrong)

/-- 'trunnionlaw06.QuotientDivs': WHATEVER THE INPUT: true; the input reads as it did. -/
def quotientDivsSpec : ChangeSpec := { name := "quotientDivs", fn := fun _ => fun
  | [d1, d2, d3] => { results := [.lit (.bool true)], args := [d1, d2, d3] }
  | _ => none }
def quotientDivsRow : OpenClaim := { program := "ytgcgheilbngcoaa", sum := "9d00d4d6fe47341d64c2457b84ffb073f8b5aea0bbfc101161a82a6b302f0bb5", func := "trunnion/trunnionlaw06.QuotientDivs", spec := "quotientDivs", inPlace := ["math/bits.Add64"], named := ["math/bits.divideError", "math/bits.overflowError"], apart := false }
def QuotientDivsSaid : Prop := quotientDivsRow.holds Try.pinned (OpenSpec.ofChange quotientDivsSpec)

/-- ITS FALSE NEIGHBOUR: 'it returns false'. Refute it at one input. -/
def quotientDivsWrong : ChangeSpec := { name := "quotientDivs", fn := fun _ => fun
  | [d1, d2, d3] => { results := [.lit (.bool false)], args := [d1, d2, d3] }
  | _ => none }
def QuotientDivsWrongFalsely : Prop := quotientDivsRow.holds Try.pinned (OpenSpec.ofChange quotientDivsWrong)

/-- 'trunnionlaw07.RadixScale': WHATEVER THE INPUT: true; the input reads as it did. -/
def radixScaleSpec : ChangeSpec := { name := "radixScale", fn := fun _ => fun
  | [d1, d2, d3] => { results := [.lit (.bool true)], args := [d1, d2, d3] }
  | _ => none }
def radixScaleRow : OpenClaim := { program := "ytgcgheilbngcoaa", sum := "9d00d4d6fe47341d64c2457b84ffb073f8b5aea0bbfc101161a82a6b302f0bb5", func := "trunnion/trunnionlaw07.RadixScale", spec := "radixScale", inPlace := ["math/bits.Add64"], apart := false }
def RadixScaleSaid : Prop := radixScaleRow.holds Try.pinned (OpenSpec.ofChange radixScaleSpec)

/-- ITS FALSE NEIGHBOUR: 'it returns false'. Refute it at one input. -/
def radixScaleWrong : ChangeSpec := { name := "radixScale", fn := fun _ => fun
  | [d1, d2, d3] => { results := [.lit (.bool false)], args := [d1, d2, d3] }
  | _ => none }
def RadixScaleWrongFalsely : Prop := radixScaleRow.holds Try.pinned (OpenSpec.ofChange radixScaleWrong)

/-- 'trunnionlaw06.QuotientKeeps': WHATEVER THE INPUT: true; the input reads as it did. -/
def quotientKeepsSpec : ChangeSpec := { name := "quotientKeeps", fn := fun _ => fun
  | [d1, d2, d3] => { results := [.lit (.bool true)], args := [d1, d2, d3] }
  | _ => none }
def quotientKeepsRow : OpenClaim := { program := "ytgcgheilbngcoaa", sum := "9d00d4d6fe47341d64c2457b84ffb073f8b5aea0bbfc101161a82a6b302f0bb5", func := "trunnion/trunnionlaw06.QuotientKeeps", spec := "quotientKeeps", inPlace := ["math/bits.Add64"], named := ["math/bits.divideError", "math/bits.overflowError"], apart := false }
def QuotientKeepsSaid : Prop := quotientKeepsRow.holds Try.pinned (OpenSpec.ofChange quotientKeepsSpec)

/-- ITS FALSE NEIGHBOUR: 'it returns false'. Refute it at one input. -/
def quotientKeepsWrong : ChangeSpec := { name := "quotientKeeps", fn := fun _ => fun
  | [d1, d2, d3] => { results := [.lit (.bool false)], args := [d1, d2, d3] }
  | _ => none }
def QuotientKeepsWrongFalsely : Prop := quotientKeepsRow.holds Try.pinned (OpenSpec.ofChange quotientKeepsWrong)

/-- 'trunnionlaw04.SumAdds': WHATEVER THE INPUT: true; the input reads as it did. -/
def sumAddsSpec : ChangeSpec := { name := "sumAdds", fn := fun _ => fun
  | [d1, d2, d3] => { results := [.lit (.bool true)], args := [d1, d2, d3] }
  | _ => none }
def sumAddsRow : OpenClaim := { program := "ytgcgheilbngcoaa", sum := "9d00d4d6fe47341d64c2457b84ffb073f8b5aea0bbfc101161a82a6b302f0bb5", func := "trunnion/trunnionlaw04.SumAdds", spec := "sumAdds", inPlace := ["math/bits.Add64", "math/bits.Sub64"], apart := false }
def SumAddsSaid : Prop := sumAddsRow.holds Try.pinned (OpenSpec.ofChange sumAddsSpec)

/-- ITS FALSE NEIGHBOUR: 'it returns false'. Refute it at one input. -/
def sumAddsWrong : ChangeSpec := { name := "sumAdds", fn := fun _ => fun
  | [d1, d2, d3] => { results := [.lit (.bool false)], args := [d1, d2, d3] }
  | _ => none }
def SumAddsWrongFalsely : Prop := sumAddsRow.holds Try.pinned (OpenSpec.ofChange sumAddsWrong)

/-- 'trunnionlaw04.SumOrder': WHATEVER THE INPUT: true; the input reads as it did. -/
def sumOrderSpec : ChangeSpec := { name := "sumOrder", fn := fun _ => fun
  | [d1, d2] => { results := [.lit (.bool true)], args := [d1, d2] }
  | _ => none }
def sumOrderRow : OpenClaim := { program := "ytgcgheilbngcoaa", sum := "9d00d4d6fe47341d64c2457b84ffb073f8b5aea0bbfc101161a82a6b302f0bb5", func := "trunnion/trunnionlaw04.SumOrder", spec := "sumOrder", inPlace := ["math/bits.Add64", "math/bits.Sub64"], apart := false }
def SumOrderSaid : Prop := sumOrderRow.holds Try.pinned (OpenSpec.ofChange sumOrderSpec)

/-- ITS FALSE NEIGHBOUR: 'it returns false'. Refute it at one input. -/
def sumOrderWrong : ChangeSpec := { name := "sumOrder", fn := fun _ => fun
  | [d1, d2] => { results := [.lit (.bool false)], args := [d1, d2] }
  | _ => none }
def SumOrderWrongFalsely : Prop := sumOrderRow.holds Try.pinned (OpenSpec.ofChange sumOrderWrong)

/-- 'trunnionlaw04.SumClose': WHATEVER THE INPUT: true; the input reads as it did. -/
def sumCloseSpec : ChangeSpec := { name := "sumClose", fn := fun _ => fun
  | [d1, d2, d3] => { results := [.lit (.bool true)], args := [d1, d2, d3] }
  | _ => none }
def sumCloseRow : OpenClaim := { program := "ytgcgheilbngcoaa", sum := "9d00d4d6fe47341d64c2457b84ffb073f8b5aea0bbfc101161a82a6b302f0bb5", func := "trunnion/trunnionlaw04.SumClose", spec := "sumClose", inPlace := ["math/bits.Add64", "math/bits.Sub64"], apart := false }
def SumCloseSaid : Prop := sumCloseRow.holds Try.pinned (OpenSpec.ofChange sumCloseSpec)

/-- ITS FALSE NEIGHBOUR: 'it returns false'. Refute it at one input. -/
def sumCloseWrong : ChangeSpec := { name := "sumClose", fn := fun _ => fun
  | [d1, d2, d3] => { results := [.lit (.bool false)], args := [d1, d2, d3] }
  | _ => none }
def SumCloseWrongFalsely : Prop := sumCloseRow.holds Try.pinned (OpenSpec.ofChange sumCloseWrong)

/-- 'trunnionlaw04.SumTotals': WHATEVER THE INPUT: true; the input reads as it did. -/
def sumTotalsSpec : ChangeSpec := { name := "sumTotals", fn := fun _ => fun
  | [d1, d2] => { results := [.lit (.bool true)], args := [d1, d2] }
  | _ => none }
def sumTotalsRow : OpenClaim := { program := "ytgcgheilbngcoaa", sum := "9d00d4d6fe47341d64c2457b84ffb073f8b5aea0bbfc101161a82a6b302f0bb5", func := "trunnion/trunnionlaw04.SumTotals", spec := "sumTotals", inPlace := ["math/bits.Add64", "math/bits.Sub64"], apart := false }
def SumTotalsSaid : Prop := sumTotalsRow.holds Try.pinned (OpenSpec.ofChange sumTotalsSpec)

/-- ITS FALSE NEIGHBOUR: 'it returns false'. Refute it at one input. -/
def sumTotalsWrong : ChangeSpec := { name := "sumTotals", fn := fun _ => fun
  | [d1, d2] => { results := [.lit (.bool false)], args := [d1, d2] }
  | _ => none }
def SumTotalsWrongFalsely : Prop := sumTotalsRow.holds Try.pinned (OpenSpec.ofChange sumTotalsWrong)

/-- 'trunnionlaw06.QuotientScale': WHATEVER THE INPUT: true; the input reads as it did. -/
def quotientScaleSpec : ChangeSpec := { name := "quotientScale", fn := fun _ => fun
  | [d1, d2, d3] => { results := [.lit (.bool true)], args := [d1, d2, d3] }
  | _ => none }
def quotientScaleRow : OpenClaim := { program := "ytgcgheilbngcoaa", sum := "9d00d4d6fe47341d64c2457b84ffb073f8b5aea0bbfc101161a82a6b302f0bb5", func := "trunnion/trunnionlaw06.QuotientScale", spec := "quotientScale", inPlace := ["math/bits.Add64"], named := ["math/bits.divideError", "math/bits.overflowError"], apart := false }
def QuotientScaleSaid : Prop := quotientScaleRow.holds Try.pinned (OpenSpec.ofChange quotientScaleSpec)

/-- ITS FALSE NEIGHBOUR: 'it returns false'. Refute it at one input. -/
def quotientScaleWrong : ChangeSpec := { name := "quotientScale", fn := fun _ => fun
  | [d1, d2, d3] => { results := [.lit (.bool false)], args := [d1, d2, d3] }
  | _ => none }
def QuotientScaleWrongFalsely : Prop := quotientScaleRow.holds Try.pinned (OpenSpec.ofChange quotientScaleWrong)

/-- 'trunnionlaw04.SumKeeps': WHATEVER THE INPUT: true; the input reads as it did. -/
def sumKeepsSpec : ChangeSpec := { name := "sumKeeps", fn := fun _ => fun
  | [d1, d2, d3] => { results := [.lit (.bool true)], args := [d1, d2, d3] }
  | _ => none }
def sumKeepsRow : OpenClaim := { program := "ytgcgheilbngcoaa", sum := "9d00d4d6fe47341d64c2457b84ffb073f8b5aea0bbfc101161a82a6b302f0bb5", func := "trunnion/trunnionlaw04.SumKeeps", spec := "sumKeeps", inPlace := ["math/bits.Add64", "math/bits.Sub64"], apart := false }
def SumKeepsSaid : Prop := sumKeepsRow.holds Try.pinned (OpenSpec.ofChange sumKeepsSpec)

/-- ITS FALSE NEIGHBOUR: 'it returns false'. Refute it at one input. -/
def sumKeepsWrong : ChangeSpec := { name := "sumKeeps", fn := fun _ => fun
  | [d1, d2, d3] => { results := [.lit (.bool false)], args := [d1, d2, d3] }
  | _ => none }
def SumKeepsWrongFalsely : Prop := sumKeepsRow.holds Try.pinned (OpenSpec.ofChange sumKeepsWrong)

/-- 'trunnionlaw09.WholeHalf': WHATEVER THE INPUT: true; the input reads as it did. -/
def wholeHalfSpec : ChangeSpec := { name := "wholeHalf", fn := fun _ => fun
  | [d1, d2] => { results := [.lit (.bool true)], args := [d1, d2] }
  | _ => none }
def wholeHalfRow : OpenClaim := { program := "ytgcgheilbngcoaa", sum := "9d00d4d6fe47341d64c2457b84ffb073f8b5aea0bbfc101161a82a6b302f0bb5", func := "trunnion/trunnionlaw09.WholeHalf", spec := "wholeHalf", inPlace := ["math/bits.Add64", "math/bits.Sub64"], unfollowed := true, recurses := true, apart := false }
def WholeHalfSaid : Prop := wholeHalfRow.holds Try.pinned (OpenSpec.ofChange wholeHalfSpec)

/-- ITS FALSE NEIGHBOUR: 'it returns false'. Refute it at one input. -/
def wholeHalfWrong : ChangeSpec := { name := "wholeHalf", fn := fun _ => fun
  | [d1, d2] => { results := [.lit (.bool false)], args := [d1, d2] }
  | _ => none }
def WholeHalfWrongFalsely : Prop := wholeHalfRow.holds Try.pinned (OpenSpec.ofChange wholeHalfWrong)

/-- 'trunnionlaw05.ProductTwice': WHATEVER THE INPUT: true; the input reads as it did. -/
def productTwiceSpec : ChangeSpec := { name := "productTwice", fn := fun _ => fun
  | [d1, d2] => { results := [.lit (.bool true)], args := [d1, d2] }
  | _ => none }
def productTwiceRow : OpenClaim := { program := "ytgcgheilbngcoaa", sum := "9d00d4d6fe47341d64c2457b84ffb073f8b5aea0bbfc101161a82a6b302f0bb5", func := "trunnion/trunnionlaw05.ProductTwice", spec := "productTwice", inPlace := ["math/bits.Add64", "math/bits.Sub64"], apart := false }
def ProductTwiceSaid : Prop := productTwiceRow.holds Try.pinned (OpenSpec.ofChange productTwiceSpec)

/-- ITS FALSE NEIGHBOUR: 'it returns false'. Refute it at one input. -/
def productTwiceWrong : ChangeSpec := { name := "productTwice", fn := fun _ => fun
  | [d1, d2] => { results := [.lit (.bool false)], args := [d1, d2] }
  | _ => none }
def ProductTwiceWrongFalsely : Prop := productTwiceRow.holds Try.pinned (OpenSpec.ofChange productTwiceWrong)

/- THE SECOND FORM. 'bulk': how many values and letters a reading holds, each counted each time it is reached (what is shared counts as often as it is met; a slice's spare places count too). A statement '..UptoSaid' is the law's where the arguments, and the package variables that the reading takes, are together of bulk at most 1048576: NARROWER than '..Said'. Prove '..Said' where nothing that the law and all that it calls make is longer than what came in: it says more and counts as full. Else prove '..UptoSaid'. A law counts once. -/
mutual
def uptoBulk {H : Type} : DataW H → Nat
  | .lit (.string bytes) => bytes.length + 1
  | .lit _ => 1
  | .nil => 1
  | .ptr d => uptoBulk d + 1
  | .slice elems spare => uptoBulkAll elems + uptoBulkAll spare + 1
  | .agg parts => uptoBulkAll parts + 1
  | .iface _ d => uptoBulk d + 1
  | .map entries => uptoBulkEntries entries + 1
  | .held _ => 1
def uptoBulkAll {H : Type} : List (DataW H) → Nat
  | [] => 0
  | d :: r => uptoBulk d + uptoBulkAll r
def uptoBulkEntries {H : Type} : List (Lit × DataW H) → Nat
  | [] => 0
  | x :: r => uptoBulkEntry x + uptoBulkEntries r
def uptoBulkEntry {H : Type} : Lit × DataW H → Nat
  | (.string bytes, d) => bytes.length + uptoBulk d + 1
  | (_, d) => uptoBulk d + 1
 end
def uptoSmall : (H : Type) → List (DataW H) → Bool := fun _ ds => decide (uptoBulkAll ds ≤ 1048576)
def OpenSpec.upto (s : _root_.Go.ChangeSpec) : _root_.Go.OpenSpec := { _root_.Go.OpenSpec.ofChange s with cond := some uptoSmall }

/-- 'trunnionlaw12.ChopTraps', WHERE WHAT IT READS IS OF BULK AT MOST 1048576: true; the input reads as it did. -/
def chopTrapsUptoRow : OpenClaim := { program := "ytgcgheilbngcoaa", sum := "9d00d4d6fe47341d64c2457b84ffb073f8b5aea0bbfc101161a82a6b302f0bb5", func := "trunnion/trunnionlaw12.ChopTraps", spec := "chopTraps", apart := false, narrowed := true }
def ChopTrapsUptoSaid : Prop := chopTrapsUptoRow.holds Try.pinned (OpenSpec.upto chopTrapsSpec)

/-- 'trunnionlaw12.ChopOrder', WHERE WHAT IT READS IS OF BULK AT MOST 1048576: true; the input reads as it did. -/
def chopOrderUptoRow : OpenClaim := { program := "ytgcgheilbngcoaa", sum := "9d00d4d6fe47341d64c2457b84ffb073f8b5aea0bbfc101161a82a6b302f0bb5", func := "trunnion/trunnionlaw12.ChopOrder", spec := "chopOrder", apart := false, narrowed := true }
def ChopOrderUptoSaid : Prop := chopOrderUptoRow.holds Try.pinned (OpenSpec.upto chopOrderSpec)

/-- 'trunnionlaw03.RoundPacks', WHERE WHAT IT READS IS OF BULK AT MOST 1048576: true; the input reads as it did. -/
def roundPacksUptoRow : OpenClaim := { program := "ytgcgheilbngcoaa", sum := "9d00d4d6fe47341d64c2457b84ffb073f8b5aea0bbfc101161a82a6b302f0bb5", func := "trunnion/trunnionlaw03.RoundPacks", spec := "roundPacks", inPlace := ["math/bits.Add64"], apart := false, narrowed := true }
def RoundPacksUptoSaid : Prop := roundPacksUptoRow.holds Try.pinned (OpenSpec.upto roundPacksSpec)

/-- 'trunnionlaw03.RoundRises', WHERE WHAT IT READS IS OF BULK AT MOST 1048576: true; the input reads as it did. -/
def roundRisesUptoRow : OpenClaim := { program := "ytgcgheilbngcoaa", sum := "9d00d4d6fe47341d64c2457b84ffb073f8b5aea0bbfc101161a82a6b302f0bb5", func := "trunnion/trunnionlaw03.RoundRises", spec := "roundRises", inPlace := ["math/bits.Add64"], apart := false, narrowed := true }
def RoundRisesUptoSaid : Prop := roundRisesUptoRow.holds Try.pinned (OpenSpec.upto roundRisesSpec)

/-- 'trunnionlaw03.RoundWholes', WHERE WHAT IT READS IS OF BULK AT MOST 1048576: true; the input reads as it did. -/
def roundWholesUptoRow : OpenClaim := { program := "ytgcgheilbngcoaa", sum := "9d00d4d6fe47341d64c2457b84ffb073f8b5aea0bbfc101161a82a6b302f0bb5", func := "trunnion/trunnionlaw03.RoundWholes", spec := "roundWholes", inPlace := ["math/bits.Add64"], apart := false, narrowed := true }
def RoundWholesUptoSaid : Prop := roundWholesUptoRow.holds Try.pinned (OpenSpec.upto roundWholesSpec)

/-- 'trunnionlaw03.RoundKeeps', WHERE WHAT IT READS IS OF BULK AT MOST 1048576: true; the input reads as it did. -/
def roundKeepsUptoRow : OpenClaim := { program := "ytgcgheilbngcoaa", sum := "9d00d4d6fe47341d64c2457b84ffb073f8b5aea0bbfc101161a82a6b302f0bb5", func := "trunnion/trunnionlaw03.RoundKeeps", spec := "roundKeeps", inPlace := ["math/bits.Add64"], apart := false, narrowed := true }
def RoundKeepsUptoSaid : Prop := roundKeepsUptoRow.holds Try.pinned (OpenSpec.upto roundKeepsSpec)

/-- 'trunnionlaw05.ProductMuls', WHERE WHAT IT READS IS OF BULK AT MOST 1048576: true; the input reads as it did. -/
def productMulsUptoRow : OpenClaim := { program := "ytgcgheilbngcoaa", sum := "9d00d4d6fe47341d64c2457b84ffb073f8b5aea0bbfc101161a82a6b302f0bb5", func := "trunnion/trunnionlaw05.ProductMuls", spec := "productMuls", inPlace := ["math/bits.Add64"], apart := false, narrowed := true }
def ProductMulsUptoSaid : Prop := productMulsUptoRow.holds Try.pinned (OpenSpec.upto productMulsSpec)

/-- 'trunnionlaw11.CastOrder', WHERE WHAT IT READS IS OF BULK AT MOST 1048576: true; the input reads as it did. -/
def castOrderUptoRow : OpenClaim := { program := "ytgcgheilbngcoaa", sum := "9d00d4d6fe47341d64c2457b84ffb073f8b5aea0bbfc101161a82a6b302f0bb5", func := "trunnion/trunnionlaw11.CastOrder", spec := "castOrder", inPlace := ["math/bits.Add64"], apart := false, narrowed := true }
def CastOrderUptoSaid : Prop := castOrderUptoRow.holds Try.pinned (OpenSpec.upto castOrderSpec)

/-- 'trunnionlaw11.CastTurns', WHERE WHAT IT READS IS OF BULK AT MOST 1048576: true; the input reads as it did. -/
def castTurnsUptoRow : OpenClaim := { program := "ytgcgheilbngcoaa", sum := "9d00d4d6fe47341d64c2457b84ffb073f8b5aea0bbfc101161a82a6b302f0bb5", func := "trunnion/trunnionlaw11.CastTurns", spec := "castTurns", inPlace := ["math/bits.Add64"], apart := false, narrowed := true }
def CastTurnsUptoSaid : Prop := castTurnsUptoRow.holds Try.pinned (OpenSpec.upto castTurnsSpec)

/-- 'trunnionlaw09.WholeMakes', WHERE WHAT IT READS IS OF BULK AT MOST 1048576: true; the input reads as it did. -/
def wholeMakesUptoRow : OpenClaim := { program := "ytgcgheilbngcoaa", sum := "9d00d4d6fe47341d64c2457b84ffb073f8b5aea0bbfc101161a82a6b302f0bb5", func := "trunnion/trunnionlaw09.WholeMakes", spec := "wholeMakes", inPlace := ["math/bits.Add64"], unfollowed := true, recurses := true, apart := false, narrowed := true }
def WholeMakesUptoSaid : Prop := wholeMakesUptoRow.holds Try.pinned (OpenSpec.upto wholeMakesSpec)

/-- 'trunnionlaw05.ProductScales', WHERE WHAT IT READS IS OF BULK AT MOST 1048576: true; the input reads as it did. -/
def productScalesUptoRow : OpenClaim := { program := "ytgcgheilbngcoaa", sum := "9d00d4d6fe47341d64c2457b84ffb073f8b5aea0bbfc101161a82a6b302f0bb5", func := "trunnion/trunnionlaw05.ProductScales", spec := "productScales", inPlace := ["math/bits.Add64"], apart := false, narrowed := true }
def ProductScalesUptoSaid : Prop := productScalesUptoRow.holds Try.pinned (OpenSpec.upto productScalesSpec)

/-- 'trunnionlaw07.RadixRoots', WHERE WHAT IT READS IS OF BULK AT MOST 1048576: true; the input reads as it did. -/
def radixRootsUptoRow : OpenClaim := { program := "ytgcgheilbngcoaa", sum := "9d00d4d6fe47341d64c2457b84ffb073f8b5aea0bbfc101161a82a6b302f0bb5", func := "trunnion/trunnionlaw07.RadixRoots", spec := "radixRoots", inPlace := ["math/bits.Add64"], apart := false, narrowed := true }
def RadixRootsUptoSaid : Prop := radixRootsUptoRow.holds Try.pinned (OpenSpec.upto radixRootsSpec)

/-- 'trunnionlaw09.WholeKeeps', WHERE WHAT IT READS IS OF BULK AT MOST 1048576: true; the input reads as it did. -/
def wholeKeepsUptoRow : OpenClaim := { program := "ytgcgheilbngcoaa", sum := "9d00d4d6fe47341d64c2457b84ffb073f8b5aea0bbfc101161a82a6b302f0bb5", func := "trunnion/trunnionlaw09.WholeKeeps", spec := "wholeKeeps", inPlace := ["math/bits.Add64"], unfollowed := true, recurses := true, apart := false, narrowed := true }
def WholeKeepsUptoSaid : Prop := wholeKeepsUptoRow.holds Try.pinned (OpenSpec.upto wholeKeepsSpec)

/-- 'trunnionlaw05.ProductKeeps', WHERE WHAT IT READS IS OF BULK AT MOST 1048576: true; the input reads as it did. -/
def productKeepsUptoRow : OpenClaim := { program := "ytgcgheilbngcoaa", sum := "9d00d4d6fe47341d64c2457b84ffb073f8b5aea0bbfc101161a82a6b302f0bb5", func := "trunnion/trunnionlaw05.ProductKeeps", spec := "productKeeps", inPlace := ["math/bits.Add64"], apart := false, narrowed := true }
def ProductKeepsUptoSaid : Prop := productKeepsUptoRow.holds Try.pinned (OpenSpec.upto productKeepsSpec)

/-- 'trunnionlaw07.RadixKeeps', WHERE WHAT IT READS IS OF BULK AT MOST 1048576: true; the input reads as it did. -/
def radixKeepsUptoRow : OpenClaim := { program := "ytgcgheilbngcoaa", sum := "9d00d4d6fe47341d64c2457b84ffb073f8b5aea0bbfc101161a82a6b302f0bb5", func := "trunnion/trunnionlaw07.RadixKeeps", spec := "radixKeeps", inPlace := ["math/bits.Add64"], apart := false, narrowed := true }
def RadixKeepsUptoSaid : Prop := radixKeepsUptoRow.holds Try.pinned (OpenSpec.upto radixKeepsSpec)

/-- 'trunnionlaw06.QuotientDivs', WHERE WHAT IT READS IS OF BULK AT MOST 1048576: true; the input reads as it did. -/
def quotientDivsUptoRow : OpenClaim := { program := "ytgcgheilbngcoaa", sum := "9d00d4d6fe47341d64c2457b84ffb073f8b5aea0bbfc101161a82a6b302f0bb5", func := "trunnion/trunnionlaw06.QuotientDivs", spec := "quotientDivs", inPlace := ["math/bits.Add64"], named := ["math/bits.divideError", "math/bits.overflowError"], apart := false, narrowed := true }
def QuotientDivsUptoSaid : Prop := quotientDivsUptoRow.holds Try.pinned (OpenSpec.upto quotientDivsSpec)

/-- 'trunnionlaw07.RadixScale', WHERE WHAT IT READS IS OF BULK AT MOST 1048576: true; the input reads as it did. -/
def radixScaleUptoRow : OpenClaim := { program := "ytgcgheilbngcoaa", sum := "9d00d4d6fe47341d64c2457b84ffb073f8b5aea0bbfc101161a82a6b302f0bb5", func := "trunnion/trunnionlaw07.RadixScale", spec := "radixScale", inPlace := ["math/bits.Add64"], apart := false, narrowed := true }
def RadixScaleUptoSaid : Prop := radixScaleUptoRow.holds Try.pinned (OpenSpec.upto radixScaleSpec)

/-- 'trunnionlaw06.QuotientKeeps', WHERE WHAT IT READS IS OF BULK AT MOST 1048576: true; the input reads as it did. -/
def quotientKeepsUptoRow : OpenClaim := { program := "ytgcgheilbngcoaa", sum := "9d00d4d6fe47341d64c2457b84ffb073f8b5aea0bbfc101161a82a6b302f0bb5", func := "trunnion/trunnionlaw06.QuotientKeeps", spec := "quotientKeeps", inPlace := ["math/bits.Add64"], named := ["math/bits.divideError", "math/bits.overflowError"], apart := false, narrowed := true }
def QuotientKeepsUptoSaid : Prop := quotientKeepsUptoRow.holds Try.pinned (OpenSpec.upto quotientKeepsSpec)

/-- 'trunnionlaw04.SumAdds', WHERE WHAT IT READS IS OF BULK AT MOST 1048576: true; the input reads as it did. -/
def sumAddsUptoRow : OpenClaim := { program := "ytgcgheilbngcoaa", sum := "9d00d4d6fe47341d64c2457b84ffb073f8b5aea0bbfc101161a82a6b302f0bb5", func := "trunnion/trunnionlaw04.SumAdds", spec := "sumAdds", inPlace := ["math/bits.Add64", "math/bits.Sub64"], apart := false, narrowed := true }
def SumAddsUptoSaid : Prop := sumAddsUptoRow.holds Try.pinned (OpenSpec.upto sumAddsSpec)

/-- 'trunnionlaw04.SumOrder', WHERE WHAT IT READS IS OF BULK AT MOST 1048576: true; the input reads as it did. -/
def sumOrderUptoRow : OpenClaim := { program := "ytgcgheilbngcoaa", sum := "9d00d4d6fe47341d64c2457b84ffb073f8b5aea0bbfc101161a82a6b302f0bb5", func := "trunnion/trunnionlaw04.SumOrder", spec := "sumOrder", inPlace := ["math/bits.Add64", "math/bits.Sub64"], apart := false, narrowed := true }
def SumOrderUptoSaid : Prop := sumOrderUptoRow.holds Try.pinned (OpenSpec.upto sumOrderSpec)

/-- 'trunnionlaw04.SumClose', WHERE WHAT IT READS IS OF BULK AT MOST 1048576: true; the input reads as it did. -/
def sumCloseUptoRow : OpenClaim := { program := "ytgcgheilbngcoaa", sum := "9d00d4d6fe47341d64c2457b84ffb073f8b5aea0bbfc101161a82a6b302f0bb5", func := "trunnion/trunnionlaw04.SumClose", spec := "sumClose", inPlace := ["math/bits.Add64", "math/bits.Sub64"], apart := false, narrowed := true }
def SumCloseUptoSaid : Prop := sumCloseUptoRow.holds Try.pinned (OpenSpec.upto sumCloseSpec)

/-- 'trunnionlaw04.SumTotals', WHERE WHAT IT READS IS OF BULK AT MOST 1048576: true; the input reads as it did. -/
def sumTotalsUptoRow : OpenClaim := { program := "ytgcgheilbngcoaa", sum := "9d00d4d6fe47341d64c2457b84ffb073f8b5aea0bbfc101161a82a6b302f0bb5", func := "trunnion/trunnionlaw04.SumTotals", spec := "sumTotals", inPlace := ["math/bits.Add64", "math/bits.Sub64"], apart := false, narrowed := true }
def SumTotalsUptoSaid : Prop := sumTotalsUptoRow.holds Try.pinned (OpenSpec.upto sumTotalsSpec)

/-- 'trunnionlaw06.QuotientScale', WHERE WHAT IT READS IS OF BULK AT MOST 1048576: true; the input reads as it did. -/
def quotientScaleUptoRow : OpenClaim := { program := "ytgcgheilbngcoaa", sum := "9d00d4d6fe47341d64c2457b84ffb073f8b5aea0bbfc101161a82a6b302f0bb5", func := "trunnion/trunnionlaw06.QuotientScale", spec := "quotientScale", inPlace := ["math/bits.Add64"], named := ["math/bits.divideError", "math/bits.overflowError"], apart := false, narrowed := true }
def QuotientScaleUptoSaid : Prop := quotientScaleUptoRow.holds Try.pinned (OpenSpec.upto quotientScaleSpec)

/-- 'trunnionlaw04.SumKeeps', WHERE WHAT IT READS IS OF BULK AT MOST 1048576: true; the input reads as it did. -/
def sumKeepsUptoRow : OpenClaim := { program := "ytgcgheilbngcoaa", sum := "9d00d4d6fe47341d64c2457b84ffb073f8b5aea0bbfc101161a82a6b302f0bb5", func := "trunnion/trunnionlaw04.SumKeeps", spec := "sumKeeps", inPlace := ["math/bits.Add64", "math/bits.Sub64"], apart := false, narrowed := true }
def SumKeepsUptoSaid : Prop := sumKeepsUptoRow.holds Try.pinned (OpenSpec.upto sumKeepsSpec)

/-- 'trunnionlaw09.WholeHalf', WHERE WHAT IT READS IS OF BULK AT MOST 1048576: true; the input reads as it did. -/
def wholeHalfUptoRow : OpenClaim := { program := "ytgcgheilbngcoaa", sum := "9d00d4d6fe47341d64c2457b84ffb073f8b5aea0bbfc101161a82a6b302f0bb5", func := "trunnion/trunnionlaw09.WholeHalf", spec := "wholeHalf", inPlace := ["math/bits.Add64", "math/bits.Sub64"], unfollowed := true, recurses := true, apart := false, narrowed := true }
def WholeHalfUptoSaid : Prop := wholeHalfUptoRow.holds Try.pinned (OpenSpec.upto wholeHalfSpec)

/-- 'trunnionlaw05.ProductTwice', WHERE WHAT IT READS IS OF BULK AT MOST 1048576: true; the input reads as it did. -/
def productTwiceUptoRow : OpenClaim := { program := "ytgcgheilbngcoaa", sum := "9d00d4d6fe47341d64c2457b84ffb073f8b5aea0bbfc101161a82a6b302f0bb5", func := "trunnion/trunnionlaw05.ProductTwice", spec := "productTwice", inPlace := ["math/bits.Add64", "math/bits.Sub64"], apart := false, narrowed := true }
def ProductTwiceUptoSaid : Prop := productTwiceUptoRow.holds Try.pinned (OpenSpec.upto productTwiceSpec)

end Rows
end Go.Proofs.Ytgcgheilbngcoaa
