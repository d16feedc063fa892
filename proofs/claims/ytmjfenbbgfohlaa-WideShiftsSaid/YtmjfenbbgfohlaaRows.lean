/-
  No cell of these rows narrows 'for every input' (looked for: loops, veiled, ifaces, maps, wideKeys, modest, calm, conditions, laid).
  DERIVED. THE GIVEN ROWS OF THIS SEAT. 22 by the template 'for every input the law returns true; each argument reads behind the call as it read before'; 0 by the template 'total and deterministic' (their statements: YtmjfenbbgfohlaaTotals.lean).
  GIVEN WITH THE SEED: the statements are not yours to turn. If you find one false, say at which input.
  Laid BY PROGRAM, IN A SANDBOX (cutbox-rows.mjs): the forced cells as the released guide's own fill.sh prints them over the translation 65e585010441d0cb… (all of the seat's roots in one cut). By AI agents, Wed Nov 11 2026. No macro, syntax, notation, axiom, sorry.
-/
import Derived.Test.YtmjfenbbgfohlaaChecked
import GoSem.Claim
import GoSem.ClaimJoined
import GoSem.ClaimMapViews
import Derived.JoinedTies
import Derived.KernelRfl
namespace Go.Proofs.Ytmjfenbbgfohlaa
/- THE CELL 'sum', in the pinned program and in every row, IS THE sha256 OF THE DUMP (.gsa) THAT YtmjfenbbgfohlaaProg.lean LOADS. Nothing in Lean hashes anything: it is a label: what it is worth is what the hold of that sum in a sandbox is worth. -/
noncomputable def Try.pinned : Pinned := { name := "ytmjfenbbgfohlaa", sum := "65e585010441d0cbdf27f0591e61541147b33f08f16b16fe0d4bdc0e67c56a3a", checked := Try.checked }
namespace Rows
def none {H : Type} : Left H := { results := [], args := [] }

/-- 'trunnionlaw10.SignAgain': WHATEVER THE INPUT: true; the input reads as it did. -/
def signAgainSpec : ChangeSpec := { name := "signAgain", fn := fun _ => fun
  | [d1, d2] => { results := [.lit (.bool true)], args := [d1, d2] }
  | _ => none }
def signAgainRow : OpenClaim := { program := "ytmjfenbbgfohlaa", sum := "65e585010441d0cbdf27f0591e61541147b33f08f16b16fe0d4bdc0e67c56a3a", func := "trunnion/trunnionlaw10.SignAgain", spec := "signAgain", apart := false }
def SignAgainSaid : Prop := signAgainRow.holds Try.pinned (OpenSpec.ofChange signAgainSpec)

/-- ITS FALSE NEIGHBOUR: 'it returns false'. Refute it at one input. -/
def signAgainWrong : ChangeSpec := { name := "signAgain", fn := fun _ => fun
  | [d1, d2] => { results := [.lit (.bool false)], args := [d1, d2] }
  | _ => none }
def SignAgainWrongFalsely : Prop := signAgainRow.holds Try.pinned (OpenSpec.ofChange signAgainWrong)

/-- 'trunnionlaw10.SignTurns': WHATEVER THE INPUT: true; the input reads as it did. -/
def signTurnsSpec : ChangeSpec := { name := "signTurns", fn := fun _ => fun
  | [d1, d2, d3] => { results := [.lit (.bool true)], args := [d1, d2, d3] }
  | _ => none }
def signTurnsRow : OpenClaim := { program := "ytmjfenbbgfohlaa", sum := "65e585010441d0cbdf27f0591e61541147b33f08f16b16fe0d4bdc0e67c56a3a", func := "trunnion/trunnionlaw10.SignTurns", spec := "signTurns", apart := false }
def SignTurnsSaid : Prop := signTurnsRow.holds Try.pinned (OpenSpec.ofChange signTurnsSpec)

/-- ITS FALSE NEIGHBOUR: 'it returns false'. Refute it at one input. -/
def signTurnsWrong : ChangeSpec := { name := "signTurns", fn := fun _ => fun
  | [d1, d2, d3] => { results := [.lit (.bool false)], args := [d1, d2, d3] }
  | _ => none }
def SignTurnsWrongFalsely : Prop := signTurnsRow.holds Try.pinned (OpenSpec.ofChange signTurnsWrong)

/-- 'trunnionlaw10.SignBack': WHATEVER THE INPUT: true; the input reads as it did. -/
def signBackSpec : ChangeSpec := { name := "signBack", fn := fun _ => fun
  | [d1, d2, d3] => { results := [.lit (.bool true)], args := [d1, d2, d3] }
  | _ => none }
def signBackRow : OpenClaim := { program := "ytmjfenbbgfohlaa", sum := "65e585010441d0cbdf27f0591e61541147b33f08f16b16fe0d4bdc0e67c56a3a", func := "trunnion/trunnionlaw10.SignBack", spec := "signBack", apart := false }
def SignBackSaid : Prop := signBackRow.holds Try.pinned (OpenSpec.ofChange signBackSpec)

/-- ITS FALSE NEIGHBOUR: 'it returns false'. Refute it at one input. -/
def signBackWrong : ChangeSpec := { name := "signBack", fn := fun _ => fun
  | [d1, d2, d3] => { results := [.lit (.bool false)], args := [d1, d2, d3] }
  | _ => none }
def SignBackWrongFalsely : Prop := signBackRow.holds Try.pinned (OpenSpec.ofChange signBackWrong)

/-- 'trunnionlaw13.IntsSums': WHATEVER THE INPUT: true; the input reads as it did. -/
def intsSumsSpec : ChangeSpec := { name := "intsSums", fn := fun _ => fun
  | [d1, d2, d3] => { results := [.lit (.bool true)], args := [d1, d2, d3] }
  | _ => none }
def intsSumsRow : OpenClaim := { program := "ytmjfenbbgfohlaa", sum := "65e585010441d0cbdf27f0591e61541147b33f08f16b16fe0d4bdc0e67c56a3a", func := "trunnion/trunnionlaw13.IntsSums", spec := "intsSums", unfollowed := true, recurses := true, apart := false }
def IntsSumsSaid : Prop := intsSumsRow.holds Try.pinned (OpenSpec.ofChange intsSumsSpec)

/-- ITS FALSE NEIGHBOUR: 'it returns false'. Refute it at one input. -/
def intsSumsWrong : ChangeSpec := { name := "intsSums", fn := fun _ => fun
  | [d1, d2, d3] => { results := [.lit (.bool false)], args := [d1, d2, d3] }
  | _ => none }
def IntsSumsWrongFalsely : Prop := intsSumsRow.holds Try.pinned (OpenSpec.ofChange intsSumsWrong)

/-- 'trunnionlaw02.ShapeOrder': WHATEVER THE INPUT: true; the input reads as it did. -/
def shapeOrderSpec : ChangeSpec := { name := "shapeOrder", fn := fun _ => fun
  | [d1, d2, d3] => { results := [.lit (.bool true)], args := [d1, d2, d3] }
  | _ => none }
def shapeOrderRow : OpenClaim := { program := "ytmjfenbbgfohlaa", sum := "65e585010441d0cbdf27f0591e61541147b33f08f16b16fe0d4bdc0e67c56a3a", func := "trunnion/trunnionlaw02.ShapeOrder", spec := "shapeOrder", apart := false }
def ShapeOrderSaid : Prop := shapeOrderRow.holds Try.pinned (OpenSpec.ofChange shapeOrderSpec)

/-- ITS FALSE NEIGHBOUR: 'it returns false'. Refute it at one input. -/
def shapeOrderWrong : ChangeSpec := { name := "shapeOrder", fn := fun _ => fun
  | [d1, d2, d3] => { results := [.lit (.bool false)], args := [d1, d2, d3] }
  | _ => none }
def ShapeOrderWrongFalsely : Prop := shapeOrderRow.holds Try.pinned (OpenSpec.ofChange shapeOrderWrong)

/-- 'trunnionlaw02.ShapeOpens': WHATEVER THE INPUT: true; the input reads as it did. -/
def shapeOpensSpec : ChangeSpec := { name := "shapeOpens", fn := fun _ => fun
  | [d1, d2] => { results := [.lit (.bool true)], args := [d1, d2] }
  | _ => none }
def shapeOpensRow : OpenClaim := { program := "ytmjfenbbgfohlaa", sum := "65e585010441d0cbdf27f0591e61541147b33f08f16b16fe0d4bdc0e67c56a3a", func := "trunnion/trunnionlaw02.ShapeOpens", spec := "shapeOpens", apart := false }
def ShapeOpensSaid : Prop := shapeOpensRow.holds Try.pinned (OpenSpec.ofChange shapeOpensSpec)

/-- ITS FALSE NEIGHBOUR: 'it returns false'. Refute it at one input. -/
def shapeOpensWrong : ChangeSpec := { name := "shapeOpens", fn := fun _ => fun
  | [d1, d2] => { results := [.lit (.bool false)], args := [d1, d2] }
  | _ => none }
def ShapeOpensWrongFalsely : Prop := shapeOpensRow.holds Try.pinned (OpenSpec.ofChange shapeOpensWrong)

/-- 'trunnionlaw13.IntsShifts': WHATEVER THE INPUT: true; the input reads as it did. -/
def intsShiftsSpec : ChangeSpec := { name := "intsShifts", fn := fun _ => fun
  | [d1, d2, d3] => { results := [.lit (.bool true)], args := [d1, d2, d3] }
  | _ => none }
def intsShiftsRow : OpenClaim := { program := "ytmjfenbbgfohlaa", sum := "65e585010441d0cbdf27f0591e61541147b33f08f16b16fe0d4bdc0e67c56a3a", func := "trunnion/trunnionlaw13.IntsShifts", spec := "intsShifts", unfollowed := true, recurses := true, apart := false }
def IntsShiftsSaid : Prop := intsShiftsRow.holds Try.pinned (OpenSpec.ofChange intsShiftsSpec)

/-- ITS FALSE NEIGHBOUR: 'it returns false'. Refute it at one input. -/
def intsShiftsWrong : ChangeSpec := { name := "intsShifts", fn := fun _ => fun
  | [d1, d2, d3] => { results := [.lit (.bool false)], args := [d1, d2, d3] }
  | _ => none }
def IntsShiftsWrongFalsely : Prop := intsShiftsRow.holds Try.pinned (OpenSpec.ofChange intsShiftsWrong)

/-- 'trunnionlaw01.WideRoots': WHATEVER THE INPUT: true; the input reads as it did. -/
def wideRootsSpec : ChangeSpec := { name := "wideRoots", fn := fun _ => fun
  | [d] => { results := [.lit (.bool true)], args := [d] }
  | _ => none }
def wideRootsRow : OpenClaim := { program := "ytmjfenbbgfohlaa", sum := "65e585010441d0cbdf27f0591e61541147b33f08f16b16fe0d4bdc0e67c56a3a", func := "trunnion/trunnionlaw01.WideRoots", spec := "wideRoots", apart := false }
def WideRootsSaid : Prop := wideRootsRow.holds Try.pinned (OpenSpec.ofChange wideRootsSpec)

/-- ITS FALSE NEIGHBOUR: 'it returns false'. Refute it at one input. -/
def wideRootsWrong : ChangeSpec := { name := "wideRoots", fn := fun _ => fun
  | [d] => { results := [.lit (.bool false)], args := [d] }
  | _ => none }
def WideRootsWrongFalsely : Prop := wideRootsRow.holds Try.pinned (OpenSpec.ofChange wideRootsWrong)

/-- 'trunnionlaw02.ShapeEnds': WHATEVER THE INPUT: true; the input reads as it did. -/
def shapeEndsSpec : ChangeSpec := { name := "shapeEnds", fn := fun _ => fun
  | [d1, d2] => { results := [.lit (.bool true)], args := [d1, d2] }
  | _ => none }
def shapeEndsRow : OpenClaim := { program := "ytmjfenbbgfohlaa", sum := "65e585010441d0cbdf27f0591e61541147b33f08f16b16fe0d4bdc0e67c56a3a", func := "trunnion/trunnionlaw02.ShapeEnds", spec := "shapeEnds", apart := false }
def ShapeEndsSaid : Prop := shapeEndsRow.holds Try.pinned (OpenSpec.ofChange shapeEndsSpec)

/-- ITS FALSE NEIGHBOUR: 'it returns false'. Refute it at one input. -/
def shapeEndsWrong : ChangeSpec := { name := "shapeEnds", fn := fun _ => fun
  | [d1, d2] => { results := [.lit (.bool false)], args := [d1, d2] }
  | _ => none }
def ShapeEndsWrongFalsely : Prop := shapeEndsRow.holds Try.pinned (OpenSpec.ofChange shapeEndsWrong)

/-- 'trunnionlaw13.IntsDivs': WHATEVER THE INPUT: true; the input reads as it did. -/
def intsDivsSpec : ChangeSpec := { name := "intsDivs", fn := fun _ => fun
  | [d1, d2, d3] => { results := [.lit (.bool true)], args := [d1, d2, d3] }
  | _ => none }
def intsDivsRow : OpenClaim := { program := "ytmjfenbbgfohlaa", sum := "65e585010441d0cbdf27f0591e61541147b33f08f16b16fe0d4bdc0e67c56a3a", func := "trunnion/trunnionlaw13.IntsDivs", spec := "intsDivs", unfollowed := true, recurses := true, apart := false }
def IntsDivsSaid : Prop := intsDivsRow.holds Try.pinned (OpenSpec.ofChange intsDivsSpec)

/-- ITS FALSE NEIGHBOUR: 'it returns false'. Refute it at one input. -/
def intsDivsWrong : ChangeSpec := { name := "intsDivs", fn := fun _ => fun
  | [d1, d2, d3] => { results := [.lit (.bool false)], args := [d1, d2, d3] }
  | _ => none }
def IntsDivsWrongFalsely : Prop := intsDivsRow.holds Try.pinned (OpenSpec.ofChange intsDivsWrong)

/-- 'trunnionlaw13.IntsPowers': WHATEVER THE INPUT: true; the input reads as it did. -/
def intsPowersSpec : ChangeSpec := { name := "intsPowers", fn := fun _ => fun
  | [d1, d2, d3] => { results := [.lit (.bool true)], args := [d1, d2, d3] }
  | _ => none }
def intsPowersRow : OpenClaim := { program := "ytmjfenbbgfohlaa", sum := "65e585010441d0cbdf27f0591e61541147b33f08f16b16fe0d4bdc0e67c56a3a", func := "trunnion/trunnionlaw13.IntsPowers", spec := "intsPowers", unfollowed := true, recurses := true, apart := false }
def IntsPowersSaid : Prop := intsPowersRow.holds Try.pinned (OpenSpec.ofChange intsPowersSpec)

/-- ITS FALSE NEIGHBOUR: 'it returns false'. Refute it at one input. -/
def intsPowersWrong : ChangeSpec := { name := "intsPowers", fn := fun _ => fun
  | [d1, d2, d3] => { results := [.lit (.bool false)], args := [d1, d2, d3] }
  | _ => none }
def IntsPowersWrongFalsely : Prop := intsPowersRow.holds Try.pinned (OpenSpec.ofChange intsPowersWrong)

/-- 'trunnionlaw01.WideShifts': WHATEVER THE INPUT: true; the input reads as it did. -/
def wideShiftsSpec : ChangeSpec := { name := "wideShifts", fn := fun _ => fun
  | [d1, d2] => { results := [.lit (.bool true)], args := [d1, d2] }
  | _ => none }
def wideShiftsRow : OpenClaim := { program := "ytmjfenbbgfohlaa", sum := "65e585010441d0cbdf27f0591e61541147b33f08f16b16fe0d4bdc0e67c56a3a", func := "trunnion/trunnionlaw01.WideShifts", spec := "wideShifts", apart := false }
def WideShiftsSaid : Prop := wideShiftsRow.holds Try.pinned (OpenSpec.ofChange wideShiftsSpec)

/-- ITS FALSE NEIGHBOUR: 'it returns false'. Refute it at one input. -/
def wideShiftsWrong : ChangeSpec := { name := "wideShifts", fn := fun _ => fun
  | [d1, d2] => { results := [.lit (.bool false)], args := [d1, d2] }
  | _ => none }
def WideShiftsWrongFalsely : Prop := wideShiftsRow.holds Try.pinned (OpenSpec.ofChange wideShiftsWrong)

/-- 'trunnionlaw01.WideLens': WHATEVER THE INPUT: true; the input reads as it did. -/
def wideLensSpec : ChangeSpec := { name := "wideLens", fn := fun _ => fun
  | [d1, d2] => { results := [.lit (.bool true)], args := [d1, d2] }
  | _ => none }
def wideLensRow : OpenClaim := { program := "ytmjfenbbgfohlaa", sum := "65e585010441d0cbdf27f0591e61541147b33f08f16b16fe0d4bdc0e67c56a3a", func := "trunnion/trunnionlaw01.WideLens", spec := "wideLens", apart := false }
def WideLensSaid : Prop := wideLensRow.holds Try.pinned (OpenSpec.ofChange wideLensSpec)

/-- ITS FALSE NEIGHBOUR: 'it returns false'. Refute it at one input. -/
def wideLensWrong : ChangeSpec := { name := "wideLens", fn := fun _ => fun
  | [d1, d2] => { results := [.lit (.bool false)], args := [d1, d2] }
  | _ => none }
def WideLensWrongFalsely : Prop := wideLensRow.holds Try.pinned (OpenSpec.ofChange wideLensWrong)

/-- 'trunnionlaw01.WideSums': WHATEVER THE INPUT: true; the input reads as it did. -/
def wideSumsSpec : ChangeSpec := { name := "wideSums", fn := fun _ => fun
  | [d1, d2] => { results := [.lit (.bool true)], args := [d1, d2] }
  | _ => none }
def wideSumsRow : OpenClaim := { program := "ytmjfenbbgfohlaa", sum := "65e585010441d0cbdf27f0591e61541147b33f08f16b16fe0d4bdc0e67c56a3a", func := "trunnion/trunnionlaw01.WideSums", spec := "wideSums", inPlace := ["math/bits.Add64", "math/bits.Sub64"], apart := false }
def WideSumsSaid : Prop := wideSumsRow.holds Try.pinned (OpenSpec.ofChange wideSumsSpec)

/-- ITS FALSE NEIGHBOUR: 'it returns false'. Refute it at one input. -/
def wideSumsWrong : ChangeSpec := { name := "wideSums", fn := fun _ => fun
  | [d1, d2] => { results := [.lit (.bool false)], args := [d1, d2] }
  | _ => none }
def WideSumsWrongFalsely : Prop := wideSumsRow.holds Try.pinned (OpenSpec.ofChange wideSumsWrong)

/-- 'trunnionlaw08.OrderPicks': WHATEVER THE INPUT: true; the input reads as it did. -/
def orderPicksSpec : ChangeSpec := { name := "orderPicks", fn := fun _ => fun
  | [d1, d2, d3] => { results := [.lit (.bool true)], args := [d1, d2, d3] }
  | _ => none }
def orderPicksRow : OpenClaim := { program := "ytmjfenbbgfohlaa", sum := "65e585010441d0cbdf27f0591e61541147b33f08f16b16fe0d4bdc0e67c56a3a", func := "trunnion/trunnionlaw08.OrderPicks", spec := "orderPicks", unfollowed := true, recurses := true, apart := false }
def OrderPicksSaid : Prop := orderPicksRow.holds Try.pinned (OpenSpec.ofChange orderPicksSpec)

/-- ITS FALSE NEIGHBOUR: 'it returns false'. Refute it at one input. -/
def orderPicksWrong : ChangeSpec := { name := "orderPicks", fn := fun _ => fun
  | [d1, d2, d3] => { results := [.lit (.bool false)], args := [d1, d2, d3] }
  | _ => none }
def OrderPicksWrongFalsely : Prop := orderPicksRow.holds Try.pinned (OpenSpec.ofChange orderPicksWrong)

/-- 'trunnionlaw02.ShapeBack': WHATEVER THE INPUT: true; the input reads as it did. -/
def shapeBackSpec : ChangeSpec := { name := "shapeBack", fn := fun _ => fun
  | [d1, d2] => { results := [.lit (.bool true)], args := [d1, d2] }
  | _ => none }
def shapeBackRow : OpenClaim := { program := "ytmjfenbbgfohlaa", sum := "65e585010441d0cbdf27f0591e61541147b33f08f16b16fe0d4bdc0e67c56a3a", func := "trunnion/trunnionlaw02.ShapeBack", spec := "shapeBack", apart := false }
def ShapeBackSaid : Prop := shapeBackRow.holds Try.pinned (OpenSpec.ofChange shapeBackSpec)

/-- ITS FALSE NEIGHBOUR: 'it returns false'. Refute it at one input. -/
def shapeBackWrong : ChangeSpec := { name := "shapeBack", fn := fun _ => fun
  | [d1, d2] => { results := [.lit (.bool false)], args := [d1, d2] }
  | _ => none }
def ShapeBackWrongFalsely : Prop := shapeBackRow.holds Try.pinned (OpenSpec.ofChange shapeBackWrong)

/-- 'trunnionlaw08.OrderAsks': WHATEVER THE INPUT: true; the input reads as it did. -/
def orderAsksSpec : ChangeSpec := { name := "orderAsks", fn := fun _ => fun
  | [d1, d2, d3] => { results := [.lit (.bool true)], args := [d1, d2, d3] }
  | _ => none }
def orderAsksRow : OpenClaim := { program := "ytmjfenbbgfohlaa", sum := "65e585010441d0cbdf27f0591e61541147b33f08f16b16fe0d4bdc0e67c56a3a", func := "trunnion/trunnionlaw08.OrderAsks", spec := "orderAsks", unfollowed := true, recurses := true, apart := false }
def OrderAsksSaid : Prop := orderAsksRow.holds Try.pinned (OpenSpec.ofChange orderAsksSpec)

/-- ITS FALSE NEIGHBOUR: 'it returns false'. Refute it at one input. -/
def orderAsksWrong : ChangeSpec := { name := "orderAsks", fn := fun _ => fun
  | [d1, d2, d3] => { results := [.lit (.bool false)], args := [d1, d2, d3] }
  | _ => none }
def OrderAsksWrongFalsely : Prop := orderAsksRow.holds Try.pinned (OpenSpec.ofChange orderAsksWrong)

/-- 'trunnionlaw08.OrderKeeps': WHATEVER THE INPUT: true; the input reads as it did. -/
def orderKeepsSpec : ChangeSpec := { name := "orderKeeps", fn := fun _ => fun
  | [d1, d2, d3] => { results := [.lit (.bool true)], args := [d1, d2, d3] }
  | _ => none }
def orderKeepsRow : OpenClaim := { program := "ytmjfenbbgfohlaa", sum := "65e585010441d0cbdf27f0591e61541147b33f08f16b16fe0d4bdc0e67c56a3a", func := "trunnion/trunnionlaw08.OrderKeeps", spec := "orderKeeps", unfollowed := true, recurses := true, apart := false }
def OrderKeepsSaid : Prop := orderKeepsRow.holds Try.pinned (OpenSpec.ofChange orderKeepsSpec)

/-- ITS FALSE NEIGHBOUR: 'it returns false'. Refute it at one input. -/
def orderKeepsWrong : ChangeSpec := { name := "orderKeeps", fn := fun _ => fun
  | [d1, d2, d3] => { results := [.lit (.bool false)], args := [d1, d2, d3] }
  | _ => none }
def OrderKeepsWrongFalsely : Prop := orderKeepsRow.holds Try.pinned (OpenSpec.ofChange orderKeepsWrong)

/-- 'trunnionlaw08.OrderChain': WHATEVER THE INPUT: true; the input reads as it did. -/
def orderChainSpec : ChangeSpec := { name := "orderChain", fn := fun _ => fun
  | [d1, d2] => { results := [.lit (.bool true)], args := [d1, d2] }
  | _ => none }
def orderChainRow : OpenClaim := { program := "ytmjfenbbgfohlaa", sum := "65e585010441d0cbdf27f0591e61541147b33f08f16b16fe0d4bdc0e67c56a3a", func := "trunnion/trunnionlaw08.OrderChain", spec := "orderChain", unfollowed := true, recurses := true, apart := false }
def OrderChainSaid : Prop := orderChainRow.holds Try.pinned (OpenSpec.ofChange orderChainSpec)

/-- ITS FALSE NEIGHBOUR: 'it returns false'. Refute it at one input. -/
def orderChainWrong : ChangeSpec := { name := "orderChain", fn := fun _ => fun
  | [d1, d2] => { results := [.lit (.bool false)], args := [d1, d2] }
  | _ => none }
def OrderChainWrongFalsely : Prop := orderChainRow.holds Try.pinned (OpenSpec.ofChange orderChainWrong)

/-- 'trunnionlaw13.IntsBack': WHATEVER THE INPUT: true; the input reads as it did. -/
def intsBackSpec : ChangeSpec := { name := "intsBack", fn := fun _ => fun
  | [d1, d2, d3] => { results := [.lit (.bool true)], args := [d1, d2, d3] }
  | _ => none }
def intsBackRow : OpenClaim := { program := "ytmjfenbbgfohlaa", sum := "65e585010441d0cbdf27f0591e61541147b33f08f16b16fe0d4bdc0e67c56a3a", func := "trunnion/trunnionlaw13.IntsBack", spec := "intsBack", unfollowed := true, recurses := true, apart := false }
def IntsBackSaid : Prop := intsBackRow.holds Try.pinned (OpenSpec.ofChange intsBackSpec)

/-- ITS FALSE NEIGHBOUR: 'it returns false'. Refute it at one input. -/
def intsBackWrong : ChangeSpec := { name := "intsBack", fn := fun _ => fun
  | [d1, d2, d3] => { results := [.lit (.bool false)], args := [d1, d2, d3] }
  | _ => none }
def IntsBackWrongFalsely : Prop := intsBackRow.holds Try.pinned (OpenSpec.ofChange intsBackWrong)

/-- 'trunnionlaw01.WideDivs': WHATEVER THE INPUT: true; the input reads as it did. -/
def wideDivsSpec : ChangeSpec := { name := "wideDivs", fn := fun _ => fun
  | [d1, d2] => { results := [.lit (.bool true)], args := [d1, d2] }
  | _ => none }
def wideDivsRow : OpenClaim := { program := "ytmjfenbbgfohlaa", sum := "65e585010441d0cbdf27f0591e61541147b33f08f16b16fe0d4bdc0e67c56a3a", func := "trunnion/trunnionlaw01.WideDivs", spec := "wideDivs", named := ["math/bits.divideError", "math/bits.overflowError"], apart := false }
def WideDivsSaid : Prop := wideDivsRow.holds Try.pinned (OpenSpec.ofChange wideDivsSpec)

/-- ITS FALSE NEIGHBOUR: 'it returns false'. Refute it at one input. -/
def wideDivsWrong : ChangeSpec := { name := "wideDivs", fn := fun _ => fun
  | [d1, d2] => { results := [.lit (.bool false)], args := [d1, d2] }
  | _ => none }
def WideDivsWrongFalsely : Prop := wideDivsRow.holds Try.pinned (OpenSpec.ofChange wideDivsWrong)

/-- 'trunnionlaw01.WideBack': WHATEVER THE INPUT: true; the input reads as it did. -/
def wideBackSpec : ChangeSpec := { name := "wideBack", fn := fun _ => fun
  | [d1, d2, d3] => { results := [.lit (.bool true)], args := [d1, d2, d3] }
  | _ => none }
def wideBackRow : OpenClaim := { program := "ytmjfenbbgfohlaa", sum := "65e585010441d0cbdf27f0591e61541147b33f08f16b16fe0d4bdc0e67c56a3a", func := "trunnion/trunnionlaw01.WideBack", spec := "wideBack", inPlace := ["math/bits.Add64", "math/bits.Sub64"], named := ["math/bits.divideError", "math/bits.overflowError"], apart := false }
def WideBackSaid : Prop := wideBackRow.holds Try.pinned (OpenSpec.ofChange wideBackSpec)

/-- ITS FALSE NEIGHBOUR: 'it returns false'. Refute it at one input. -/
def wideBackWrong : ChangeSpec := { name := "wideBack", fn := fun _ => fun
  | [d1, d2, d3] => { results := [.lit (.bool false)], args := [d1, d2, d3] }
  | _ => none }
def WideBackWrongFalsely : Prop := wideBackRow.holds Try.pinned (OpenSpec.ofChange wideBackWrong)

/- THE SECOND FORM. 'bulk': how many values and letters a reading holds, each counted each time it is reached (what is shared counts as often as it is met; a slice's spare places count too). A statement '..UptoSaid' is the law's where the arguments, and the package variables that the reading takes, are together of bulk at most 1048576: NARROWER than '..Said'. Prove '..Said' where nothing that the law and all that it calls make is longer than what came in: it says more and counts as full. Else prove '..UptoSaid'. A law counts once. -/
mutual
def uptoBulk {H : Type} : DataW H → Nat
  | .lit (.string bytes) => bytes.length + 1
  | .lit _ => 1
  | .nil => 1
  | .ptr d => uptoBulk d + 1
  | .slice elems spare => uptoBulkAll elems + uptoBulkAll spare + 1
  | .agg parts => uptoBulkAll parts + 1
  | .iface _ d => uptoBulk d + 1
  | .map entries => uptoBulkEntries entries + 1
  | .held _ => 1
def uptoBulkAll {H : Type} : List (DataW H) → Nat
  | [] => 0
  | d :: r => uptoBulk d + uptoBulkAll r
def uptoBulkEntries {H : Type} : List (Lit × DataW H) → Nat
  | [] => 0
  | x :: r => uptoBulkEntry x + uptoBulkEntries r
def uptoBulkEntry {H : Type} : Lit × DataW H → Nat
  | (.string bytes, d) => bytes.length + uptoBulk d + 1
  | (_, d) => uptoBulk d + 1
 end
def uptoSmall : (H : Type) → List (DataW H) → Bool := fun _ ds => decide (uptoBulkAll ds ≤ 1048576)
def OpenSpec.upto (s : _root_.Go.ChangeSpec) : _root_.Go.OpenSpec := { _root_.Go.OpenSpec.ofChange s with cond := some uptoSmall }

/-- 'trunnionlaw10.SignAgain', WHERE WHAT IT READS IS OF BULK AT MOST 1048576: true; the input reads as it did. -/
def signAgainUptoRow : OpenClaim := { program := "ytmjfenbbgfohlaa", sum := "65e585010441d0cbdf27f0591e61541147b33f08f16b16fe0d4bdc0e67c56a3a", func := "trunnion/trunnionlaw10.SignAgain", spec := "signAgain", apart := false, narrowed := true }
def SignAgainUptoSaid : Prop := signAgainUptoRow.holds Try.pinned (OpenSpec.upto signAgainSpec)

/-- 'trunnionlaw10.SignTurns', WHERE WHAT IT READS IS OF BULK AT MOST 1048576: true; the input reads as it did. -/
def signTurnsUptoRow : OpenClaim := { program := "ytmjfenbbgfohlaa", sum := "65e585010441d0cbdf27f0591e61541147b33f08f16b16fe0d4bdc0e67c56a3a", func := "trunnion/trunnionlaw10.SignTurns", spec := "signTurns", apart := false, narrowed := true }
def SignTurnsUptoSaid : Prop := signTurnsUptoRow.holds Try.pinned (OpenSpec.upto signTurnsSpec)

/-- 'trunnionlaw10.SignBack', WHERE WHAT IT READS IS OF BULK AT MOST 1048576: true; the input reads as it did. -/
def signBackUptoRow : OpenClaim := { program := "ytmjfenbbgfohlaa", sum := "65e585010441d0cbdf27f0591e61541147b33f08f16b16fe0d4bdc0e67c56a3a", func := "trunnion/trunnionlaw10.SignBack", spec := "signBack", apart := false, narrowed := true }
def SignBackUptoSaid : Prop := signBackUptoRow.holds Try.pinned (OpenSpec.upto signBackSpec)

/-- 'trunnionlaw13.IntsSums', WHERE WHAT IT READS IS OF BULK AT MOST 1048576: true; the input reads as it did. -/
def intsSumsUptoRow : OpenClaim := { program := "ytmjfenbbgfohlaa", sum := "65e585010441d0cbdf27f0591e61541147b33f08f16b16fe0d4bdc0e67c56a3a", func := "trunnion/trunnionlaw13.IntsSums", spec := "intsSums", unfollowed := true, recurses := true, apart := false, narrowed := true }
def IntsSumsUptoSaid : Prop := intsSumsUptoRow.holds Try.pinned (OpenSpec.upto intsSumsSpec)

/-- 'trunnionlaw02.ShapeOrder', WHERE WHAT IT READS IS OF BULK AT MOST 1048576: true; the input reads as it did. -/
def shapeOrderUptoRow : OpenClaim := { program := "ytmjfenbbgfohlaa", sum := "65e585010441d0cbdf27f0591e61541147b33f08f16b16fe0d4bdc0e67c56a3a", func := "trunnion/trunnionlaw02.ShapeOrder", spec := "shapeOrder", apart := false, narrowed := true }
def ShapeOrderUptoSaid : Prop := shapeOrderUptoRow.holds Try.pinned (OpenSpec.upto shapeOrderSpec)

/-- 'trunnionlaw02.ShapeOpens', WHERE WHAT IT READS IS OF BULK AT MOST 1048576: true; the input reads as it did. -/
def shapeOpensUptoRow : OpenClaim := { program := "ytmjfenbbgfohlaa", sum := "65e585010441d0cbdf27f0591e61541147b33f08f16b16fe0d4bdc0e67c56a3a", func := "trunnion/trunnionlaw02.ShapeOpens", spec := "shapeOpens", apart := false, narrowed := true }
def ShapeOpensUptoSaid : Prop := shapeOpensUptoRow.holds Try.pinned (OpenSpec.upto shapeOpensSpec)

/-- 'trunnionlaw13.IntsShifts', WHERE WHAT IT READS IS OF BULK AT MOST 1048576: true; the input reads as it did. -/
def intsShiftsUptoRow : OpenClaim := { program := "ytmjfenbbgfohlaa", sum := "65e585010441d0cbdf27f0591e61541147b33f08f16b16fe0d4bdc0e67c56a3a", func := "trunnion/trunnionlaw13.IntsShifts", spec := "intsShifts", unfollowed := true, recurses := true, apart := false, narrowed := true }
def IntsShiftsUptoSaid : Prop := intsShiftsUptoRow.holds Try.pinned (OpenSpec.upto intsShiftsSpec)

/-- 'trunnionlaw01.WideRoots', WHERE WHAT IT READS IS OF BULK AT MOST 1048576: true; the input reads as it did. -/
def wideRootsUptoRow : OpenClaim := { program := "ytmjfenbbgfohlaa", sum := "65e585010441d0cbdf27f0591e61541147b33f08f16b16fe0d4bdc0e67c56a3a", func := "trunnion/trunnionlaw01.WideRoots", spec := "wideRoots", apart := false, narrowed := true }
def WideRootsUptoSaid : Prop := wideRootsUptoRow.holds Try.pinned (OpenSpec.upto wideRootsSpec)

/-- 'trunnionlaw02.ShapeEnds', WHERE WHAT IT READS IS OF BULK AT MOST 1048576: true; the input reads as it did. -/
def shapeEndsUptoRow : OpenClaim := { program := "ytmjfenbbgfohlaa", sum := "65e585010441d0cbdf27f0591e61541147b33f08f16b16fe0d4bdc0e67c56a3a", func := "trunnion/trunnionlaw02.ShapeEnds", spec := "shapeEnds", apart := false, narrowed := true }
def ShapeEndsUptoSaid : Prop := shapeEndsUptoRow.holds Try.pinned (OpenSpec.upto shapeEndsSpec)

/-- 'trunnionlaw13.IntsDivs', WHERE WHAT IT READS IS OF BULK AT MOST 1048576: true; the input reads as it did. -/
def intsDivsUptoRow : OpenClaim := { program := "ytmjfenbbgfohlaa", sum := "65e585010441d0cbdf27f0591e61541147b33f08f16b16fe0d4bdc0e67c56a3a", func := "trunnion/trunnionlaw13.IntsDivs", spec := "intsDivs", unfollowed := true, recurses := true, apart := false, narrowed := true }
def IntsDivsUptoSaid : Prop := intsDivsUptoRow.holds Try.pinned (OpenSpec.upto intsDivsSpec)

/-- 'trunnionlaw13.IntsPowers', WHERE WHAT IT READS IS OF BULK AT MOST 1048576: true; the input reads as it did. -/
def intsPowersUptoRow : OpenClaim := { program := "ytmjfenbbgfohlaa", sum := "65e585010441d0cbdf27f0591e61541147b33f08f16b16fe0d4bdc0e67c56a3a", func := "trunnion/trunnionlaw13.IntsPowers", spec := "intsPowers", unfollowed := true, recurses := true, apart := false, narrowed := true }
def IntsPowersUptoSaid : Prop := intsPowersUptoRow.holds Try.pinned (OpenSpec.upto intsPowersSpec)

/-- 'trunnionlaw01.WideShifts', WHERE WHAT IT READS IS OF BULK AT MOST 1048576: true; the input reads as it did. -/
def wideShiftsUptoRow : OpenClaim := { program := "ytmjfenbbgfohlaa", sum := "65e585010441d0cbdf27f0591e61541147b33f08f16b16fe0d4bdc0e67c56a3a", func := "trunnion/trunnionlaw01.WideShifts", spec := "wideShifts", apart := false, narrowed := true }
def WideShiftsUptoSaid : Prop := wideShiftsUptoRow.holds Try.pinned (OpenSpec.upto wideShiftsSpec)

/-- 'trunnionlaw01.WideLens', WHERE WHAT IT READS IS OF BULK AT MOST 1048576: true; the input reads as it did. -/
def wideLensUptoRow : OpenClaim := { program := "ytmjfenbbgfohlaa", sum := "65e585010441d0cbdf27f0591e61541147b33f08f16b16fe0d4bdc0e67c56a3a", func := "trunnion/trunnionlaw01.WideLens", spec := "wideLens", apart := false, narrowed := true }
def WideLensUptoSaid : Prop := wideLensUptoRow.holds Try.pinned (OpenSpec.upto wideLensSpec)

/-- 'trunnionlaw01.WideSums', WHERE WHAT IT READS IS OF BULK AT MOST 1048576: true; the input reads as it did. -/
def wideSumsUptoRow : OpenClaim := { program := "ytmjfenbbgfohlaa", sum := "65e585010441d0cbdf27f0591e61541147b33f08f16b16fe0d4bdc0e67c56a3a", func := "trunnion/trunnionlaw01.WideSums", spec := "wideSums", inPlace := ["math/bits.Add64", "math/bits.Sub64"], apart := false, narrowed := true }
def WideSumsUptoSaid : Prop := wideSumsUptoRow.holds Try.pinned (OpenSpec.upto wideSumsSpec)

/-- 'trunnionlaw08.OrderPicks', WHERE WHAT IT READS IS OF BULK AT MOST 1048576: true; the input reads as it did. -/
def orderPicksUptoRow : OpenClaim := { program := "ytmjfenbbgfohlaa", sum := "65e585010441d0cbdf27f0591e61541147b33f08f16b16fe0d4bdc0e67c56a3a", func := "trunnion/trunnionlaw08.OrderPicks", spec := "orderPicks", unfollowed := true, recurses := true, apart := false, narrowed := true }
def OrderPicksUptoSaid : Prop := orderPicksUptoRow.holds Try.pinned (OpenSpec.upto orderPicksSpec)

/-- 'trunnionlaw02.ShapeBack', WHERE WHAT IT READS IS OF BULK AT MOST 1048576: true; the input reads as it did. -/
def shapeBackUptoRow : OpenClaim := { program := "ytmjfenbbgfohlaa", sum := "65e585010441d0cbdf27f0591e61541147b33f08f16b16fe0d4bdc0e67c56a3a", func := "trunnion/trunnionlaw02.ShapeBack", spec := "shapeBack", apart := false, narrowed := true }
def ShapeBackUptoSaid : Prop := shapeBackUptoRow.holds Try.pinned (OpenSpec.upto shapeBackSpec)

/-- 'trunnionlaw08.OrderAsks', WHERE WHAT IT READS IS OF BULK AT MOST 1048576: true; the input reads as it did. -/
def orderAsksUptoRow : OpenClaim := { program := "ytmjfenbbgfohlaa", sum := "65e585010441d0cbdf27f0591e61541147b33f08f16b16fe0d4bdc0e67c56a3a", func := "trunnion/trunnionlaw08.OrderAsks", spec := "orderAsks", unfollowed := true, recurses := true, apart := false, narrowed := true }
def OrderAsksUptoSaid : Prop := orderAsksUptoRow.holds Try.pinned (OpenSpec.upto orderAsksSpec)

/-- 'trunnionlaw08.OrderKeeps', WHERE WHAT IT READS IS OF BULK AT MOST 1048576: true; the input reads as it did. -/
def orderKeepsUptoRow : OpenClaim := { program := "ytmjfenbbgfohlaa", sum := "65e585010441d0cbdf27f0591e61541147b33f08f16b16fe0d4bdc0e67c56a3a", func := "trunnion/trunnionlaw08.OrderKeeps", spec := "orderKeeps", unfollowed := true, recurses := true, apart := false, narrowed := true }
def OrderKeepsUptoSaid : Prop := orderKeepsUptoRow.holds Try.pinned (OpenSpec.upto orderKeepsSpec)

/-- 'trunnionlaw08.OrderChain', WHERE WHAT IT READS IS OF BULK AT MOST 1048576: true; the input reads as it did. -/
def orderChainUptoRow : OpenClaim := { program := "ytmjfenbbgfohlaa", sum := "65e585010441d0cbdf27f0591e61541147b33f08f16b16fe0d4bdc0e67c56a3a", func := "trunnion/trunnionlaw08.OrderChain", spec := "orderChain", unfollowed := true, recurses := true, apart := false, narrowed := true }
def OrderChainUptoSaid : Prop := orderChainUptoRow.holds Try.pinned (OpenSpec.upto orderChainSpec)

/-- 'trunnionlaw13.IntsBack', WHERE WHAT IT READS IS OF BULK AT MOST 1048576: true; the input reads as it did. -/
def intsBackUptoRow : OpenClaim := { program := "ytmjfenbbgfohlaa", sum := "65e585010441d0cbdf27f0591e61541147b33f08f16b16fe0d4bdc0e67c56a3a", func := "trunnion/trunnionlaw13.IntsBack", spec := "intsBack", unfollowed := true, recurses := true, apart := false, narrowed := true }
def IntsBackUptoSaid : Prop := intsBackUptoRow.holds Try.pinned (OpenSpec.upto intsBackSpec)

/-- 'trunnionlaw01.WideDivs', WHERE WHAT IT READS IS OF BULK AT MOST 1048576: true; the input reads as it did. -/
def wideDivsUptoRow : OpenClaim := { program := "ytmjfenbbgfohlaa", sum := "65e585010441d0cbdf27f0591e61541147b33f08f16b16fe0d4bdc0e67c56a3a", func := "trunnion/trunnionlaw01.WideDivs", spec := "wideDivs", named := ["math/bits.divideError", "math/bits.overflowError"], apart := false, narrowed := true }
def WideDivsUptoSaid : Prop := wideDivsUptoRow.holds Try.pinned (OpenSpec.upto wideDivsSpec)

/-- 'trunnionlaw01.WideBack', WHERE WHAT IT READS IS OF BULK AT MOST 1048576: true; the input reads as it did. -/
def wideBackUptoRow : OpenClaim := { program := "ytmjfenbbgfohlaa", sum := "65e585010441d0cbdf27f0591e61541147b33f08f16b16fe0d4bdc0e67c56a3a", func := "trunnion/trunnionlaw01.WideBack", spec := "wideBack", inPlace := ["math/bits.Add64", "math/bits.Sub64"], named := ["math/bits.divideError", "math/bits.overflowError"], apart := false, narrowed := true }
def WideBackUptoSaid : Prop := wideBackUptoRow.holds Try.pinned (OpenSpec.upto wideBackSpec)

end Rows
end Go.Proofs.Ytmjfenbbgfohlaa
