/-
  NARROWER THAN 'FOR EVERY INPUT', by the rows' own cells (each row's printed sentence says how): IntsRuns: laid · IntsCounts: laid · CastMakes: laid · CastBack: laid · ChopBack: laid.
  DERIVED. THE GIVEN ROWS OF THIS SEAT. 5 by the template 'for every input the law returns true; each argument reads behind the call as it read before'; 0 by the template 'total and deterministic' (their statements: YthdeeoallfbjmaaDoorTotals.lean).
  GIVEN WITH THE SEED: the statements are not yours to turn. If you find one false, say at which input.
  Laid BY PROGRAM, IN A SANDBOX (cutbox-rows.mjs): the forced cells as the released guide's own fill.sh prints them over the translation 7126caa82635372a… (all of the seat's roots in one cut). By AI agents, Wed Nov 11 2026. No macro, syntax, notation, axiom, sorry.
-/
import Derived.Test.YthdeeoallfbjmaaDoorChecked
import GoSem.Claim
import GoSem.ClaimJoined
import GoSem.ClaimMapViews
import Derived.JoinedTies
import Derived.KernelRfl
namespace Go.Proofs.YthdeeoallfbjmaaDoor
/- THE CELL 'sum', in the pinned program and in every row, IS THE sha256 OF THE DUMP (.gsa) THAT YthdeeoallfbjmaaDoorProg.lean LOADS. Nothing in Lean hashes anything: it is a label: what it is worth is what the hold of that sum in a sandbox is worth. -/
noncomputable def Tryd.pinned : Pinned := { name := "ythdeeoallfbjmaadoor", sum := "7126caa82635372aafa34d611ff1cb058a10e0d8a7a42ef73b10adaed0e26b40", checked := Tryd.checked }
namespace Rows
def none {H : Type} : Left H := { results := [], args := [] }

/- WHAT THE LISTED PACKAGE-LEVEL VARIABLES READ AS WHEN THE CALL BEGINS. Each datum BY PROGRAM (the guide's laid-datum.mjs) off the statement by which the dump's own 'gosem.cut.vars' lays the variable. In a bare row this is a premise. The card (YthdeeoallfbjmaaDoorCards.lean) ties it to the program's text. -/
def laid_math_bits_deBruijn64tab {H : Type} : DataW H := .agg [.lit (.int .u8 0), .lit (.int .u8 1), .lit (.int .u8 56), .lit (.int .u8 2), .lit (.int .u8 57), .lit (.int .u8 49), .lit (.int .u8 28), .lit (.int .u8 3), .lit (.int .u8 61), .lit (.int .u8 58), .lit (.int .u8 42), .lit (.int .u8 50), .lit (.int .u8 38), .lit (.int .u8 29), .lit (.int .u8 17), .lit (.int .u8 4), .lit (.int .u8 62), .lit (.int .u8 47), .lit (.int .u8 59), .lit (.int .u8 36), .lit (.int .u8 45), .lit (.int .u8 43), .lit (.int .u8 51), .lit (.int .u8 22), .lit (.int .u8 53), .lit (.int .u8 39), .lit (.int .u8 33), .lit (.int .u8 30), .lit (.int .u8 24), .lit (.int .u8 18), .lit (.int .u8 12), .lit (.int .u8 5), .lit (.int .u8 63), .lit (.int .u8 55), .lit (.int .u8 48), .lit (.int .u8 27), .lit (.int .u8 60), .lit (.int .u8 41), .lit (.int .u8 37), .lit (.int .u8 16), .lit (.int .u8 46), .lit (.int .u8 35), .lit (.int .u8 44), .lit (.int .u8 21), .lit (.int .u8 52), .lit (.int .u8 32), .lit (.int .u8 23), .lit (.int .u8 11), .lit (.int .u8 54), .lit (.int .u8 26), .lit (.int .u8 40), .lit (.int .u8 15), .lit (.int .u8 34), .lit (.int .u8 20), .lit (.int .u8 31), .lit (.int .u8 10), .lit (.int .u8 25), .lit (.int .u8 14), .lit (.int .u8 19), .lit (.int .u8 9), .lit (.int .u8 13), .lit (.int .u8 8), .lit (.int .u8 7), .lit (.int .u8 6)]

/-- 'trunnionlaw13.IntsRuns': WHATEVER THE INPUT: true; the input reads as it did. -/
def intsRunsSpec : ChangeSpec := { name := "intsRuns", fn := fun _ => fun
  | [d1, d2] => { results := [.lit (.bool true)], args := [d1, d2] }
  | _ => none }
def intsRunsRow : OpenClaim := { program := "ythdeeoallfbjmaadoor", sum := "7126caa82635372aafa34d611ff1cb058a10e0d8a7a42ef73b10adaed0e26b40", func := "trunnion/trunnionlaw13.IntsRuns", spec := "intsRuns", unfollowed := true, recurses := true, named := ["math/bits.deBruijn64tab"], apart := false, laid := [("math/bits.deBruijn64tab", laid_math_bits_deBruijn64tab)] }
def IntsRunsSaid : Prop := intsRunsRow.holds Tryd.pinned (OpenSpec.ofChange intsRunsSpec)

/-- ITS FALSE NEIGHBOUR: 'it returns false'. Refute it at one input. -/
def intsRunsWrong : ChangeSpec := { name := "intsRuns", fn := fun _ => fun
  | [d1, d2] => { results := [.lit (.bool false)], args := [d1, d2] }
  | _ => none }
def IntsRunsWrongFalsely : Prop := intsRunsRow.holds Tryd.pinned (OpenSpec.ofChange intsRunsWrong)

/-- 'trunnionlaw13.IntsCounts': WHATEVER THE INPUT: true; the input reads as it did. -/
def intsCountsSpec : ChangeSpec := { name := "intsCounts", fn := fun _ => fun
  | [d1, d2, d3] => { results := [.lit (.bool true)], args := [d1, d2, d3] }
  | _ => none }
def intsCountsRow : OpenClaim := { program := "ythdeeoallfbjmaadoor", sum := "7126caa82635372aafa34d611ff1cb058a10e0d8a7a42ef73b10adaed0e26b40", func := "trunnion/trunnionlaw13.IntsCounts", spec := "intsCounts", unfollowed := true, recurses := true, named := ["math/bits.deBruijn64tab"], apart := false, laid := [("math/bits.deBruijn64tab", laid_math_bits_deBruijn64tab)] }
def IntsCountsSaid : Prop := intsCountsRow.holds Tryd.pinned (OpenSpec.ofChange intsCountsSpec)

/-- ITS FALSE NEIGHBOUR: 'it returns false'. Refute it at one input. -/
def intsCountsWrong : ChangeSpec := { name := "intsCounts", fn := fun _ => fun
  | [d1, d2, d3] => { results := [.lit (.bool false)], args := [d1, d2, d3] }
  | _ => none }
def IntsCountsWrongFalsely : Prop := intsCountsRow.holds Tryd.pinned (OpenSpec.ofChange intsCountsWrong)

/-- 'trunnionlaw11.CastMakes': WHATEVER THE INPUT: true; the input reads as it did. -/
def castMakesSpec : ChangeSpec := { name := "castMakes", fn := fun _ => fun
  | [d1, d2, d3] => { results := [.lit (.bool true)], args := [d1, d2, d3] }
  | _ => none }
def castMakesRow : OpenClaim := { program := "ythdeeoallfbjmaadoor", sum := "7126caa82635372aafa34d611ff1cb058a10e0d8a7a42ef73b10adaed0e26b40", func := "trunnion/trunnionlaw11.CastMakes", spec := "castMakes", inPlace := ["math/bits.Add64"], named := ["math/bits.deBruijn64tab"], apart := false, laid := [("math/bits.deBruijn64tab", laid_math_bits_deBruijn64tab)] }
def CastMakesSaid : Prop := castMakesRow.holds Tryd.pinned (OpenSpec.ofChange castMakesSpec)

/-- ITS FALSE NEIGHBOUR: 'it returns false'. Refute it at one input. -/
def castMakesWrong : ChangeSpec := { name := "castMakes", fn := fun _ => fun
  | [d1, d2, d3] => { results := [.lit (.bool false)], args := [d1, d2, d3] }
  | _ => none }
def CastMakesWrongFalsely : Prop := castMakesRow.holds Tryd.pinned (OpenSpec.ofChange castMakesWrong)

/-- 'trunnionlaw11.CastBack': WHATEVER THE INPUT: true; the input reads as it did. -/
def castBackSpec : ChangeSpec := { name := "castBack", fn := fun _ => fun
  | [d1, d2] => { results := [.lit (.bool true)], args := [d1, d2] }
  | _ => none }
def castBackRow : OpenClaim := { program := "ythdeeoallfbjmaadoor", sum := "7126caa82635372aafa34d611ff1cb058a10e0d8a7a42ef73b10adaed0e26b40", func := "trunnion/trunnionlaw11.CastBack", spec := "castBack", inPlace := ["math/bits.Add64"], named := ["math/bits.deBruijn64tab"], apart := false, laid := [("math/bits.deBruijn64tab", laid_math_bits_deBruijn64tab)] }
def CastBackSaid : Prop := castBackRow.holds Tryd.pinned (OpenSpec.ofChange castBackSpec)

/-- ITS FALSE NEIGHBOUR: 'it returns false'. Refute it at one input. -/
def castBackWrong : ChangeSpec := { name := "castBack", fn := fun _ => fun
  | [d1, d2] => { results := [.lit (.bool false)], args := [d1, d2] }
  | _ => none }
def CastBackWrongFalsely : Prop := castBackRow.holds Tryd.pinned (OpenSpec.ofChange castBackWrong)

/-- 'trunnionlaw12.ChopBack': WHATEVER THE INPUT: true; the input reads as it did. -/
def chopBackSpec : ChangeSpec := { name := "chopBack", fn := fun _ => fun
  | [d1, d2] => { results := [.lit (.bool true)], args := [d1, d2] }
  | _ => none }
def chopBackRow : OpenClaim := { program := "ythdeeoallfbjmaadoor", sum := "7126caa82635372aafa34d611ff1cb058a10e0d8a7a42ef73b10adaed0e26b40", func := "trunnion/trunnionlaw12.ChopBack", spec := "chopBack", inPlace := ["math/bits.Add64"], named := ["math/bits.deBruijn64tab"], apart := false, laid := [("math/bits.deBruijn64tab", laid_math_bits_deBruijn64tab)] }
def ChopBackSaid : Prop := chopBackRow.holds Tryd.pinned (OpenSpec.ofChange chopBackSpec)

/-- ITS FALSE NEIGHBOUR: 'it returns false'. Refute it at one input. -/
def chopBackWrong : ChangeSpec := { name := "chopBack", fn := fun _ => fun
  | [d1, d2] => { results := [.lit (.bool false)], args := [d1, d2] }
  | _ => none }
def ChopBackWrongFalsely : Prop := chopBackRow.holds Tryd.pinned (OpenSpec.ofChange chopBackWrong)

/- THE SECOND FORM. 'bulk': how many values and letters a reading holds, each counted each time it is reached (what is shared counts as often as it is met; a slice's spare places count too). A statement '..UptoSaid' is the law's where the arguments, and the package variables that the reading takes, are together of bulk at most 1048576: NARROWER than '..Said'. Prove '..Said' where nothing that the law and all that it calls make is longer than what came in: it says more and counts as full. Else prove '..UptoSaid'. A law counts once. -/
mutual
def uptoBulk {H : Type} : DataW H → Nat
  | .lit (.string bytes) => bytes.length + 1
  | .lit _ => 1
  | .nil => 1
  | .ptr d => uptoBulk d + 1
  | .slice elems spare => uptoBulkAll elems + uptoBulkAll spare + 1
  | .agg parts => uptoBulkAll parts + 1
  | .iface _ d => uptoBulk d + 1
  | .map entries => uptoBulkEntries entries + 1
  | .held _ => 1
def uptoBulkAll {H : Type} : List (DataW H) → Nat
  | [] => 0
  | d :: r => uptoBulk d + uptoBulkAll r
def uptoBulkEntries {H : Type} : List (Lit × DataW H) → Nat
  | [] => 0
  | x :: r => uptoBulkEntry x + uptoBulkEntries r
def uptoBulkEntry {H : Type} : Lit × DataW H → Nat
  | (.string bytes, d) => bytes.length + uptoBulk d + 1
  | (_, d) => uptoBulk d + 1
 end
def uptoSmall : (H : Type) → List (DataW H) → Bool := fun _ ds => decide (uptoBulkAll ds ≤ 1048576)
def OpenSpec.upto (s : _root_.Go.ChangeSpec) : _root_.Go.OpenSpec := { _root_.Go.OpenSpec.ofChange s with cond := some uptoSmall }

/-- 'trunnionlaw13.IntsRuns', WHERE WHAT IT READS IS OF BULK AT MOST 1048576: true; the input reads as it did. -/
def intsRunsUptoRow : OpenClaim := { program := "ythdeeoallfbjmaadoor", sum := "7126caa82635372aafa34d611ff1cb058a10e0d8a7a42ef73b10adaed0e26b40", func := "trunnion/trunnionlaw13.IntsRuns", spec := "intsRuns", unfollowed := true, recurses := true, named := ["math/bits.deBruijn64tab"], apart := false, laid := [("math/bits.deBruijn64tab", laid_math_bits_deBruijn64tab)], narrowed := true }
def IntsRunsUptoSaid : Prop := intsRunsUptoRow.holds Tryd.pinned (OpenSpec.upto intsRunsSpec)

/-- 'trunnionlaw13.IntsCounts', WHERE WHAT IT READS IS OF BULK AT MOST 1048576: true; the input reads as it did. -/
def intsCountsUptoRow : OpenClaim := { program := "ythdeeoallfbjmaadoor", sum := "7126caa82635372aafa34d611ff1cb058a10e0d8a7a42ef73b10adaed0e26b40", func := "trunnion/trunnionlaw13.IntsCounts", spec := "intsCounts", unfollowed := true, recurses := true, named := ["math/bits.deBruijn64tab"], apart := false, laid := [("math/bits.deBruijn64tab", laid_math_bits_deBruijn64tab)], narrowed := true }
def IntsCountsUptoSaid : Prop := intsCountsUptoRow.holds Tryd.pinned (OpenSpec.upto intsCountsSpec)

/-- 'trunnionlaw11.CastMakes', WHERE WHAT IT READS IS OF BULK AT MOST 1048576: true; the input reads as it did. -/
def castMakesUptoRow : OpenClaim := { program := "ythdeeoallfbjmaadoor", sum := "7126caa82635372aafa34d611ff1cb058a10e0d8a7a42ef73b10adaed0e26b40", func := "trunnion/trunnionlaw11.CastMakes", spec := "castMakes", inPlace := ["math/bits.Add64"], named := ["math/bits.deBruijn64tab"], apart := false, laid := [("math/bits.deBruijn64tab", laid_math_bits_deBruijn64tab)], narrowed := true }
def CastMakesUptoSaid : Prop := castMakesUptoRow.holds Tryd.pinned (OpenSpec.upto castMakesSpec)

/-- 'trunnionlaw11.CastBack', WHERE WHAT IT READS IS OF BULK AT MOST 1048576: true; the input reads as it did. -/
def castBackUptoRow : OpenClaim := { program := "ythdeeoallfbjmaadoor", sum := "7126caa82635372aafa34d611ff1cb058a10e0d8a7a42ef73b10adaed0e26b40", func := "trunnion/trunnionlaw11.CastBack", spec := "castBack", inPlace := ["math/bits.Add64"], named := ["math/bits.deBruijn64tab"], apart := false, laid := [("math/bits.deBruijn64tab", laid_math_bits_deBruijn64tab)], narrowed := true }
def CastBackUptoSaid : Prop := castBackUptoRow.holds Tryd.pinned (OpenSpec.upto castBackSpec)

/-- 'trunnionlaw12.ChopBack', WHERE WHAT IT READS IS OF BULK AT MOST 1048576: true; the input reads as it did. -/
def chopBackUptoRow : OpenClaim := { program := "ythdeeoallfbjmaadoor", sum := "7126caa82635372aafa34d611ff1cb058a10e0d8a7a42ef73b10adaed0e26b40", func := "trunnion/trunnionlaw12.ChopBack", spec := "chopBack", inPlace := ["math/bits.Add64"], named := ["math/bits.deBruijn64tab"], apart := false, laid := [("math/bits.deBruijn64tab", laid_math_bits_deBruijn64tab)], narrowed := true }
def ChopBackUptoSaid : Prop := chopBackUptoRow.holds Tryd.pinned (OpenSpec.upto chopBackSpec)

end Rows
end Go.Proofs.YthdeeoallfbjmaaDoor
