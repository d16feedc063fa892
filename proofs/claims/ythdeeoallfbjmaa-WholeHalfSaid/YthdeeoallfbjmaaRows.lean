/-
  No cell of these rows narrows 'for every input' (looked for: loops, veiled, ifaces, maps, wideKeys, modest, calm, conditions, laid).
  DERIVED. THE GIVEN ROWS OF THIS SEAT. 3 by the template 'for every input the law returns true; each argument reads behind the call as it read before'; 0 by the template 'total and deterministic' (their statements: YthdeeoallfbjmaaTotals.lean).
  GIVEN WITH THE SEED: the statements are not yours to turn. If you find one false, say at which input.
  Laid BY PROGRAM, IN A SANDBOX (cutbox-rows.mjs): the forced cells as the released guide's own fill.sh prints them over the translation 5fe32ab24dbdea9c… (all of the seat's roots in one cut). By AI agents, Wed Nov 11 2026. No macro, syntax, notation, axiom, sorry.
-/
import Derived.Test.YthdeeoallfbjmaaChecked
import GoSem.Claim
import GoSem.ClaimJoined
import GoSem.ClaimMapViews
import Derived.JoinedTies
import Derived.KernelRfl
namespace Go.Proofs.Ythdeeoallfbjmaa
/- THE CELL 'sum', in the pinned program and in every row, IS THE sha256 OF THE DUMP (.gsa) THAT YthdeeoallfbjmaaProg.lean LOADS. Nothing in Lean hashes anything: it is a label: what it is worth is what the hold of that sum in a sandbox is worth. -/
noncomputable def Try.pinned : Pinned := { name := "ythdeeoallfbjmaa", sum := "5fe32ab24dbdea9c498a090c9db027f0db02ccd8b697afb581915a45b5ec218c", checked := Try.checked }
namespace Rows
def none {H : Type} : Left H := { results := [], args := [] }

/-- 'trunnionlaw09.WholeMakes': WHATEVER THE INPUT: true; the input reads as it did. -/
def wholeMakesSpec : ChangeSpec := { name := "wholeMakes", fn := fun _ => fun
  | [d1, d2] => { results := [.lit (.bool true)], args := [d1, d2] }
  | _ => none }
def wholeMakesRow : OpenClaim := { program := "ythdeeoallfbjmaa", sum := "5fe32ab24dbdea9c498a090c9db027f0db02ccd8b697afb581915a45b5ec218c", func := "trunnion/trunnionlaw09.WholeMakes", spec := "wholeMakes", inPlace := ["math/bits.Add64"], unfollowed := true, recurses := true, apart := false }
def WholeMakesSaid : Prop := wholeMakesRow.holds Try.pinned (OpenSpec.ofChange wholeMakesSpec)

/-- ITS FALSE NEIGHBOUR: 'it returns false'. Refute it at one input. -/
def wholeMakesWrong : ChangeSpec := { name := "wholeMakes", fn := fun _ => fun
  | [d1, d2] => { results := [.lit (.bool false)], args := [d1, d2] }
  | _ => none }
def WholeMakesWrongFalsely : Prop := wholeMakesRow.holds Try.pinned (OpenSpec.ofChange wholeMakesWrong)

/-- 'trunnionlaw09.WholeKeeps': WHATEVER THE INPUT: true; the input reads as it did. -/
def wholeKeepsSpec : ChangeSpec := { name := "wholeKeeps", fn := fun _ => fun
  | [d1, d2] => { results := [.lit (.bool true)], args := [d1, d2] }
  | _ => none }
def wholeKeepsRow : OpenClaim := { program := "ythdeeoallfbjmaa", sum := "5fe32ab24dbdea9c498a090c9db027f0db02ccd8b697afb581915a45b5ec218c", func := "trunnion/trunnionlaw09.WholeKeeps", spec := "wholeKeeps", inPlace := ["math/bits.Add64"], unfollowed := true, recurses := true, apart := false }
def WholeKeepsSaid : Prop := wholeKeepsRow.holds Try.pinned (OpenSpec.ofChange wholeKeepsSpec)

/-- ITS FALSE NEIGHBOUR: 'it returns false'. Refute it at one input. -/
def wholeKeepsWrong : ChangeSpec := { name := "wholeKeeps", fn := fun _ => fun
  | [d1, d2] => { results := [.lit (.bool false)], args := [d1, d2] }
  | _ => none }
def WholeKeepsWrongFalsely : Prop := wholeKeepsRow.holds Try.pinned (OpenSpec.ofChange wholeKeepsWrong)

/-- 'trunnionlaw09.WholeHalf': WHATEVER THE INPUT: true; the input reads as it did. -/
def wholeHalfSpec : ChangeSpec := { name := "wholeHalf", fn := fun _ => fun
  | [d1, d2] => { results := [.lit (.bool true)], args := [d1, d2] }
  | _ => none }
def wholeHalfRow : OpenClaim := { program := "ythdeeoallfbjmaa", sum := "5fe32ab24dbdea9c498a090c9db027f0db02ccd8b697afb581915a45b5ec218c", func := "trunnion/trunnionlaw09.WholeHalf", spec := "wholeHalf", inPlace := ["math/bits.Add64", "math/bits.Sub64"], unfollowed := true, recurses := true, apart := false }
def WholeHalfSaid : Prop := wholeHalfRow.holds Try.pinned (OpenSpec.ofChange wholeHalfSpec)

/-- ITS FALSE NEIGHBOUR: 'it returns false'. Refute it at one input. -/
def wholeHalfWrong : ChangeSpec := { name := "wholeHalf", fn := fun _ => fun
  | [d1, d2] => { results := [.lit (.bool false)], args := [d1, d2] }
  | _ => none }
def WholeHalfWrongFalsely : Prop := wholeHalfRow.holds Try.pinned (OpenSpec.ofChange wholeHalfWrong)

/- THE SECOND FORM. 'bulk': how many values and letters a reading holds, each counted each time it is reached (what is shared counts as often as it is met; a slice's spare places count too). A statement '..UptoSaid' is the law's where the arguments, and the package variables that the reading takes, are together of bulk at most 1048576: NARROWER than '..Said'. Prove '..Said' where nothing that the law and all that it calls make is longer than what came in: it says more and counts as full. Else prove '..UptoSaid'. A law counts once. -/
mutual
def uptoBulk {H : Type} : DataW H → Nat
  | .lit (.string bytes) => bytes.length + 1
  | .lit _ => 1
  | .nil => 1
  | .ptr d => uptoBulk d + 1
  | .slice elems spare => uptoBulkAll elems + uptoBulkAll spare + 1
  | .agg parts => uptoBulkAll parts + 1
  | .iface _ d => uptoBulk d + 1
  | .map entries => uptoBulkEntries entries + 1
  | .held _ => 1
def uptoBulkAll {H : Type} : List (DataW H) → Nat
  | [] => 0
  | d :: r => uptoBulk d + uptoBulkAll r
def uptoBulkEntries {H : Type} : List (Lit × DataW H) → Nat
  | [] => 0
  | x :: r => uptoBulkEntry x + uptoBulkEntries r
def uptoBulkEntry {H : Type} : Lit × DataW H → Nat
  | (.string bytes, d) => bytes.length + uptoBulk d + 1
  | (_, d) => uptoBulk d + 1
 end
def uptoSmall : (H : Type) → List (DataW H) → Bool := fun _ ds => decide (uptoBulkAll ds ≤ 1048576)
def OpenSpec.upto (s : _root_.Go.ChangeSpec) : _root_.Go.OpenSpec := { _root_.Go.OpenSpec.ofChange s with cond := some uptoSmall }

/-- 'trunnionlaw09.WholeMakes', WHERE WHAT IT READS IS OF BULK AT MOST 1048576: true; the input reads as it did. -/
def wholeMakesUptoRow : OpenClaim := { program := "ythdeeoallfbjmaa", sum := "5fe32ab24dbdea9c498a090c9db027f0db02ccd8b697afb581915a45b5ec218c", func := "trunnion/trunnionlaw09.WholeMakes", spec := "wholeMakes", inPlace := ["math/bits.Add64"], unfollowed := true, recurses := true, apart := false, narrowed := true }
def WholeMakesUptoSaid : Prop := wholeMakesUptoRow.holds Try.pinned (OpenSpec.upto wholeMakesSpec)

/-- 'trunnionlaw09.WholeKeeps', WHERE WHAT IT READS IS OF BULK AT MOST 1048576: true; the input reads as it did. -/
def wholeKeepsUptoRow : OpenClaim := { program := "ythdeeoallfbjmaa", sum := "5fe32ab24dbdea9c498a090c9db027f0db02ccd8b697afb581915a45b5ec218c", func := "trunnion/trunnionlaw09.WholeKeeps", spec := "wholeKeeps", inPlace := ["math/bits.Add64"], unfollowed := true, recurses := true, apart := false, narrowed := true }
def WholeKeepsUptoSaid : Prop := wholeKeepsUptoRow.holds Try.pinned (OpenSpec.upto wholeKeepsSpec)

/-- 'trunnionlaw09.WholeHalf', WHERE WHAT IT READS IS OF BULK AT MOST 1048576: true; the input reads as it did. -/
def wholeHalfUptoRow : OpenClaim := { program := "ythdeeoallfbjmaa", sum := "5fe32ab24dbdea9c498a090c9db027f0db02ccd8b697afb581915a45b5ec218c", func := "trunnion/trunnionlaw09.WholeHalf", spec := "wholeHalf", inPlace := ["math/bits.Add64", "math/bits.Sub64"], unfollowed := true, recurses := true, apart := false, narrowed := true }
def WholeHalfUptoSaid : Prop := wholeHalfUptoRow.holds Try.pinned (OpenSpec.upto wholeHalfSpec)

end Rows
end Go.Proofs.Ythdeeoallfbjmaa
