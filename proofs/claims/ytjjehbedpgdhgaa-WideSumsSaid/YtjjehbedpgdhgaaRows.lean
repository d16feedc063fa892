/-
  No cell of these rows narrows 'for every input' (looked for: loops, veiled, ifaces, maps, wideKeys, modest, calm, conditions, laid).
  DERIVED. THE GIVEN ROWS OF THIS SEAT. 5 by the template 'for every input the law returns true; each argument reads behind the call as it read before'; 0 by the template 'total and deterministic' (their statements: YtjjehbedpgdhgaaTotals.lean).
  GIVEN WITH THE SEED: the statements are not yours to turn. If you find one false, say at which input.
  Laid BY PROGRAM, IN A SANDBOX (cutbox-rows.mjs): the forced cells as the released guide's own fill.sh prints them over the translation 64a54bfe6a7a77a5… (all of the seat's roots in one cut). By AI agents, Wed Nov 11 2026. No macro, syntax, notation, axiom, sorry.
-/
import Derived.Test.YtjjehbedpgdhgaaChecked
import GoSem.Claim
import GoSem.ClaimJoined
import GoSem.ClaimMapViews
import Derived.JoinedTies
import Derived.KernelRfl
namespace Go.Proofs.Ytjjehbedpgdhgaa
/- THE CELL 'sum', in the pinned program and in every row, IS THE sha256 OF THE DUMP (.gsa) THAT YtjjehbedpgdhgaaProg.lean LOADS. Nothing in Lean hashes anything: it is a label: what it is worth is what the hold of that sum in a sandbox is worth. -/
noncomputable def Try.pinned : Pinned := { name := "ytjjehbedpgdhgaa", sum := "64a54bfe6a7a77a5f375d4b4dd46f3392eecc5c7d174ba3850f6815069d852fb", checked := Try.checked }
namespace Rows
def none {H : Type} : Left H := { results := [], args := [] }

/-- 'trunnionlaw07.RadixRoots': WHATEVER THE INPUT: true; the input reads as it did. -/
def radixRootsSpec : ChangeSpec := { name := "radixRoots", fn := fun _ => fun
  | [d1, d2] => { results := [.lit (.bool true)], args := [d1, d2] }
  | _ => none }
def radixRootsRow : OpenClaim := { program := "ytjjehbedpgdhgaa", sum := "64a54bfe6a7a77a5f375d4b4dd46f3392eecc5c7d174ba3850f6815069d852fb", func := "trunnion/trunnionlaw07.RadixRoots", spec := "radixRoots", inPlace := ["math/bits.Add64"], apart := false }
def RadixRootsSaid : Prop := radixRootsRow.holds Try.pinned (OpenSpec.ofChange radixRootsSpec)

/-- ITS FALSE NEIGHBOUR: 'it returns false'. Refute it at one input. -/
def radixRootsWrong : ChangeSpec := { name := "radixRoots", fn := fun _ => fun
  | [d1, d2] => { results := [.lit (.bool false)], args := [d1, d2] }
  | _ => none }
def RadixRootsWrongFalsely : Prop := radixRootsRow.holds Try.pinned (OpenSpec.ofChange radixRootsWrong)

/-- 'trunnionlaw07.RadixKeeps': WHATEVER THE INPUT: true; the input reads as it did. -/
def radixKeepsSpec : ChangeSpec := { name := "radixKeeps", fn := fun _ => fun
  | [d1, d2, d3] => { results := [.lit (.bool true)], args := [d1, d2, d3] }
  | _ => none }
def radixKeepsRow : OpenClaim := { program := "ytjjehbedpgdhgaa", sum := "64a54bfe6a7a77a5f375d4b4dd46f3392eecc5c7d174ba3850f6815069d852fb", func := "trunnion/trunnionlaw07.RadixKeeps", spec := "radixKeeps", inPlace := ["math/bits.Add64"], apart := false }
def RadixKeepsSaid : Prop := radixKeepsRow.holds Try.pinned (OpenSpec.ofChange radixKeepsSpec)

/-- ITS FALSE NEIGHBOUR: 'it returns false'. Refute it at one input. -/
def radixKeepsWrong : ChangeSpec := { name := "radixKeeps", fn := fun _ => fun
  | [d1, d2, d3] => { results := [.lit (.bool false)], args := [d1, d2, d3] }
  | _ => none }
def RadixKeepsWrongFalsely : Prop := radixKeepsRow.holds Try.pinned (OpenSpec.ofChange radixKeepsWrong)

/-- 'trunnionlaw07.RadixScale': WHATEVER THE INPUT: true; the input reads as it did. -/
def radixScaleSpec : ChangeSpec := { name := "radixScale", fn := fun _ => fun
  | [d1, d2, d3] => { results := [.lit (.bool true)], args := [d1, d2, d3] }
  | _ => none }
def radixScaleRow : OpenClaim := { program := "ytjjehbedpgdhgaa", sum := "64a54bfe6a7a77a5f375d4b4dd46f3392eecc5c7d174ba3850f6815069d852fb", func := "trunnion/trunnionlaw07.RadixScale", spec := "radixScale", inPlace := ["math/bits.Add64"], apart := false }
def RadixScaleSaid : Prop := radixScaleRow.holds Try.pinned (OpenSpec.ofChange radixScaleSpec)

/-- ITS FALSE NEIGHBOUR: 'it returns false'. Refute it at one input. -/
def radixScaleWrong : ChangeSpec := { name := "radixScale", fn := fun _ => fun
  | [d1, d2, d3] => { results := [.lit (.bool false)], args := [d1, d2, d3] }
  | _ => none }
def RadixScaleWrongFalsely : Prop := radixScaleRow.holds Try.pinned (OpenSpec.ofChange radixScaleWrong)

/-- 'trunnionlaw12.ChopTraps': WHATEVER THE INPUT: true; the input reads as it did. -/
def chopTrapsSpec : ChangeSpec := { name := "chopTraps", fn := fun _ => fun
  | [d1, d2] => { results := [.lit (.bool true)], args := [d1, d2] }
  | _ => none }
def chopTrapsRow : OpenClaim := { program := "ytjjehbedpgdhgaa", sum := "64a54bfe6a7a77a5f375d4b4dd46f3392eecc5c7d174ba3850f6815069d852fb", func := "trunnion/trunnionlaw12.ChopTraps", spec := "chopTraps", apart := false }
def ChopTrapsSaid : Prop := chopTrapsRow.holds Try.pinned (OpenSpec.ofChange chopTrapsSpec)

/-- ITS FALSE NEIGHBOUR: 'it returns false'. Refute it at one input. -/
def chopTrapsWrong : ChangeSpec := { name := "chopTraps", fn := fun _ => fun
  | [d1, d2] => { results := [.lit (.bool false)], args := [d1, d2] }
  | _ => none }
def ChopTrapsWrongFalsely : Prop := chopTrapsRow.holds Try.pinned (OpenSpec.ofChange chopTrapsWrong)

/-- 'trunnionlaw01.WideSums': WHATEVER THE INPUT: true; the input reads as it did. -/
def wideSumsSpec : ChangeSpec := { name := "wideSums", fn := fun _ => fun
  | [d1, d2] => { results := [.lit (.bool true)], args := [d1, d2] }
  | _ => none }
def wideSumsRow : OpenClaim := { program := "ytjjehbedpgdhgaa", sum := "64a54bfe6a7a77a5f375d4b4dd46f3392eecc5c7d174ba3850f6815069d852fb", func := "trunnion/trunnionlaw01.WideSums", spec := "wideSums", inPlace := ["math/bits.Add64", "math/bits.Sub64"], apart := false }
def WideSumsSaid : Prop := wideSumsRow.holds Try.pinned (OpenSpec.ofChange wideSumsSpec)

/-- ITS FALSE NEIGHBOUR: 'it returns false'. Refute it at one input. -/
def wideSumsWrong : ChangeSpec := { name := "wideSums", fn := fun _ => fun
  | [d1, d2] => { results := [.lit (.bool false)], args := [d1, d2] }
  | _ => none }
def WideSumsWrongFalsely : Prop := wideSumsRow.holds Try.pinned (OpenSpec.ofChange wideSumsWrong)

/- THE SECOND FORM. 'bulk': how many values and letters a reading holds, each counted each time it is reached (what is shared counts as often as it is met; a slice's spare places count too). A statement '..UptoSaid' is the law's where the arguments, and the package variables that the reading takes, are together of bulk at most 1048576: NARROWER than '..Said'. Prove '..Said' where nothing that the law and all that it calls make is longer than what came in: it says more and counts as full. Else prove '..UptoSaid'. A law counts once. -/
mutual
def uptoBulk {H : Type} : DataW H → Nat
  | .lit (.string bytes) => bytes.length + 1
  | .lit _ => 1
  | .nil => 1
  | .ptr d => uptoBulk d + 1
  | .slice elems spare => uptoBulkAll elems + uptoBulkAll spare + 1
  | .agg parts => uptoBulkAll parts + 1
  | .iface _ d => uptoBulk d + 1
  | .map entries => uptoBulkEntries entries + 1
  | .held _ => 1
def uptoBulkAll {H : Type} : List (DataW H) → Nat
  | [] => 0
  | d :: r => uptoBulk d + uptoBulkAll r
def uptoBulkEntries {H : Type} : List (Lit × DataW H) → Nat
  | [] => 0
  | x :: r => uptoBulkEntry x + uptoBulkEntries r
def uptoBulkEntry {H : Type} : Lit × DataW H → Nat
  | (.string bytes, d) => bytes.length + uptoBulk d + 1
  | (_, d) => uptoBulk d + 1
 end
def uptoSmall : (H : Type) → List (DataW H) → Bool := fun _ ds => decide (uptoBulkAll ds ≤ 1048576)
def OpenSpec.upto (s : _root_.Go.ChangeSpec) : _root_.Go.OpenSpec := { _root_.Go.OpenSpec.ofChange s with cond := some uptoSmall }

/-- 'trunnionlaw07.RadixRoots', WHERE WHAT IT READS IS OF BULK AT MOST 1048576: true; the input reads as it did. -/
def radixRootsUptoRow : OpenClaim := { program := "ytjjehbedpgdhgaa", sum := "64a54bfe6a7a77a5f375d4b4dd46f3392eecc5c7d174ba3850f6815069d852fb", func := "trunnion/trunnionlaw07.RadixRoots", spec := "radixRoots", inPlace := ["math/bits.Add64"], apart := false, narrowed := true }
def RadixRootsUptoSaid : Prop := radixRootsUptoRow.holds Try.pinned (OpenSpec.upto radixRootsSpec)

/-- 'trunnionlaw07.RadixKeeps', WHERE WHAT IT READS IS OF BULK AT MOST 1048576: true; the input reads as it did. -/
def radixKeepsUptoRow : OpenClaim := { program := "ytjjehbedpgdhgaa", sum := "64a54bfe6a7a77a5f375d4b4dd46f3392eecc5c7d174ba3850f6815069d852fb", func := "trunnion/trunnionlaw07.RadixKeeps", spec := "radixKeeps", inPlace := ["math/bits.Add64"], apart := false, narrowed := true }
def RadixKeepsUptoSaid : Prop := radixKeepsUptoRow.holds Try.pinned (OpenSpec.upto radixKeepsSpec)

/-- 'trunnionlaw07.RadixScale', WHERE WHAT IT READS IS OF BULK AT MOST 1048576: true; the input reads as it did. -/
def radixScaleUptoRow : OpenClaim := { program := "ytjjehbedpgdhgaa", sum := "64a54bfe6a7a77a5f375d4b4dd46f3392eecc5c7d174ba3850f6815069d852fb", func := "trunnion/trunnionlaw07.RadixScale", spec := "radixScale", inPlace := ["math/bits.Add64"], apart := false, narrowed := true }
def RadixScaleUptoSaid : Prop := radixScaleUptoRow.holds Try.pinned (OpenSpec.upto radixScaleSpec)

/-- 'trunnionlaw12.ChopTraps', WHERE WHAT IT READS IS OF BULK AT MOST 1048576: true; the input reads as it did. -/
def chopTrapsUptoRow : OpenClaim := { program := "ytjjehbedpgdhgaa", sum := "64a54bfe6a7a77a5f375d4b4dd46f3392eecc5c7d174ba3850f6815069d852fb", func := "trunnion/trunnionlaw12.ChopTraps", spec := "chopTraps", apart := false, narrowed := true }
def ChopTrapsUptoSaid : Prop := chopTrapsUptoRow.holds Try.pinned (OpenSpec.upto chopTrapsSpec)

/-- 'trunnionlaw01.WideSums', WHERE WHAT IT READS IS OF BULK AT MOST 1048576: true; the input reads as it did. -/
def wideSumsUptoRow : OpenClaim := { program := "ytjjehbedpgdhgaa", sum := "64a54bfe6a7a77a5f375d4b4dd46f3392eecc5c7d174ba3850f6815069d852fb", func := "trunnion/trunnionlaw01.WideSums", spec := "wideSums", inPlace := ["math/bits.Add64", "math/bits.Sub64"], apart := false, narrowed := true }
def WideSumsUptoSaid : Prop := wideSumsUptoRow.holds Try.pinned (OpenSpec.upto wideSumsSpec)

end Rows
end Go.Proofs.Ytjjehbedpgdhgaa
