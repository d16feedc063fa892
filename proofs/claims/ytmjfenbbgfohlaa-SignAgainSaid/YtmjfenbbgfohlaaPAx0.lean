/- What the Go functions that a statement reaches compute, each as a Lean function with its proof, and the statement itself behind it, for every input; written by a program of this session (pp.py) out of the translation. -/
import Derived.Test.YtmjfenbbgfohlaaProg
import Derived.Below
import Derived.Deep.Draws
import Derived.Deep.AppendLies
import Derived.Maps.AppendAt
import Derived.OwnWalk
import Derived.Laws.BytesArg
import Derived.Laws.MakeOwn
import Derived.Laws.OwnMore
import Derived.Deep.OwnRows
import Derived.Tactics
import Derived.Lib.ConvBytes
import Derived.Laws.Slices
import Derived.WalkKit
import Derived.KernelRfl
import Derived.RowKit3
import Derived.Deep.LoopGhost
import Derived.Deep.QuietTactic
import Derived.BigQuiet
import Derived.WideLaws
import Derived.Deep.DeepCutAuto
import Derived.Deep.CutBlock
import Derived.Deep.RegionHeld3
import Derived.Laws.Rows
import Derived.Lib.AppendStr
import Derived.ArgAppend
import Derived.Laws.IdiomCopy
import Derived.OrdersHeld
import Derived.Laws.BitsLemmas
import Derived.RowKit
import Derived.Test.YtmjfenbbgfohlaaWWords
import Derived.Test.YtmjfenbbgfohlaaWLast
import Derived.Test.YtmjfenbbgfohlaaWTab
import Derived.Test.YtmjfenbbgfohlaaWFour
import Derived.Test.YtmjfenbbgfohlaaWQPut
import Derived.Test.YtmjfenbbgfohlaaWApart
import Derived.Test.YtmjfenbbgfohlaaWArr
import Derived.Test.YtmjfenbbgfohlaaWZeros
import Derived.Test.YtmjfenbbgfohlaaWFoot
import Derived.Test.YtmjfenbbgfohlaaWKept
import Derived.Test.YtmjfenbbgfohlaaWShare
import Derived.Test.YtmjfenbbgfohlaaWN
import Derived.Test.YtmjfenbbgfohlaaWFootNe
import Derived.Test.YtmjfenbbgfohlaaWAt
import Derived.Test.YtmjfenbbgfohlaaWEqStruct
import Derived.Test.YtmjfenbbgfohlaaWRepsOne
import Derived.Test.YtmjfenbbgfohlaaWInv
import Derived.Test.YtmjfenbbgfohlaaWInvWords
import Derived.Test.YtmjfenbbgfohlaaWGuard
import Derived.Test.YtmjfenbbgfohlaaWNEv
import Derived.Test.YtmjfenbbgfohlaaWMore
namespace Go.Proofs.Ytmjfenbbgfohlaa.PA
open Go.RowKit Go.Proofs.YtmjfenbbgfohlaaW.PrintWords Go.Proofs.YtmjfenbbgfohlaaW.PrintLast Go.Proofs.YtmjfenbbgfohlaaW.PrintMore
attribute [local go_sem] max2_int min2_int max_two min_two max_three min_three max_four min_four   -- for this text's walks alone
set_option linter.unusedVariables false
set_option linter.unusedSimpArgs false



def errW : Option Int → Value
  | none => .nilIface
  | some c => .iface 0 (.int .i64 c)
theorem errW_none : errW none = .nilIface := rfl
theorem errW_some (c : Int) : errW (some c) = .iface 0 (.int .i64 c) := rfl

theorem info4 : (Try.prog.info? 4).map (fun i => (i.zero, i.size, i.bytes)) = some (some (.bool false), 1, 1) := by kernel_rfl
theorem info22 : (Try.prog.info? 22).map (fun i => (i.zero, i.size, i.bytes)) = some (some (.int .u64 0), 1, 8) := by kernel_rfl
-- the values' own types

end Go.Proofs.Ytmjfenbbgfohlaa.PA
