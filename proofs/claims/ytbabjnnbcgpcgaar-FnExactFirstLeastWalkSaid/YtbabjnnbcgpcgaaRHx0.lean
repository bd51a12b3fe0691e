/- Contracts of the Go functions that the laws reach, each for every input and every memory: written by a program of this session over the kit print, with contracts of its own for what that leaves out. No further condition. -/
import Derived.Test.YtbabjnnbcgpcgaaRProg
import Derived.Below
import Derived.Deep.Draws
import Derived.Deep.AppendLies
import Derived.Maps.AppendAt
import Derived.OwnWalk
import Derived.Laws.BytesArg
import Derived.Laws.MakeOwn
import Derived.Laws.OwnMore
import Derived.Deep.OwnRows
import Derived.Tactics
import Derived.Lib.ConvBytes
import Derived.Laws.Slices
import Derived.WalkKit
import Derived.KernelRfl
import Derived.RowKit3
import Derived.Deep.LoopGhost
import Derived.Deep.QuietTactic
import Derived.BigQuiet
import Derived.WideLaws
import Derived.Deep.DeepCutAuto
import Derived.Deep.CutBlock
import Derived.Deep.RegionHeld3
import Derived.Laws.Rows
import Derived.Lib.AppendStr
import Derived.ArgAppend
import Derived.Laws.IdiomCopy
import Derived.OrdersHeld
import Derived.Laws.BitsLemmas
import Derived.RowKit
import Derived.Shelf.Abstract
import Derived.Lib.SliceRun
import Derived.Test.YtbabjnnbcgpcgaaRWWords
import Derived.Test.YtbabjnnbcgpcgaaRWLast
import Derived.Test.YtbabjnnbcgpcgaaRWTab
import Derived.Test.YtbabjnnbcgpcgaaRWFour
import Derived.Test.YtbabjnnbcgpcgaaRWQPut
import Derived.Test.YtbabjnnbcgpcgaaRWApart
import Derived.Test.YtbabjnnbcgpcgaaRWArr
import Derived.Test.YtbabjnnbcgpcgaaRWZeros
import Derived.Test.YtbabjnnbcgpcgaaRWFoot
import Derived.Test.YtbabjnnbcgpcgaaRWKept
import Derived.Test.YtbabjnnbcgpcgaaRWShare
import Derived.Test.YtbabjnnbcgpcgaaRWN
import Derived.Test.YtbabjnnbcgpcgaaRWFootNe
import Derived.Test.YtbabjnnbcgpcgaaRWAt
import Derived.Test.YtbabjnnbcgpcgaaRWEqStruct
import Derived.Test.YtbabjnnbcgpcgaaRWRepsOne
import Derived.Test.YtbabjnnbcgpcgaaRWInv
import Derived.Test.YtbabjnnbcgpcgaaRWInvWords
import Derived.Test.YtbabjnnbcgpcgaaRWGuard
import Derived.Test.YtbabjnnbcgpcgaaRWNEv
import Derived.Test.YtbabjnnbcgpcgaaRWMore
namespace Go.Proofs.YtbabjnnbcgpcgaaR.H
open Go.RowKit Go.Proofs.YtbabjnnbcgpcgaaRW.PrintWords Go.Proofs.YtbabjnnbcgpcgaaRW.PrintLast Go.Proofs.YtbabjnnbcgpcgaaRW.PrintMore
attribute [local go_sem] max2_int min2_int max_two min_two max_three min_three max_four min_four   -- for this text's walks alone
set_option linter.unusedVariables false
set_option linter.unusedSimpArgs false



def errW : Option Int → Value
  | none => .nilIface
  | some c => .iface 0 (.int .i64 c)
theorem errW_none : errW none = .nilIface := rfl
theorem errW_some (c : Int) : errW (some c) = .iface 0 (.int .i64 c) := rfl

theorem info3 : (Try.prog.info? 3).map (fun i => (i.zero, i.size, i.bytes)) = some (some (.int .i64 0), 1, 8) := by kernel_rfl
-- the values' own types

end Go.Proofs.YtbabjnnbcgpcgaaR.H
