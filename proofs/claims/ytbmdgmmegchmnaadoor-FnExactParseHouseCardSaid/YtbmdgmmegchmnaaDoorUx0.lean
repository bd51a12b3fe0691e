/- Contracts of the Go functions that the laws reach, each for every input and every memory: written by a program of this session over the kit print, with contracts of its own for what that leaves out. No further condition. -/
import Derived.Test.YtbmdgmmegchmnaaDoorProg
import Derived.Below
import Derived.Deep.Draws
import Derived.Deep.AppendLies
import Derived.Maps.AppendAt
import Derived.OwnWalk
import Derived.Laws.BytesArg
import Derived.Laws.MakeOwn
import Derived.Laws.OwnMore
import Derived.Deep.OwnRows
import Derived.Tactics
import Derived.Lib.ConvBytes
import Derived.Laws.Slices
import Derived.WalkKit
import Derived.KernelRfl
import Derived.RowKit3
import Derived.Deep.LoopGhost
import Derived.Deep.QuietTactic
import Derived.BigQuiet
import Derived.WideLaws
import Derived.Deep.DeepCutAuto
import Derived.Deep.CutBlock
import Derived.Deep.RegionHeld3
import Derived.Laws.Rows
import Derived.Lib.AppendStr
import Derived.ArgAppend
import Derived.Laws.IdiomCopy
import Derived.OrdersHeld
import Derived.Laws.BitsLemmas
import Derived.RowKit
import Derived.Shelf.Abstract
import Derived.Lib.SliceRun
import Derived.Test.YtbmdgmmegchmnaaDoorShelf
import Derived.Shelf.Vars
import Derived.Outline
import Derived.Test.YtbmdgmmegchmnaaDoorWWords
import Derived.Test.YtbmdgmmegchmnaaDoorWLast
import Derived.Test.YtbmdgmmegchmnaaDoorWTab
import Derived.Test.YtbmdgmmegchmnaaDoorWFour
import Derived.Test.YtbmdgmmegchmnaaDoorWQPut
import Derived.Test.YtbmdgmmegchmnaaDoorWApart
import Derived.Test.YtbmdgmmegchmnaaDoorWArr
import Derived.Test.YtbmdgmmegchmnaaDoorWZeros
import Derived.Test.YtbmdgmmegchmnaaDoorWFoot
import Derived.Test.YtbmdgmmegchmnaaDoorWKept
import Derived.Test.YtbmdgmmegchmnaaDoorWShare
import Derived.Test.YtbmdgmmegchmnaaDoorWN
import Derived.Test.YtbmdgmmegchmnaaDoorWFootNe
import Derived.Test.YtbmdgmmegchmnaaDoorWAt
import Derived.Test.YtbmdgmmegchmnaaDoorWEqStruct
import Derived.Test.YtbmdgmmegchmnaaDoorWRepsOne
import Derived.Test.YtbmdgmmegchmnaaDoorWInv
import Derived.Test.YtbmdgmmegchmnaaDoorWInvWords
import Derived.Test.YtbmdgmmegchmnaaDoorWGuard
import Derived.Test.YtbmdgmmegchmnaaDoorWNEv
import Derived.Test.YtbmdgmmegchmnaaDoorWMore
namespace Go.Proofs.YtbmdgmmegchmnaaDoor.U
open Go.RowKit Go.Proofs.YtbmdgmmegchmnaaDoorW.PrintWords Go.Proofs.YtbmdgmmegchmnaaDoorW.PrintLast Go.Proofs.YtbmdgmmegchmnaaDoorW.PrintMore
attribute [local go_sem] max2_int min2_int max_two min_two max_three min_three max_four min_four   -- for this text's walks alone
set_option linter.unusedVariables false
set_option linter.unusedSimpArgs false



def errW : Option Int → Value
  | none => .nilIface
  | some c => .iface 135 (.int .i64 c)
theorem errW_none : errW none = .nilIface := rfl
theorem errW_some (c : Int) : errW (some c) = .iface 135 (.int .i64 c) := rfl

theorem info3 : (Tryd.prog.info? 3).map (fun i => (i.zero, i.size, i.bytes)) = some (some (.int .i64 0), 1, 8) := by kernel_rfl
theorem info5 : (Tryd.prog.info? 5).map (fun i => (i.zero, i.size, i.bytes)) = some (some (.int .u8 0), 1, 1) := by kernel_rfl
theorem info9 : (Tryd.prog.info? 9).map (fun i => (i.zero, i.size, i.bytes)) = some (some (.string ⟨#[]⟩), 1, 16) := by kernel_rfl
-- the values' own types

end Go.Proofs.YtbmdgmmegchmnaaDoor.U
