-- PRINTED BY print.sh 35421559b90ae4d0a3588c463048766b98c2df88dd9212a6774a882060cdf62d: not written by this session
import Derived.Test.YtdokbcjmnfobfaaProg
import Derived.Below
import Derived.Deep.Draws
import Derived.Deep.AppendLies
import Derived.Maps.AppendAt
import Derived.OwnWalk
import Derived.Laws.BytesArg
import Derived.Laws.MakeOwn
import Derived.Laws.OwnMore
import Derived.Deep.OwnRows
import Derived.Tactics
import Derived.Lib.ConvBytes
import Derived.Laws.Slices
import Derived.WalkKit
import Derived.KernelRfl
import Derived.RowKit3
import Derived.Deep.LoopGhost
import Derived.Deep.QuietTactic
import Derived.BigQuiet
import Derived.WideLaws
import Derived.Deep.DeepCutAuto
import Derived.Deep.CutBlock
import Derived.Deep.RegionHeld3
import Derived.Laws.Rows
import Derived.Lib.AppendStr
import Derived.ArgAppend
import Derived.Laws.IdiomCopy
import Derived.OrdersHeld
import Derived.Laws.BitsLemmas
import Derived.RowKit
import Derived.Test.YtdokbcjmnfobfaaWWords
import Derived.Test.YtdokbcjmnfobfaaWLast
import Derived.Test.YtdokbcjmnfobfaaWTab
import Derived.Test.YtdokbcjmnfobfaaWFour
import Derived.Test.YtdokbcjmnfobfaaWQPut
import Derived.Test.YtdokbcjmnfobfaaWApart
import Derived.Test.YtdokbcjmnfobfaaWArr
import Derived.Test.YtdokbcjmnfobfaaWZeros
import Derived.Test.YtdokbcjmnfobfaaWFoot
import Derived.Test.YtdokbcjmnfobfaaWKept
import Derived.Test.YtdokbcjmnfobfaaWShare
import Derived.Test.YtdokbcjmnfobfaaWN
import Derived.Test.YtdokbcjmnfobfaaWFootNe
import Derived.Test.YtdokbcjmnfobfaaWAt
import Derived.Test.YtdokbcjmnfobfaaWEqStruct
import Derived.Test.YtdokbcjmnfobfaaWRepsOne
import Derived.Test.YtdokbcjmnfobfaaWInv
import Derived.Test.YtdokbcjmnfobfaaWInvWords
import Derived.Test.YtdokbcjmnfobfaaWGuard
import Derived.Test.YtdokbcjmnfobfaaWNEv
import Derived.Test.YtdokbcjmnfobfaaWMore
namespace Go.Proofs.Ytdokbcjmnfobfaa.PFnExactWholeLine
open Go.RowKit Go.Proofs.YtdokbcjmnfobfaaW.PrintWords Go.Proofs.YtdokbcjmnfobfaaW.PrintLast Go.Proofs.YtdokbcjmnfobfaaW.PrintMore
attribute [local go_sem] max2_int min2_int max_two min_two max_three min_three max_four min_four   -- for this text's walks alone
set_option linter.unusedVariables false
set_option linter.unusedSimpArgs false



def errW : Option Int → Value
  | none => .nilIface
  | some c => .iface 0 (.int .i64 c)
theorem errW_none : errW none = .nilIface := rfl
theorem errW_some (c : Int) : errW (some c) = .iface 0 (.int .i64 c) := rfl

-- the values' own types

end Go.Proofs.Ytdokbcjmnfobfaa.PFnExactWholeLine
