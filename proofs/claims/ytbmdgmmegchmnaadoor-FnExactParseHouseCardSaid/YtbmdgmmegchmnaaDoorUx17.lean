/- Contracts of the Go functions that the laws reach, each for every input and every memory: written by a program of this session over the kit print, with contracts of its own for what that leaves out. No further condition. -/
import Derived.Test.YtbmdgmmegchmnaaDoorUx0
namespace Go.Proofs.YtbmdgmmegchmnaaDoor.U
open Go.RowKit Go.Proofs.YtbmdgmmegchmnaaDoorW.PrintWords Go.Proofs.YtbmdgmmegchmnaaDoorW.PrintLast Go.Proofs.YtbmdgmmegchmnaaDoorW.PrintMore
attribute [local go_sem] max2_int min2_int max_two min_two max_three min_three max_four min_four   -- for this text's walks alone
set_option linter.unusedVariables false
set_option linter.unusedSimpArgs false

theorem blk_to {Wd W : World} {g : Nat} {o : Obj} (h : Wd.heap[g]? = some o) (e : ∀ o, Wd.heap[g]? = some o → W.heap[g]? = some o) : W.heap[g]? = some o := e o h
/-! ### shorter names, for the longest texts -/
abbrev rN_ := @Kd.R_drewN
abbrev rA_ := @Kd.R_alloc
abbrev rD_ := @Kd.R_drew
abbrev kN_ := @blk_drewN
abbrev kA_ := @blk_alloc
abbrev kD_ := @blk_drew
abbrev bN_ := @pw_below_drewN
abbrev bD_ := @below_drew1
abbrev bA_ := @below_alloc
abbrev bS_ := @below_set
abbrev rM_ := @Kd.R_mono
abbrev rB_ := @Kd.R_below
abbrev rF_ := @Kd.R_far
abbrev rR_ := @Kd.R_reads'

end Go.Proofs.YtbmdgmmegchmnaaDoor.U
