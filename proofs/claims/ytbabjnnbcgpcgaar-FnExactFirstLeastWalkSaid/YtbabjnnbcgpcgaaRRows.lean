/-
  No cell of these rows narrows 'for every input' (looked for: loops, veiled, ifaces, maps, wideKeys, modest, calm, conditions, laid).
  DERIVED. THE GIVEN ROWS OF THIS SEAT. 6 by the template 'for every input the law returns true; each argument reads behind the call as it read before'; 0 by the template 'total and deterministic' (their statements: YtbabjnnbcgpcgaaRTotals.lean).
  GIVEN WITH THE SEED: the statements are not yours to turn. If you find one false, say at which input.
  Laid BY PROGRAM, IN A SANDBOX (cutbox-rows.mjs): the forced cells as the released guide's own fill.sh prints them over the translation 508abf72c767f060… (all of the seat's roots in one cut). By AI agents, Wed Nov 11 2026. No macro, syntax, notation, axiom, sorry.
-/
import Derived.Test.YtbabjnnbcgpcgaaRChecked
import GoSem.Claim
import GoSem.ClaimJoined
import GoSem.ClaimMapViews
import Derived.JoinedTies
import Derived.KernelRfl
namespace Go.Proofs.YtbabjnnbcgpcgaaR
/- THE CELL 'sum', in the pinned program and in every row, IS THE sha256 OF THE DUMP (.gsa) THAT YtbabjnnbcgpcgaaRProg.lean LOADS. Nothing in Lean hashes anything: it is a label: what it is worth is what the hold of that sum in a sandbox is worth. -/
noncomputable def Try.pinned : Pinned := { name := "ytbabjnnbcgpcgaar", sum := "508abf72c767f060404dcafb1d17482d7d2824aafa995125a602d94feee2857a", checked := Try.checked }
namespace Rows
def none {H : Type} : Left H := { results := [], args := [] }

/-- 'laws.FnExactLandingsAt': WHATEVER THE INPUT: true; the input reads as it did. -/
def fnExactLandingsAtSpec : ChangeSpec := { name := "fnExactLandingsAt", fn := fun _ => fun
  | [d1, d2] => { results := [.lit (.bool true)], args := [d1, d2] }
  | _ => none }
def fnExactLandingsAtRow : OpenClaim := { program := "ytbabjnnbcgpcgaar", sum := "508abf72c767f060404dcafb1d17482d7d2824aafa995125a602d94feee2857a", func := "loop.example/g01374/laws.FnExactLandingsAt", spec := "fnExactLandingsAt", unfollowed := true, recurses := true, apart := false }
def FnExactLandingsAtSaid : Prop := fnExactLandingsAtRow.holds Try.pinned (OpenSpec.ofChange fnExactLandingsAtSpec)

/-- ITS FALSE NEIGHBOUR: 'it returns false'. Refute it at one input. -/
def fnExactLandingsAtWrong : ChangeSpec := { name := "fnExactLandingsAt", fn := fun _ => fun
  | [d1, d2] => { results := [.lit (.bool false)], args := [d1, d2] }
  | _ => none }
def FnExactLandingsAtWrongFalsely : Prop := fnExactLandingsAtRow.holds Try.pinned (OpenSpec.ofChange fnExactLandingsAtWrong)

/-- 'laws.FnExactMiddleFloor': WHATEVER THE INPUT: true; the input reads as it did. -/
def fnExactMiddleFloorSpec : ChangeSpec := { name := "fnExactMiddleFloor", fn := fun _ => fun
  | [d] => { results := [.lit (.bool true)], args := [d] }
  | _ => none }
def fnExactMiddleFloorRow : OpenClaim := { program := "ytbabjnnbcgpcgaar", sum := "508abf72c767f060404dcafb1d17482d7d2824aafa995125a602d94feee2857a", func := "loop.example/g01374/laws.FnExactMiddleFloor", spec := "fnExactMiddleFloor", unfollowed := true, recurses := true, apart := false }
def FnExactMiddleFloorSaid : Prop := fnExactMiddleFloorRow.holds Try.pinned (OpenSpec.ofChange fnExactMiddleFloorSpec)

/-- ITS FALSE NEIGHBOUR: 'it returns false'. Refute it at one input. -/
def fnExactMiddleFloorWrong : ChangeSpec := { name := "fnExactMiddleFloor", fn := fun _ => fun
  | [d] => { results := [.lit (.bool false)], args := [d] }
  | _ => none }
def FnExactMiddleFloorWrongFalsely : Prop := fnExactMiddleFloorRow.holds Try.pinned (OpenSpec.ofChange fnExactMiddleFloorWrong)

/-- 'laws.FnExactWalkToDoors': WHATEVER THE INPUT: true; the input reads as it did. -/
def fnExactWalkToDoorsSpec : ChangeSpec := { name := "fnExactWalkToDoors", fn := fun _ => fun
  | [d1, d2] => { results := [.lit (.bool true)], args := [d1, d2] }
  | _ => none }
def fnExactWalkToDoorsRow : OpenClaim := { program := "ytbabjnnbcgpcgaar", sum := "508abf72c767f060404dcafb1d17482d7d2824aafa995125a602d94feee2857a", func := "loop.example/g01374/laws.FnExactWalkToDoors", spec := "fnExactWalkToDoors", unfollowed := true, recurses := true, apart := false }
def FnExactWalkToDoorsSaid : Prop := fnExactWalkToDoorsRow.holds Try.pinned (OpenSpec.ofChange fnExactWalkToDoorsSpec)

/-- ITS FALSE NEIGHBOUR: 'it returns false'. Refute it at one input. -/
def fnExactWalkToDoorsWrong : ChangeSpec := { name := "fnExactWalkToDoors", fn := fun _ => fun
  | [d1, d2] => { results := [.lit (.bool false)], args := [d1, d2] }
  | _ => none }
def FnExactWalkToDoorsWrongFalsely : Prop := fnExactWalkToDoorsRow.holds Try.pinned (OpenSpec.ofChange fnExactWalkToDoorsWrong)

/-- 'laws.FnExactLeastWalk': WHATEVER THE INPUT: true; the input reads as it did. -/
def fnExactLeastWalkSpec : ChangeSpec := { name := "fnExactLeastWalk", fn := fun _ => fun
  | [d1, d2] => { results := [.lit (.bool true)], args := [d1, d2] }
  | _ => none }
def fnExactLeastWalkRow : OpenClaim := { program := "ytbabjnnbcgpcgaar", sum := "508abf72c767f060404dcafb1d17482d7d2824aafa995125a602d94feee2857a", func := "loop.example/g01374/laws.FnExactLeastWalk", spec := "fnExactLeastWalk", unfollowed := true, recurses := true, apart := false }
def FnExactLeastWalkSaid : Prop := fnExactLeastWalkRow.holds Try.pinned (OpenSpec.ofChange fnExactLeastWalkSpec)

/-- ITS FALSE NEIGHBOUR: 'it returns false'. Refute it at one input. -/
def fnExactLeastWalkWrong : ChangeSpec := { name := "fnExactLeastWalk", fn := fun _ => fun
  | [d1, d2] => { results := [.lit (.bool false)], args := [d1, d2] }
  | _ => none }
def FnExactLeastWalkWrongFalsely : Prop := fnExactLeastWalkRow.holds Try.pinned (OpenSpec.ofChange fnExactLeastWalkWrong)

/-- 'laws.FnExactMeetFloor': WHATEVER THE INPUT: true; the input reads as it did. -/
def fnExactMeetFloorSpec : ChangeSpec := { name := "fnExactMeetFloor", fn := fun _ => fun
  | [d1, d2] => { results := [.lit (.bool true)], args := [d1, d2] }
  | _ => none }
def fnExactMeetFloorRow : OpenClaim := { program := "ytbabjnnbcgpcgaar", sum := "508abf72c767f060404dcafb1d17482d7d2824aafa995125a602d94feee2857a", func := "loop.example/g01374/laws.FnExactMeetFloor", spec := "fnExactMeetFloor", unfollowed := true, recurses := true, apart := false }
def FnExactMeetFloorSaid : Prop := fnExactMeetFloorRow.holds Try.pinned (OpenSpec.ofChange fnExactMeetFloorSpec)

/-- ITS FALSE NEIGHBOUR: 'it returns false'. Refute it at one input. -/
def fnExactMeetFloorWrong : ChangeSpec := { name := "fnExactMeetFloor", fn := fun _ => fun
  | [d1, d2] => { results := [.lit (.bool false)], args := [d1, d2] }
  | _ => none }
def FnExactMeetFloorWrongFalsely : Prop := fnExactMeetFloorRow.holds Try.pinned (OpenSpec.ofChange fnExactMeetFloorWrong)

/-- 'laws.FnExactFirstLeastWalk': WHATEVER THE INPUT: true; the input reads as it did. -/
def fnExactFirstLeastWalkSpec : ChangeSpec := { name := "fnExactFirstLeastWalk", fn := fun _ => fun
  | [d1, d2] => { results := [.lit (.bool true)], args := [d1, d2] }
  | _ => none }
def fnExactFirstLeastWalkRow : OpenClaim := { program := "ytbabjnnbcgpcgaar", sum := "508abf72c767f060404dcafb1d17482d7d2824aafa995125a602d94feee2857a", func := "loop.example/g01374/laws.FnExactFirstLeastWalk", spec := "fnExactFirstLeastWalk", unfollowed := true, recurses := true, apart := false }
def FnExactFirstLeastWalkSaid : Prop := fnExactFirstLeastWalkRow.holds Try.pinned (OpenSpec.ofChange fnExactFirstLeastWalkSpec)

/-- ITS FALSE NEIGHBOUR: 'it returns false'. Refute it at one input. -/
def fnExactFirstLeastWalkWrong : ChangeSpec := { name := "fnExactFirstLeastWalk", fn := fun _ => fun
  | [d1, d2] => { results := [.lit (.bool false)], args := [d1, d2] }
  | _ => none }
def FnExactFirstLeastWalkWrongFalsely : Prop := fnExactFirstLeastWalkRow.holds Try.pinned (OpenSpec.ofChange fnExactFirstLeastWalkWrong)

/- THE SECOND FORM. 'bulk': how many values and letters a reading holds, each counted each time it is reached (what is shared counts as often as it is met; a slice's spare places count too). A statement '..UptoSaid' is the law's where the arguments, and the package variables that the reading takes, are together of bulk at most 1048576: NARROWER than '..Said'. Prove '..Said' where nothing that the law and all that it calls make is longer than what came in: it says more and counts as full. Else prove '..UptoSaid'. A law counts once. -/
mutual
def uptoBulk {H : Type} : DataW H → Nat
  | .lit (.string bytes) => bytes.length + 1
  | .lit _ => 1
  | .nil => 1
  | .ptr d => uptoBulk d + 1
  | .slice elems spare => uptoBulkAll elems + uptoBulkAll spare + 1
  | .agg parts => uptoBulkAll parts + 1
  | .iface _ d => uptoBulk d + 1
  | .map entries => uptoBulkEntries entries + 1
  | .held _ => 1
def uptoBulkAll {H : Type} : List (DataW H) → Nat
  | [] => 0
  | d :: r => uptoBulk d + uptoBulkAll r
def uptoBulkEntries {H : Type} : List (Lit × DataW H) → Nat
  | [] => 0
  | x :: r => uptoBulkEntry x + uptoBulkEntries r
def uptoBulkEntry {H : Type} : Lit × DataW H → Nat
  | (.string bytes, d) => bytes.length + uptoBulk d + 1
  | (_, d) => uptoBulk d + 1
 end
def uptoSmall : (H : Type) → List (DataW H) → Bool := fun _ ds => decide (uptoBulkAll ds ≤ 1048576)
def OpenSpec.upto (s : _root_.Go.ChangeSpec) : _root_.Go.OpenSpec := { _root_.Go.OpenSpec.ofChange s with cond := some uptoSmall }

/-- 'laws.FnExactLandingsAt', WHERE WHAT IT READS IS OF BULK AT MOST 1048576: true; the input reads as it did. -/
def fnExactLandingsAtUptoRow : OpenClaim := { program := "ytbabjnnbcgpcgaar", sum := "508abf72c767f060404dcafb1d17482d7d2824aafa995125a602d94feee2857a", func := "loop.example/g01374/laws.FnExactLandingsAt", spec := "fnExactLandingsAt", unfollowed := true, recurses := true, apart := false, narrowed := true }
def FnExactLandingsAtUptoSaid : Prop := fnExactLandingsAtUptoRow.holds Try.pinned (OpenSpec.upto fnExactLandingsAtSpec)

/-- 'laws.FnExactMiddleFloor', WHERE WHAT IT READS IS OF BULK AT MOST 1048576: true; the input reads as it did. -/
def fnExactMiddleFloorUptoRow : OpenClaim := { program := "ytbabjnnbcgpcgaar", sum := "508abf72c767f060404dcafb1d17482d7d2824aafa995125a602d94feee2857a", func := "loop.example/g01374/laws.FnExactMiddleFloor", spec := "fnExactMiddleFloor", unfollowed := true, recurses := true, apart := false, narrowed := true }
def FnExactMiddleFloorUptoSaid : Prop := fnExactMiddleFloorUptoRow.holds Try.pinned (OpenSpec.upto fnExactMiddleFloorSpec)

/-- 'laws.FnExactWalkToDoors', WHERE WHAT IT READS IS OF BULK AT MOST 1048576: true; the input reads as it did. -/
def fnExactWalkToDoorsUptoRow : OpenClaim := { program := "ytbabjnnbcgpcgaar", sum := "508abf72c767f060404dcafb1d17482d7d2824aafa995125a602d94feee2857a", func := "loop.example/g01374/laws.FnExactWalkToDoors", spec := "fnExactWalkToDoors", unfollowed := true, recurses := true, apart := false, narrowed := true }
def FnExactWalkToDoorsUptoSaid : Prop := fnExactWalkToDoorsUptoRow.holds Try.pinned (OpenSpec.upto fnExactWalkToDoorsSpec)

/-- 'laws.FnExactLeastWalk', WHERE WHAT IT READS IS OF BULK AT MOST 1048576: true; the input reads as it did. -/
def fnExactLeastWalkUptoRow : OpenClaim := { program := "ytbabjnnbcgpcgaar", sum := "508abf72c767f060404dcafb1d17482d7d2824aafa995125a602d94feee2857a", func := "loop.example/g01374/laws.FnExactLeastWalk", spec := "fnExactLeastWalk", unfollowed := true, recurses := true, apart := false, narrowed := true }
def FnExactLeastWalkUptoSaid : Prop := fnExactLeastWalkUptoRow.holds Try.pinned (OpenSpec.upto fnExactLeastWalkSpec)

/-- 'laws.FnExactMeetFloor', WHERE WHAT IT READS IS OF BULK AT MOST 1048576: true; the input reads as it did. -/
def fnExactMeetFloorUptoRow : OpenClaim := { program := "ytbabjnnbcgpcgaar", sum := "508abf72c767f060404dcafb1d17482d7d2824aafa995125a602d94feee2857a", func := "loop.example/g01374/laws.FnExactMeetFloor", spec := "fnExactMeetFloor", unfollowed := true, recurses := true, apart := false, narrowed := true }
def FnExactMeetFloorUptoSaid : Prop := fnExactMeetFloorUptoRow.holds Try.pinned (OpenSpec.upto fnExactMeetFloorSpec)

/-- 'laws.FnExactFirstLeastWalk', WHERE WHAT IT READS IS OF BULK AT MOST 1048576: true; the input reads as it did. -/
def fnExactFirstLeastWalkUptoRow : OpenClaim := { program := "ytbabjnnbcgpcgaar", sum := "508abf72c767f060404dcafb1d17482d7d2824aafa995125a602d94feee2857a", func := "loop.example/g01374/laws.FnExactFirstLeastWalk", spec := "fnExactFirstLeastWalk", unfollowed := true, recurses := true, apart := false, narrowed := true }
def FnExactFirstLeastWalkUptoSaid : Prop := fnExactFirstLeastWalkUptoRow.holds Try.pinned (OpenSpec.upto fnExactFirstLeastWalkSpec)

end Rows
end Go.Proofs.YtbabjnnbcgpcgaaR
