/-
  No cell of these rows narrows 'for every input' (looked for: loops, veiled, ifaces, maps, wideKeys, modest, calm, conditions, laid).
  DERIVED. THE GIVEN ROWS OF THIS SEAT. 12 by the template 'for every input the law returns true; each argument reads behind the call as it read before'; 0 by the template 'total and deterministic' (their statements: YtccmgoojdieloaaTotals.lean).
  GIVEN WITH THE SEED: the statements are not yours to turn. If you find one false, say at which input.
  Laid BY PROGRAM, IN A SANDBOX (cutbox-rows.mjs): the forced cells as the released guide's own fill.sh prints them over the translation 40475725439b6a7e… (all of the seat's roots in one cut). By AI agents, Wed Nov 11 2026. No macro, syntax, notation, axiom, sorry.
-/
import Derived.Test.YtccmgoojdieloaaChecked
import GoSem.Claim
import GoSem.ClaimJoined
import GoSem.ClaimMapViews
import Derived.JoinedTies
import Derived.KernelRfl
namespace Go.Proofs.Ytccmgoojdieloaa
/- THE CELL 'sum', in the pinned program and in every row, IS THE sha256 OF THE DUMP (.gsa) THAT YtccmgoojdieloaaProg.lean LOADS. Nothing in Lean hashes anything: it is a label: what it is worth is what the hold of that sum in a sandbox is worth. -/
noncomputable def Try.pinned : Pinned := { name := "ytccmgoojdieloaa", sum := "40475725439b6a7e2c42214d0db98e5ede5c6c82027884d2b1dfdc72c11644ce", checked := Try.checked }
namespace Rows
def none {H : Type} : Left H := { results := [], args := [] }

/-- 'laws.FnExactIsHouse': WHATEVER THE INPUT: true; the input reads as it did. -/
def fnExactIsHouseSpec : ChangeSpec := { name := "fnExactIsHouse", fn := fun _ => fun
  | [d] => { results := [.lit (.bool true)], args := [d] }
  | _ => none }
def fnExactIsHouseRow : OpenClaim := { program := "ytccmgoojdieloaa", sum := "40475725439b6a7e2c42214d0db98e5ede5c6c82027884d2b1dfdc72c11644ce", func := "loop.example/g01374/laws.FnExactIsHouse", spec := "fnExactIsHouse", unfollowed := true, recurses := true, apart := false }
def FnExactIsHouseSaid : Prop := fnExactIsHouseRow.holds Try.pinned (OpenSpec.ofChange fnExactIsHouseSpec)

/-- ITS FALSE NEIGHBOUR: 'it returns false'. Refute it at one input. -/
def fnExactIsHouseWrong : ChangeSpec := { name := "fnExactIsHouse", fn := fun _ => fun
  | [d] => { results := [.lit (.bool false)], args := [d] }
  | _ => none }
def FnExactIsHouseWrongFalsely : Prop := fnExactIsHouseRow.holds Try.pinned (OpenSpec.ofChange fnExactIsHouseWrong)

/-- 'laws.FnExactDoorsInHouse': WHATEVER THE INPUT: true; the input reads as it did. -/
def fnExactDoorsInHouseSpec : ChangeSpec := { name := "fnExactDoorsInHouse", fn := fun _ => fun
  | [d] => { results := [.lit (.bool true)], args := [d] }
  | _ => none }
def fnExactDoorsInHouseRow : OpenClaim := { program := "ytccmgoojdieloaa", sum := "40475725439b6a7e2c42214d0db98e5ede5c6c82027884d2b1dfdc72c11644ce", func := "loop.example/g01374/laws.FnExactDoorsInHouse", spec := "fnExactDoorsInHouse", unfollowed := true, recurses := true, apart := false }
def FnExactDoorsInHouseSaid : Prop := fnExactDoorsInHouseRow.holds Try.pinned (OpenSpec.ofChange fnExactDoorsInHouseSpec)

/-- ITS FALSE NEIGHBOUR: 'it returns false'. Refute it at one input. -/
def fnExactDoorsInHouseWrong : ChangeSpec := { name := "fnExactDoorsInHouse", fn := fun _ => fun
  | [d] => { results := [.lit (.bool false)], args := [d] }
  | _ => none }
def FnExactDoorsInHouseWrongFalsely : Prop := fnExactDoorsInHouseRow.holds Try.pinned (OpenSpec.ofChange fnExactDoorsInHouseWrong)

/-- 'laws.FnExactDoorsOfFloor': WHATEVER THE INPUT: true; the input reads as it did. -/
def fnExactDoorsOfFloorSpec : ChangeSpec := { name := "fnExactDoorsOfFloor", fn := fun _ => fun
  | [d1, d2] => { results := [.lit (.bool true)], args := [d1, d2] }
  | _ => none }
def fnExactDoorsOfFloorRow : OpenClaim := { program := "ytccmgoojdieloaa", sum := "40475725439b6a7e2c42214d0db98e5ede5c6c82027884d2b1dfdc72c11644ce", func := "loop.example/g01374/laws.FnExactDoorsOfFloor", spec := "fnExactDoorsOfFloor", unfollowed := true, recurses := true, apart := false }
def FnExactDoorsOfFloorSaid : Prop := fnExactDoorsOfFloorRow.holds Try.pinned (OpenSpec.ofChange fnExactDoorsOfFloorSpec)

/-- ITS FALSE NEIGHBOUR: 'it returns false'. Refute it at one input. -/
def fnExactDoorsOfFloorWrong : ChangeSpec := { name := "fnExactDoorsOfFloor", fn := fun _ => fun
  | [d1, d2] => { results := [.lit (.bool false)], args := [d1, d2] }
  | _ => none }
def FnExactDoorsOfFloorWrongFalsely : Prop := fnExactDoorsOfFloorRow.holds Try.pinned (OpenSpec.ofChange fnExactDoorsOfFloorWrong)

/-- 'laws.FnExactStepsTo': WHATEVER THE INPUT: true; the input reads as it did. -/
def fnExactStepsToSpec : ChangeSpec := { name := "fnExactStepsTo", fn := fun _ => fun
  | [d1, d2] => { results := [.lit (.bool true)], args := [d1, d2] }
  | _ => none }
def fnExactStepsToRow : OpenClaim := { program := "ytccmgoojdieloaa", sum := "40475725439b6a7e2c42214d0db98e5ede5c6c82027884d2b1dfdc72c11644ce", func := "loop.example/g01374/laws.FnExactStepsTo", spec := "fnExactStepsTo", unfollowed := true, recurses := true, apart := false }
def FnExactStepsToSaid : Prop := fnExactStepsToRow.holds Try.pinned (OpenSpec.ofChange fnExactStepsToSpec)

/-- ITS FALSE NEIGHBOUR: 'it returns false'. Refute it at one input. -/
def fnExactStepsToWrong : ChangeSpec := { name := "fnExactStepsTo", fn := fun _ => fun
  | [d1, d2] => { results := [.lit (.bool false)], args := [d1, d2] }
  | _ => none }
def FnExactStepsToWrongFalsely : Prop := fnExactStepsToRow.holds Try.pinned (OpenSpec.ofChange fnExactStepsToWrong)

/-- 'laws.FnExactFloorOfStep': WHATEVER THE INPUT: true; the input reads as it did. -/
def fnExactFloorOfStepSpec : ChangeSpec := { name := "fnExactFloorOfStep", fn := fun _ => fun
  | [d1, d2] => { results := [.lit (.bool true)], args := [d1, d2] }
  | _ => none }
def fnExactFloorOfStepRow : OpenClaim := { program := "ytccmgoojdieloaa", sum := "40475725439b6a7e2c42214d0db98e5ede5c6c82027884d2b1dfdc72c11644ce", func := "loop.example/g01374/laws.FnExactFloorOfStep", spec := "fnExactFloorOfStep", unfollowed := true, recurses := true, apart := false }
def FnExactFloorOfStepSaid : Prop := fnExactFloorOfStepRow.holds Try.pinned (OpenSpec.ofChange fnExactFloorOfStepSpec)

/-- ITS FALSE NEIGHBOUR: 'it returns false'. Refute it at one input. -/
def fnExactFloorOfStepWrong : ChangeSpec := { name := "fnExactFloorOfStep", fn := fun _ => fun
  | [d1, d2] => { results := [.lit (.bool false)], args := [d1, d2] }
  | _ => none }
def FnExactFloorOfStepWrongFalsely : Prop := fnExactFloorOfStepRow.holds Try.pinned (OpenSpec.ofChange fnExactFloorOfStepWrong)

/-- 'laws.FnExactLongestStairs': WHATEVER THE INPUT: true; the input reads as it did. -/
def fnExactLongestStairsSpec : ChangeSpec := { name := "fnExactLongestStairs", fn := fun _ => fun
  | [d] => { results := [.lit (.bool true)], args := [d] }
  | _ => none }
def fnExactLongestStairsRow : OpenClaim := { program := "ytccmgoojdieloaa", sum := "40475725439b6a7e2c42214d0db98e5ede5c6c82027884d2b1dfdc72c11644ce", func := "loop.example/g01374/laws.FnExactLongestStairs", spec := "fnExactLongestStairs", unfollowed := true, recurses := true, apart := false }
def FnExactLongestStairsSaid : Prop := fnExactLongestStairsRow.holds Try.pinned (OpenSpec.ofChange fnExactLongestStairsSpec)

/-- ITS FALSE NEIGHBOUR: 'it returns false'. Refute it at one input. -/
def fnExactLongestStairsWrong : ChangeSpec := { name := "fnExactLongestStairs", fn := fun _ => fun
  | [d] => { results := [.lit (.bool false)], args := [d] }
  | _ => none }
def FnExactLongestStairsWrongFalsely : Prop := fnExactLongestStairsRow.holds Try.pinned (OpenSpec.ofChange fnExactLongestStairsWrong)

/-- 'laws.FnExactStepsBetween': WHATEVER THE INPUT: true; the input reads as it did. -/
def fnExactStepsBetweenSpec : ChangeSpec := { name := "fnExactStepsBetween", fn := fun _ => fun
  | [d1, d2, d3] => { results := [.lit (.bool true)], args := [d1, d2, d3] }
  | _ => none }
def fnExactStepsBetweenRow : OpenClaim := { program := "ytccmgoojdieloaa", sum := "40475725439b6a7e2c42214d0db98e5ede5c6c82027884d2b1dfdc72c11644ce", func := "loop.example/g01374/laws.FnExactStepsBetween", spec := "fnExactStepsBetween", unfollowed := true, recurses := true, apart := false }
def FnExactStepsBetweenSaid : Prop := fnExactStepsBetweenRow.holds Try.pinned (OpenSpec.ofChange fnExactStepsBetweenSpec)

/-- ITS FALSE NEIGHBOUR: 'it returns false'. Refute it at one input. -/
def fnExactStepsBetweenWrong : ChangeSpec := { name := "fnExactStepsBetween", fn := fun _ => fun
  | [d1, d2, d3] => { results := [.lit (.bool false)], args := [d1, d2, d3] }
  | _ => none }
def FnExactStepsBetweenWrongFalsely : Prop := fnExactStepsBetweenRow.holds Try.pinned (OpenSpec.ofChange fnExactStepsBetweenWrong)

/-- 'laws.FnExactLandingsNeeded': WHATEVER THE INPUT: true; the input reads as it did. -/
def fnExactLandingsNeededSpec : ChangeSpec := { name := "fnExactLandingsNeeded", fn := fun _ => fun
  | [d1, d2] => { results := [.lit (.bool true)], args := [d1, d2] }
  | _ => none }
def fnExactLandingsNeededRow : OpenClaim := { program := "ytccmgoojdieloaa", sum := "40475725439b6a7e2c42214d0db98e5ede5c6c82027884d2b1dfdc72c11644ce", func := "loop.example/g01374/laws.FnExactLandingsNeeded", spec := "fnExactLandingsNeeded", unfollowed := true, recurses := true, apart := false }
def FnExactLandingsNeededSaid : Prop := fnExactLandingsNeededRow.holds Try.pinned (OpenSpec.ofChange fnExactLandingsNeededSpec)

/-- ITS FALSE NEIGHBOUR: 'it returns false'. Refute it at one input. -/
def fnExactLandingsNeededWrong : ChangeSpec := { name := "fnExactLandingsNeeded", fn := fun _ => fun
  | [d1, d2] => { results := [.lit (.bool false)], args := [d1, d2] }
  | _ => none }
def FnExactLandingsNeededWrongFalsely : Prop := fnExactLandingsNeededRow.holds Try.pinned (OpenSpec.ofChange fnExactLandingsNeededWrong)

/-- 'laws.FnExactFloorOfDoor': WHATEVER THE INPUT: true; the input reads as it did. -/
def fnExactFloorOfDoorSpec : ChangeSpec := { name := "fnExactFloorOfDoor", fn := fun _ => fun
  | [d1, d2] => { results := [.lit (.bool true)], args := [d1, d2] }
  | _ => none }
def fnExactFloorOfDoorRow : OpenClaim := { program := "ytccmgoojdieloaa", sum := "40475725439b6a7e2c42214d0db98e5ede5c6c82027884d2b1dfdc72c11644ce", func := "loop.example/g01374/laws.FnExactFloorOfDoor", spec := "fnExactFloorOfDoor", unfollowed := true, recurses := true, apart := false }
def FnExactFloorOfDoorSaid : Prop := fnExactFloorOfDoorRow.holds Try.pinned (OpenSpec.ofChange fnExactFloorOfDoorSpec)

/-- ITS FALSE NEIGHBOUR: 'it returns false'. Refute it at one input. -/
def fnExactFloorOfDoorWrong : ChangeSpec := { name := "fnExactFloorOfDoor", fn := fun _ => fun
  | [d1, d2] => { results := [.lit (.bool false)], args := [d1, d2] }
  | _ => none }
def FnExactFloorOfDoorWrongFalsely : Prop := fnExactFloorOfDoorRow.holds Try.pinned (OpenSpec.ofChange fnExactFloorOfDoorWrong)

/-- 'laws.FnExactStairsAbove': WHATEVER THE INPUT: true; the input reads as it did. -/
def fnExactStairsAboveSpec : ChangeSpec := { name := "fnExactStairsAbove", fn := fun _ => fun
  | [d1, d2] => { results := [.lit (.bool true)], args := [d1, d2] }
  | _ => none }
def fnExactStairsAboveRow : OpenClaim := { program := "ytccmgoojdieloaa", sum := "40475725439b6a7e2c42214d0db98e5ede5c6c82027884d2b1dfdc72c11644ce", func := "loop.example/g01374/laws.FnExactStairsAbove", spec := "fnExactStairsAbove", unfollowed := true, recurses := true, apart := false }
def FnExactStairsAboveSaid : Prop := fnExactStairsAboveRow.holds Try.pinned (OpenSpec.ofChange fnExactStairsAboveSpec)

/-- ITS FALSE NEIGHBOUR: 'it returns false'. Refute it at one input. -/
def fnExactStairsAboveWrong : ChangeSpec := { name := "fnExactStairsAbove", fn := fun _ => fun
  | [d1, d2] => { results := [.lit (.bool false)], args := [d1, d2] }
  | _ => none }
def FnExactStairsAboveWrongFalsely : Prop := fnExactStairsAboveRow.holds Try.pinned (OpenSpec.ofChange fnExactStairsAboveWrong)

/-- 'laws.FnExactAddFloor': WHATEVER THE INPUT: true; the input reads as it did. -/
def fnExactAddFloorSpec : ChangeSpec := { name := "fnExactAddFloor", fn := fun _ => fun
  | [d1, d2, d3] => { results := [.lit (.bool true)], args := [d1, d2, d3] }
  | _ => none }
def fnExactAddFloorRow : OpenClaim := { program := "ytccmgoojdieloaa", sum := "40475725439b6a7e2c42214d0db98e5ede5c6c82027884d2b1dfdc72c11644ce", func := "loop.example/g01374/laws.FnExactAddFloor", spec := "fnExactAddFloor", unfollowed := true, recurses := true, apart := false }
def FnExactAddFloorSaid : Prop := fnExactAddFloorRow.holds Try.pinned (OpenSpec.ofChange fnExactAddFloorSpec)

/-- ITS FALSE NEIGHBOUR: 'it returns false'. Refute it at one input. -/
def fnExactAddFloorWrong : ChangeSpec := { name := "fnExactAddFloor", fn := fun _ => fun
  | [d1, d2, d3] => { results := [.lit (.bool false)], args := [d1, d2, d3] }
  | _ => none }
def FnExactAddFloorWrongFalsely : Prop := fnExactAddFloorRow.holds Try.pinned (OpenSpec.ofChange fnExactAddFloorWrong)

/-- 'laws.FnExactDropFloor': WHATEVER THE INPUT: true; the input reads as it did. -/
def fnExactDropFloorSpec : ChangeSpec := { name := "fnExactDropFloor", fn := fun _ => fun
  | [d] => { results := [.lit (.bool true)], args := [d] }
  | _ => none }
def fnExactDropFloorRow : OpenClaim := { program := "ytccmgoojdieloaa", sum := "40475725439b6a7e2c42214d0db98e5ede5c6c82027884d2b1dfdc72c11644ce", func := "loop.example/g01374/laws.FnExactDropFloor", spec := "fnExactDropFloor", unfollowed := true, recurses := true, apart := false }
def FnExactDropFloorSaid : Prop := fnExactDropFloorRow.holds Try.pinned (OpenSpec.ofChange fnExactDropFloorSpec)

/-- ITS FALSE NEIGHBOUR: 'it returns false'. Refute it at one input. -/
def fnExactDropFloorWrong : ChangeSpec := { name := "fnExactDropFloor", fn := fun _ => fun
  | [d] => { results := [.lit (.bool false)], args := [d] }
  | _ => none }
def FnExactDropFloorWrongFalsely : Prop := fnExactDropFloorRow.holds Try.pinned (OpenSpec.ofChange fnExactDropFloorWrong)

/- THE SECOND FORM. 'bulk': how many values and letters a reading holds, each counted each time it is reached (what is shared counts as often as it is met; a slice's spare places count too). A statement '..UptoSaid' is the law's where the arguments, and the package variables that the reading takes, are together of bulk at most 1048576: NARROWER than '..Said'. Prove '..Said' where nothing that the law and all that it calls make is longer than what came in: it says more and counts as full. Else prove '..UptoSaid'. A law counts once. -/
mutual
def uptoBulk {H : Type} : DataW H → Nat
  | .lit (.string bytes) => bytes.length + 1
  | .lit _ => 1
  | .nil => 1
  | .ptr d => uptoBulk d + 1
  | .slice elems spare => uptoBulkAll elems + uptoBulkAll spare + 1
  | .agg parts => uptoBulkAll parts + 1
  | .iface _ d => uptoBulk d + 1
  | .map entries => uptoBulkEntries entries + 1
  | .held _ => 1
def uptoBulkAll {H : Type} : List (DataW H) → Nat
  | [] => 0
  | d :: r => uptoBulk d + uptoBulkAll r
def uptoBulkEntries {H : Type} : List (Lit × DataW H) → Nat
  | [] => 0
  | x :: r => uptoBulkEntry x + uptoBulkEntries r
def uptoBulkEntry {H : Type} : Lit × DataW H → Nat
  | (.string bytes, d) => bytes.length + uptoBulk d + 1
  | (_, d) => uptoBulk d + 1
 end
def uptoSmall : (H : Type) → List (DataW H) → Bool := fun _ ds => decide (uptoBulkAll ds ≤ 1048576)
def OpenSpec.upto (s : _root_.Go.ChangeSpec) : _root_.Go.OpenSpec := { _root_.Go.OpenSpec.ofChange s with cond := some uptoSmall }

/-- 'laws.FnExactIsHouse', WHERE WHAT IT READS IS OF BULK AT MOST 1048576: true; the input reads as it did. -/
def fnExactIsHouseUptoRow : OpenClaim := { program := "ytccmgoojdieloaa", sum := "40475725439b6a7e2c42214d0db98e5ede5c6c82027884d2b1dfdc72c11644ce", func := "loop.example/g01374/laws.FnExactIsHouse", spec := "fnExactIsHouse", unfollowed := true, recurses := true, apart := false, narrowed := true }
def FnExactIsHouseUptoSaid : Prop := fnExactIsHouseUptoRow.holds Try.pinned (OpenSpec.upto fnExactIsHouseSpec)

/-- 'laws.FnExactDoorsInHouse', WHERE WHAT IT READS IS OF BULK AT MOST 1048576: true; the input reads as it did. -/
def fnExactDoorsInHouseUptoRow : OpenClaim := { program := "ytccmgoojdieloaa", sum := "40475725439b6a7e2c42214d0db98e5ede5c6c82027884d2b1dfdc72c11644ce", func := "loop.example/g01374/laws.FnExactDoorsInHouse", spec := "fnExactDoorsInHouse", unfollowed := true, recurses := true, apart := false, narrowed := true }
def FnExactDoorsInHouseUptoSaid : Prop := fnExactDoorsInHouseUptoRow.holds Try.pinned (OpenSpec.upto fnExactDoorsInHouseSpec)

/-- 'laws.FnExactDoorsOfFloor', WHERE WHAT IT READS IS OF BULK AT MOST 1048576: true; the input reads as it did. -/
def fnExactDoorsOfFloorUptoRow : OpenClaim := { program := "ytccmgoojdieloaa", sum := "40475725439b6a7e2c42214d0db98e5ede5c6c82027884d2b1dfdc72c11644ce", func := "loop.example/g01374/laws.FnExactDoorsOfFloor", spec := "fnExactDoorsOfFloor", unfollowed := true, recurses := true, apart := false, narrowed := true }
def FnExactDoorsOfFloorUptoSaid : Prop := fnExactDoorsOfFloorUptoRow.holds Try.pinned (OpenSpec.upto fnExactDoorsOfFloorSpec)

/-- 'laws.FnExactStepsTo', WHERE WHAT IT READS IS OF BULK AT MOST 1048576: true; the input reads as it did. -/
def fnExactStepsToUptoRow : OpenClaim := { program := "ytccmgoojdieloaa", sum := "40475725439b6a7e2c42214d0db98e5ede5c6c82027884d2b1dfdc72c11644ce", func := "loop.example/g01374/laws.FnExactStepsTo", spec := "fnExactStepsTo", unfollowed := true, recurses := true, apart := false, narrowed := true }
def FnExactStepsToUptoSaid : Prop := fnExactStepsToUptoRow.holds Try.pinned (OpenSpec.upto fnExactStepsToSpec)

/-- 'laws.FnExactFloorOfStep', WHERE WHAT IT READS IS OF BULK AT MOST 1048576: true; the input reads as it did. -/
def fnExactFloorOfStepUptoRow : OpenClaim := { program := "ytccmgoojdieloaa", sum := "40475725439b6a7e2c42214d0db98e5ede5c6c82027884d2b1dfdc72c11644ce", func := "loop.example/g01374/laws.FnExactFloorOfStep", spec := "fnExactFloorOfStep", unfollowed := true, recurses := true, apart := false, narrowed := true }
def FnExactFloorOfStepUptoSaid : Prop := fnExactFloorOfStepUptoRow.holds Try.pinned (OpenSpec.upto fnExactFloorOfStepSpec)

/-- 'laws.FnExactLongestStairs', WHERE WHAT IT READS IS OF BULK AT MOST 1048576: true; the input reads as it did. -/
def fnExactLongestStairsUptoRow : OpenClaim := { program := "ytccmgoojdieloaa", sum := "40475725439b6a7e2c42214d0db98e5ede5c6c82027884d2b1dfdc72c11644ce", func := "loop.example/g01374/laws.FnExactLongestStairs", spec := "fnExactLongestStairs", unfollowed := true, recurses := true, apart := false, narrowed := true }
def FnExactLongestStairsUptoSaid : Prop := fnExactLongestStairsUptoRow.holds Try.pinned (OpenSpec.upto fnExactLongestStairsSpec)

/-- 'laws.FnExactStepsBetween', WHERE WHAT IT READS IS OF BULK AT MOST 1048576: true; the input reads as it did. -/
def fnExactStepsBetweenUptoRow : OpenClaim := { program := "ytccmgoojdieloaa", sum := "40475725439b6a7e2c42214d0db98e5ede5c6c82027884d2b1dfdc72c11644ce", func := "loop.example/g01374/laws.FnExactStepsBetween", spec := "fnExactStepsBetween", unfollowed := true, recurses := true, apart := false, narrowed := true }
def FnExactStepsBetweenUptoSaid : Prop := fnExactStepsBetweenUptoRow.holds Try.pinned (OpenSpec.upto fnExactStepsBetweenSpec)

/-- 'laws.FnExactLandingsNeeded', WHERE WHAT IT READS IS OF BULK AT MOST 1048576: true; the input reads as it did. -/
def fnExactLandingsNeededUptoRow : OpenClaim := { program := "ytccmgoojdieloaa", sum := "40475725439b6a7e2c42214d0db98e5ede5c6c82027884d2b1dfdc72c11644ce", func := "loop.example/g01374/laws.FnExactLandingsNeeded", spec := "fnExactLandingsNeeded", unfollowed := true, recurses := true, apart := false, narrowed := true }
def FnExactLandingsNeededUptoSaid : Prop := fnExactLandingsNeededUptoRow.holds Try.pinned (OpenSpec.upto fnExactLandingsNeededSpec)

/-- 'laws.FnExactFloorOfDoor', WHERE WHAT IT READS IS OF BULK AT MOST 1048576: true; the input reads as it did. -/
def fnExactFloorOfDoorUptoRow : OpenClaim := { program := "ytccmgoojdieloaa", sum := "40475725439b6a7e2c42214d0db98e5ede5c6c82027884d2b1dfdc72c11644ce", func := "loop.example/g01374/laws.FnExactFloorOfDoor", spec := "fnExactFloorOfDoor", unfollowed := true, recurses := true, apart := false, narrowed := true }
def FnExactFloorOfDoorUptoSaid : Prop := fnExactFloorOfDoorUptoRow.holds Try.pinned (OpenSpec.upto fnExactFloorOfDoorSpec)

/-- 'laws.FnExactStairsAbove', WHERE WHAT IT READS IS OF BULK AT MOST 1048576: true; the input reads as it did. -/
def fnExactStairsAboveUptoRow : OpenClaim := { program := "ytccmgoojdieloaa", sum := "40475725439b6a7e2c42214d0db98e5ede5c6c82027884d2b1dfdc72c11644ce", func := "loop.example/g01374/laws.FnExactStairsAbove", spec := "fnExactStairsAbove", unfollowed := true, recurses := true, apart := false, narrowed := true }
def FnExactStairsAboveUptoSaid : Prop := fnExactStairsAboveUptoRow.holds Try.pinned (OpenSpec.upto fnExactStairsAboveSpec)

/-- 'laws.FnExactAddFloor', WHERE WHAT IT READS IS OF BULK AT MOST 1048576: true; the input reads as it did. -/
def fnExactAddFloorUptoRow : OpenClaim := { program := "ytccmgoojdieloaa", sum := "40475725439b6a7e2c42214d0db98e5ede5c6c82027884d2b1dfdc72c11644ce", func := "loop.example/g01374/laws.FnExactAddFloor", spec := "fnExactAddFloor", unfollowed := true, recurses := true, apart := false, narrowed := true }
def FnExactAddFloorUptoSaid : Prop := fnExactAddFloorUptoRow.holds Try.pinned (OpenSpec.upto fnExactAddFloorSpec)

/-- 'laws.FnExactDropFloor', WHERE WHAT IT READS IS OF BULK AT MOST 1048576: true; the input reads as it did. -/
def fnExactDropFloorUptoRow : OpenClaim := { program := "ytccmgoojdieloaa", sum := "40475725439b6a7e2c42214d0db98e5ede5c6c82027884d2b1dfdc72c11644ce", func := "loop.example/g01374/laws.FnExactDropFloor", spec := "fnExactDropFloor", unfollowed := true, recurses := true, apart := false, narrowed := true }
def FnExactDropFloorUptoSaid : Prop := fnExactDropFloorUptoRow.holds Try.pinned (OpenSpec.upto fnExactDropFloorSpec)

end Rows
end Go.Proofs.Ytccmgoojdieloaa
