/-
  No cell of these rows narrows 'for every input' (looked for: loops, veiled, ifaces, maps, wideKeys, modest, calm, conditions, laid).
  DERIVED. THE GIVEN ROWS OF THIS SEAT. 12 by the template 'for every input the law returns true; each argument reads behind the call as it read before'; 0 by the template 'total and deterministic' (their statements: YtdokbcjmnfobfaaTotals.lean).
  GIVEN WITH THE SEED: the statements are not yours to turn. If you find one false, say at which input.
  Laid BY PROGRAM, IN A SANDBOX (cutbox-rows.mjs): the forced cells as the released guide's own fill.sh prints them over the translation b48991160638f6fb… (all of the seat's roots in one cut). By AI agents, Wed Nov 11 2026. No macro, syntax, notation, axiom, sorry.
-/
import Derived.Test.YtdokbcjmnfobfaaChecked
import GoSem.Claim
import GoSem.ClaimJoined
import GoSem.ClaimMapViews
import Derived.JoinedTies
import Derived.KernelRfl
namespace Go.Proofs.Ytdokbcjmnfobfaa
/- THE CELL 'sum', in the pinned program and in every row, IS THE sha256 OF THE DUMP (.gsa) THAT YtdokbcjmnfobfaaProg.lean LOADS. Nothing in Lean hashes anything: it is a label: what it is worth is what the hold of that sum in a sandbox is worth. -/
noncomputable def Try.pinned : Pinned := { name := "ytdokbcjmnfobfaa", sum := "b48991160638f6fb14977ea61e01aacc53177a9a6a4eef8a75895d326d831f07", checked := Try.checked }
namespace Rows
def none {H : Type} : Left H := { results := [], args := [] }

/-- 'laws.FnExactHeightSpiral': WHATEVER THE INPUT: true; the input reads as it did. -/
def fnExactHeightSpiralSpec : ChangeSpec := { name := "fnExactHeightSpiral", fn := fun _ => fun
  | [d1, d2] => { results := [.lit (.bool true)], args := [d1, d2] }
  | _ => none }
def fnExactHeightSpiralRow : OpenClaim := { program := "ytdokbcjmnfobfaa", sum := "b48991160638f6fb14977ea61e01aacc53177a9a6a4eef8a75895d326d831f07", func := "loop.example/g01374/laws.FnExactHeightSpiral", spec := "fnExactHeightSpiral", apart := false }
def FnExactHeightSpiralSaid : Prop := fnExactHeightSpiralRow.holds Try.pinned (OpenSpec.ofChange fnExactHeightSpiralSpec)

/-- ITS FALSE NEIGHBOUR: 'it returns false'. Refute it at one input. -/
def fnExactHeightSpiralWrong : ChangeSpec := { name := "fnExactHeightSpiral", fn := fun _ => fun
  | [d1, d2] => { results := [.lit (.bool false)], args := [d1, d2] }
  | _ => none }
def FnExactHeightSpiralWrongFalsely : Prop := fnExactHeightSpiralRow.holds Try.pinned (OpenSpec.ofChange fnExactHeightSpiralWrong)

/-- 'laws.FnExactSplitFlight': WHATEVER THE INPUT: true; the input reads as it did. -/
def fnExactSplitFlightSpec : ChangeSpec := { name := "fnExactSplitFlight", fn := fun _ => fun
  | [d1, d2] => { results := [.lit (.bool true)], args := [d1, d2] }
  | _ => none }
def fnExactSplitFlightRow : OpenClaim := { program := "ytdokbcjmnfobfaa", sum := "b48991160638f6fb14977ea61e01aacc53177a9a6a4eef8a75895d326d831f07", func := "loop.example/g01374/laws.FnExactSplitFlight", spec := "fnExactSplitFlight", apart := false }
def FnExactSplitFlightSaid : Prop := fnExactSplitFlightRow.holds Try.pinned (OpenSpec.ofChange fnExactSplitFlightSpec)

/-- ITS FALSE NEIGHBOUR: 'it returns false'. Refute it at one input. -/
def fnExactSplitFlightWrong : ChangeSpec := { name := "fnExactSplitFlight", fn := fun _ => fun
  | [d1, d2] => { results := [.lit (.bool false)], args := [d1, d2] }
  | _ => none }
def FnExactSplitFlightWrongFalsely : Prop := fnExactSplitFlightRow.holds Try.pinned (OpenSpec.ofChange fnExactSplitFlightWrong)

/-- 'laws.FnExactCountAngles': WHATEVER THE INPUT: true; the input reads as it did. -/
def fnExactCountAnglesSpec : ChangeSpec := { name := "fnExactCountAngles", fn := fun _ => fun
  | [d1, d2] => { results := [.lit (.bool true)], args := [d1, d2] }
  | _ => none }
def fnExactCountAnglesRow : OpenClaim := { program := "ytdokbcjmnfobfaa", sum := "b48991160638f6fb14977ea61e01aacc53177a9a6a4eef8a75895d326d831f07", func := "loop.example/g01374/laws.FnExactCountAngles", spec := "fnExactCountAngles", apart := false }
def FnExactCountAnglesSaid : Prop := fnExactCountAnglesRow.holds Try.pinned (OpenSpec.ofChange fnExactCountAnglesSpec)

/-- ITS FALSE NEIGHBOUR: 'it returns false'. Refute it at one input. -/
def fnExactCountAnglesWrong : ChangeSpec := { name := "fnExactCountAngles", fn := fun _ => fun
  | [d1, d2] => { results := [.lit (.bool false)], args := [d1, d2] }
  | _ => none }
def FnExactCountAnglesWrongFalsely : Prop := fnExactCountAnglesRow.holds Try.pinned (OpenSpec.ofChange fnExactCountAnglesWrong)

/-- 'laws.FnExactAreOpposite': WHATEVER THE INPUT: true; the input reads as it did. -/
def fnExactAreOppositeSpec : ChangeSpec := { name := "fnExactAreOpposite", fn := fun _ => fun
  | [d1, d2, d3] => { results := [.lit (.bool true)], args := [d1, d2, d3] }
  | _ => none }
def fnExactAreOppositeRow : OpenClaim := { program := "ytdokbcjmnfobfaa", sum := "b48991160638f6fb14977ea61e01aacc53177a9a6a4eef8a75895d326d831f07", func := "loop.example/g01374/laws.FnExactAreOpposite", spec := "fnExactAreOpposite", apart := false }
def FnExactAreOppositeSaid : Prop := fnExactAreOppositeRow.holds Try.pinned (OpenSpec.ofChange fnExactAreOppositeSpec)

/-- ITS FALSE NEIGHBOUR: 'it returns false'. Refute it at one input. -/
def fnExactAreOppositeWrong : ChangeSpec := { name := "fnExactAreOpposite", fn := fun _ => fun
  | [d1, d2, d3] => { results := [.lit (.bool false)], args := [d1, d2, d3] }
  | _ => none }
def FnExactAreOppositeWrongFalsely : Prop := fnExactAreOppositeRow.holds Try.pinned (OpenSpec.ofChange fnExactAreOppositeWrong)

/-- 'laws.FnExactHeightAtRun': WHATEVER THE INPUT: true; the input reads as it did. -/
def fnExactHeightAtRunSpec : ChangeSpec := { name := "fnExactHeightAtRun", fn := fun _ => fun
  | [d1, d2] => { results := [.lit (.bool true)], args := [d1, d2] }
  | _ => none }
def fnExactHeightAtRunRow : OpenClaim := { program := "ytdokbcjmnfobfaa", sum := "b48991160638f6fb14977ea61e01aacc53177a9a6a4eef8a75895d326d831f07", func := "loop.example/g01374/laws.FnExactHeightAtRun", spec := "fnExactHeightAtRun", apart := false }
def FnExactHeightAtRunSaid : Prop := fnExactHeightAtRunRow.holds Try.pinned (OpenSpec.ofChange fnExactHeightAtRunSpec)

/-- ITS FALSE NEIGHBOUR: 'it returns false'. Refute it at one input. -/
def fnExactHeightAtRunWrong : ChangeSpec := { name := "fnExactHeightAtRun", fn := fun _ => fun
  | [d1, d2] => { results := [.lit (.bool false)], args := [d1, d2] }
  | _ => none }
def FnExactHeightAtRunWrongFalsely : Prop := fnExactHeightAtRunRow.holds Try.pinned (OpenSpec.ofChange fnExactHeightAtRunWrong)

/-- 'laws.FnExactTimesFlight': WHATEVER THE INPUT: true; the input reads as it did. -/
def fnExactTimesFlightSpec : ChangeSpec := { name := "fnExactTimesFlight", fn := fun _ => fun
  | [d1, d2] => { results := [.lit (.bool true)], args := [d1, d2] }
  | _ => none }
def fnExactTimesFlightRow : OpenClaim := { program := "ytdokbcjmnfobfaa", sum := "b48991160638f6fb14977ea61e01aacc53177a9a6a4eef8a75895d326d831f07", func := "loop.example/g01374/laws.FnExactTimesFlight", spec := "fnExactTimesFlight", apart := false }
def FnExactTimesFlightSaid : Prop := fnExactTimesFlightRow.holds Try.pinned (OpenSpec.ofChange fnExactTimesFlightSpec)

/-- ITS FALSE NEIGHBOUR: 'it returns false'. Refute it at one input. -/
def fnExactTimesFlightWrong : ChangeSpec := { name := "fnExactTimesFlight", fn := fun _ => fun
  | [d1, d2] => { results := [.lit (.bool false)], args := [d1, d2] }
  | _ => none }
def FnExactTimesFlightWrongFalsely : Prop := fnExactTimesFlightRow.holds Try.pinned (OpenSpec.ofChange fnExactTimesFlightWrong)

/-- 'laws.FnExactCutSpiral': WHATEVER THE INPUT: true; the input reads as it did. -/
def fnExactCutSpiralSpec : ChangeSpec := { name := "fnExactCutSpiral", fn := fun _ => fun
  | [d1, d2] => { results := [.lit (.bool true)], args := [d1, d2] }
  | _ => none }
def fnExactCutSpiralRow : OpenClaim := { program := "ytdokbcjmnfobfaa", sum := "b48991160638f6fb14977ea61e01aacc53177a9a6a4eef8a75895d326d831f07", func := "loop.example/g01374/laws.FnExactCutSpiral", spec := "fnExactCutSpiral", apart := false }
def FnExactCutSpiralSaid : Prop := fnExactCutSpiralRow.holds Try.pinned (OpenSpec.ofChange fnExactCutSpiralSpec)

/-- ITS FALSE NEIGHBOUR: 'it returns false'. Refute it at one input. -/
def fnExactCutSpiralWrong : ChangeSpec := { name := "fnExactCutSpiral", fn := fun _ => fun
  | [d1, d2] => { results := [.lit (.bool false)], args := [d1, d2] }
  | _ => none }
def FnExactCutSpiralWrongFalsely : Prop := fnExactCutSpiralRow.holds Try.pinned (OpenSpec.ofChange fnExactCutSpiralWrong)

/-- 'laws.FnExactSlopeOf': WHATEVER THE INPUT: true; the input reads as it did. -/
def fnExactSlopeOfSpec : ChangeSpec := { name := "fnExactSlopeOf", fn := fun _ => fun
  | [d] => { results := [.lit (.bool true)], args := [d] }
  | _ => none }
def fnExactSlopeOfRow : OpenClaim := { program := "ytdokbcjmnfobfaa", sum := "b48991160638f6fb14977ea61e01aacc53177a9a6a4eef8a75895d326d831f07", func := "loop.example/g01374/laws.FnExactSlopeOf", spec := "fnExactSlopeOf", apart := false }
def FnExactSlopeOfSaid : Prop := fnExactSlopeOfRow.holds Try.pinned (OpenSpec.ofChange fnExactSlopeOfSpec)

/-- ITS FALSE NEIGHBOUR: 'it returns false'. Refute it at one input. -/
def fnExactSlopeOfWrong : ChangeSpec := { name := "fnExactSlopeOf", fn := fun _ => fun
  | [d] => { results := [.lit (.bool false)], args := [d] }
  | _ => none }
def FnExactSlopeOfWrongFalsely : Prop := fnExactSlopeOfRow.holds Try.pinned (OpenSpec.ofChange fnExactSlopeOfWrong)

/-- 'laws.FnExactTurnsOf': WHATEVER THE INPUT: true; the input reads as it did. -/
def fnExactTurnsOfSpec : ChangeSpec := { name := "fnExactTurnsOf", fn := fun _ => fun
  | [d] => { results := [.lit (.bool true)], args := [d] }
  | _ => none }
def fnExactTurnsOfRow : OpenClaim := { program := "ytdokbcjmnfobfaa", sum := "b48991160638f6fb14977ea61e01aacc53177a9a6a4eef8a75895d326d831f07", func := "loop.example/g01374/laws.FnExactTurnsOf", spec := "fnExactTurnsOf", apart := false }
def FnExactTurnsOfSaid : Prop := fnExactTurnsOfRow.holds Try.pinned (OpenSpec.ofChange fnExactTurnsOfSpec)

/-- ITS FALSE NEIGHBOUR: 'it returns false'. Refute it at one input. -/
def fnExactTurnsOfWrong : ChangeSpec := { name := "fnExactTurnsOf", fn := fun _ => fun
  | [d] => { results := [.lit (.bool false)], args := [d] }
  | _ => none }
def FnExactTurnsOfWrongFalsely : Prop := fnExactTurnsOfRow.holds Try.pinned (OpenSpec.ofChange fnExactTurnsOfWrong)

/-- 'laws.FnExactHeadRoom': WHATEVER THE INPUT: true; the input reads as it did. -/
def fnExactHeadRoomSpec : ChangeSpec := { name := "fnExactHeadRoom", fn := fun _ => fun
  | [d1, d2, d3] => { results := [.lit (.bool true)], args := [d1, d2, d3] }
  | _ => none }
def fnExactHeadRoomRow : OpenClaim := { program := "ytdokbcjmnfobfaa", sum := "b48991160638f6fb14977ea61e01aacc53177a9a6a4eef8a75895d326d831f07", func := "loop.example/g01374/laws.FnExactHeadRoom", spec := "fnExactHeadRoom", apart := false }
def FnExactHeadRoomSaid : Prop := fnExactHeadRoomRow.holds Try.pinned (OpenSpec.ofChange fnExactHeadRoomSpec)

/-- ITS FALSE NEIGHBOUR: 'it returns false'. Refute it at one input. -/
def fnExactHeadRoomWrong : ChangeSpec := { name := "fnExactHeadRoom", fn := fun _ => fun
  | [d1, d2, d3] => { results := [.lit (.bool false)], args := [d1, d2, d3] }
  | _ => none }
def FnExactHeadRoomWrongFalsely : Prop := fnExactHeadRoomRow.holds Try.pinned (OpenSpec.ofChange fnExactHeadRoomWrong)

/-- 'laws.FnExactWholeLine': WHATEVER THE INPUT: true; the input reads as it did. -/
def fnExactWholeLineSpec : ChangeSpec := { name := "fnExactWholeLine", fn := fun _ => fun
  | [d] => { results := [.lit (.bool true)], args := [d] }
  | _ => none }
def fnExactWholeLineRow : OpenClaim := { program := "ytdokbcjmnfobfaa", sum := "b48991160638f6fb14977ea61e01aacc53177a9a6a4eef8a75895d326d831f07", func := "loop.example/g01374/laws.FnExactWholeLine", spec := "fnExactWholeLine", apart := false }
def FnExactWholeLineSaid : Prop := fnExactWholeLineRow.holds Try.pinned (OpenSpec.ofChange fnExactWholeLineSpec)

/-- ITS FALSE NEIGHBOUR: 'it returns false'. Refute it at one input. -/
def fnExactWholeLineWrong : ChangeSpec := { name := "fnExactWholeLine", fn := fun _ => fun
  | [d] => { results := [.lit (.bool false)], args := [d] }
  | _ => none }
def FnExactWholeLineWrongFalsely : Prop := fnExactWholeLineRow.holds Try.pinned (OpenSpec.ofChange fnExactWholeLineWrong)

/-- 'laws.FnExactBestRisers': WHATEVER THE INPUT: true; the input reads as it did. -/
def fnExactBestRisersSpec : ChangeSpec := { name := "fnExactBestRisers", fn := fun _ => fun
  | [d1, d2, d3] => { results := [.lit (.bool true)], args := [d1, d2, d3] }
  | _ => none }
def fnExactBestRisersRow : OpenClaim := { program := "ytdokbcjmnfobfaa", sum := "b48991160638f6fb14977ea61e01aacc53177a9a6a4eef8a75895d326d831f07", func := "loop.example/g01374/laws.FnExactBestRisers", spec := "fnExactBestRisers", apart := false }
def FnExactBestRisersSaid : Prop := fnExactBestRisersRow.holds Try.pinned (OpenSpec.ofChange fnExactBestRisersSpec)

/-- ITS FALSE NEIGHBOUR: 'it returns false'. Refute it at one input. -/
def fnExactBestRisersWrong : ChangeSpec := { name := "fnExactBestRisers", fn := fun _ => fun
  | [d1, d2, d3] => { results := [.lit (.bool false)], args := [d1, d2, d3] }
  | _ => none }
def FnExactBestRisersWrongFalsely : Prop := fnExactBestRisersRow.holds Try.pinned (OpenSpec.ofChange fnExactBestRisersWrong)

/- THE SECOND FORM. 'bulk': how many values and letters a reading holds, each counted each time it is reached (what is shared counts as often as it is met; a slice's spare places count too). A statement '..UptoSaid' is the law's where the arguments, and the package variables that the reading takes, are together of bulk at most 1048576: NARROWER than '..Said'. Prove '..Said' where nothing that the law and all that it calls make is longer than what came in: it says more and counts as full. Else prove '..UptoSaid'. A law counts once. -/
mutual
def uptoBulk {H : Type} : DataW H → Nat
  | .lit (.string bytes) => bytes.length + 1
  | .lit _ => 1
  | .nil => 1
  | .ptr d => uptoBulk d + 1
  | .slice elems spare => uptoBulkAll elems + uptoBulkAll spare + 1
  | .agg parts => uptoBulkAll parts + 1
  | .iface _ d => uptoBulk d + 1
  | .map entries => uptoBulkEntries entries + 1
  | .held _ => 1
def uptoBulkAll {H : Type} : List (DataW H) → Nat
  | [] => 0
  | d :: r => uptoBulk d + uptoBulkAll r
def uptoBulkEntries {H : Type} : List (Lit × DataW H) → Nat
  | [] => 0
  | x :: r => uptoBulkEntry x + uptoBulkEntries r
def uptoBulkEntry {H : Type} : Lit × DataW H → Nat
  | (.string bytes, d) => bytes.length + uptoBulk d + 1
  | (_, d) => uptoBulk d + 1
 end
def uptoSmall : (H : Type) → List (DataW H) → Bool := fun _ ds => decide (uptoBulkAll ds ≤ 1048576)
def OpenSpec.upto (s : _root_.Go.ChangeSpec) : _root_.Go.OpenSpec := { _root_.Go.OpenSpec.ofChange s with cond := some uptoSmall }

/-- 'laws.FnExactHeightSpiral', WHERE WHAT IT READS IS OF BULK AT MOST 1048576: true; the input reads as it did. -/
def fnExactHeightSpiralUptoRow : OpenClaim := { program := "ytdokbcjmnfobfaa", sum := "b48991160638f6fb14977ea61e01aacc53177a9a6a4eef8a75895d326d831f07", func := "loop.example/g01374/laws.FnExactHeightSpiral", spec := "fnExactHeightSpiral", apart := false, narrowed := true }
def FnExactHeightSpiralUptoSaid : Prop := fnExactHeightSpiralUptoRow.holds Try.pinned (OpenSpec.upto fnExactHeightSpiralSpec)

/-- 'laws.FnExactSplitFlight', WHERE WHAT IT READS IS OF BULK AT MOST 1048576: true; the input reads as it did. -/
def fnExactSplitFlightUptoRow : OpenClaim := { program := "ytdokbcjmnfobfaa", sum := "b48991160638f6fb14977ea61e01aacc53177a9a6a4eef8a75895d326d831f07", func := "loop.example/g01374/laws.FnExactSplitFlight", spec := "fnExactSplitFlight", apart := false, narrowed := true }
def FnExactSplitFlightUptoSaid : Prop := fnExactSplitFlightUptoRow.holds Try.pinned (OpenSpec.upto fnExactSplitFlightSpec)

/-- 'laws.FnExactCountAngles', WHERE WHAT IT READS IS OF BULK AT MOST 1048576: true; the input reads as it did. -/
def fnExactCountAnglesUptoRow : OpenClaim := { program := "ytdokbcjmnfobfaa", sum := "b48991160638f6fb14977ea61e01aacc53177a9a6a4eef8a75895d326d831f07", func := "loop.example/g01374/laws.FnExactCountAngles", spec := "fnExactCountAngles", apart := false, narrowed := true }
def FnExactCountAnglesUptoSaid : Prop := fnExactCountAnglesUptoRow.holds Try.pinned (OpenSpec.upto fnExactCountAnglesSpec)

/-- 'laws.FnExactAreOpposite', WHERE WHAT IT READS IS OF BULK AT MOST 1048576: true; the input reads as it did. -/
def fnExactAreOppositeUptoRow : OpenClaim := { program := "ytdokbcjmnfobfaa", sum := "b48991160638f6fb14977ea61e01aacc53177a9a6a4eef8a75895d326d831f07", func := "loop.example/g01374/laws.FnExactAreOpposite", spec := "fnExactAreOpposite", apart := false, narrowed := true }
def FnExactAreOppositeUptoSaid : Prop := fnExactAreOppositeUptoRow.holds Try.pinned (OpenSpec.upto fnExactAreOppositeSpec)

/-- 'laws.FnExactHeightAtRun', WHERE WHAT IT READS IS OF BULK AT MOST 1048576: true; the input reads as it did. -/
def fnExactHeightAtRunUptoRow : OpenClaim := { program := "ytdokbcjmnfobfaa", sum := "b48991160638f6fb14977ea61e01aacc53177a9a6a4eef8a75895d326d831f07", func := "loop.example/g01374/laws.FnExactHeightAtRun", spec := "fnExactHeightAtRun", apart := false, narrowed := true }
def FnExactHeightAtRunUptoSaid : Prop := fnExactHeightAtRunUptoRow.holds Try.pinned (OpenSpec.upto fnExactHeightAtRunSpec)

/-- 'laws.FnExactTimesFlight', WHERE WHAT IT READS IS OF BULK AT MOST 1048576: true; the input reads as it did. -/
def fnExactTimesFlightUptoRow : OpenClaim := { program := "ytdokbcjmnfobfaa", sum := "b48991160638f6fb14977ea61e01aacc53177a9a6a4eef8a75895d326d831f07", func := "loop.example/g01374/laws.FnExactTimesFlight", spec := "fnExactTimesFlight", apart := false, narrowed := true }
def FnExactTimesFlightUptoSaid : Prop := fnExactTimesFlightUptoRow.holds Try.pinned (OpenSpec.upto fnExactTimesFlightSpec)

/-- 'laws.FnExactCutSpiral', WHERE WHAT IT READS IS OF BULK AT MOST 1048576: true; the input reads as it did. -/
def fnExactCutSpiralUptoRow : OpenClaim := { program := "ytdokbcjmnfobfaa", sum := "b48991160638f6fb14977ea61e01aacc53177a9a6a4eef8a75895d326d831f07", func := "loop.example/g01374/laws.FnExactCutSpiral", spec := "fnExactCutSpiral", apart := false, narrowed := true }
def FnExactCutSpiralUptoSaid : Prop := fnExactCutSpiralUptoRow.holds Try.pinned (OpenSpec.upto fnExactCutSpiralSpec)

/-- 'laws.FnExactSlopeOf', WHERE WHAT IT READS IS OF BULK AT MOST 1048576: true; the input reads as it did. -/
def fnExactSlopeOfUptoRow : OpenClaim := { program := "ytdokbcjmnfobfaa", sum := "b48991160638f6fb14977ea61e01aacc53177a9a6a4eef8a75895d326d831f07", func := "loop.example/g01374/laws.FnExactSlopeOf", spec := "fnExactSlopeOf", apart := false, narrowed := true }
def FnExactSlopeOfUptoSaid : Prop := fnExactSlopeOfUptoRow.holds Try.pinned (OpenSpec.upto fnExactSlopeOfSpec)

/-- 'laws.FnExactTurnsOf', WHERE WHAT IT READS IS OF BULK AT MOST 1048576: true; the input reads as it did. -/
def fnExactTurnsOfUptoRow : OpenClaim := { program := "ytdokbcjmnfobfaa", sum := "b48991160638f6fb14977ea61e01aacc53177a9a6a4eef8a75895d326d831f07", func := "loop.example/g01374/laws.FnExactTurnsOf", spec := "fnExactTurnsOf", apart := false, narrowed := true }
def FnExactTurnsOfUptoSaid : Prop := fnExactTurnsOfUptoRow.holds Try.pinned (OpenSpec.upto fnExactTurnsOfSpec)

/-- 'laws.FnExactHeadRoom', WHERE WHAT IT READS IS OF BULK AT MOST 1048576: true; the input reads as it did. -/
def fnExactHeadRoomUptoRow : OpenClaim := { program := "ytdokbcjmnfobfaa", sum := "b48991160638f6fb14977ea61e01aacc53177a9a6a4eef8a75895d326d831f07", func := "loop.example/g01374/laws.FnExactHeadRoom", spec := "fnExactHeadRoom", apart := false, narrowed := true }
def FnExactHeadRoomUptoSaid : Prop := fnExactHeadRoomUptoRow.holds Try.pinned (OpenSpec.upto fnExactHeadRoomSpec)

/-- 'laws.FnExactWholeLine', WHERE WHAT IT READS IS OF BULK AT MOST 1048576: true; the input reads as it did. -/
def fnExactWholeLineUptoRow : OpenClaim := { program := "ytdokbcjmnfobfaa", sum := "b48991160638f6fb14977ea61e01aacc53177a9a6a4eef8a75895d326d831f07", func := "loop.example/g01374/laws.FnExactWholeLine", spec := "fnExactWholeLine", apart := false, narrowed := true }
def FnExactWholeLineUptoSaid : Prop := fnExactWholeLineUptoRow.holds Try.pinned (OpenSpec.upto fnExactWholeLineSpec)

/-- 'laws.FnExactBestRisers', WHERE WHAT IT READS IS OF BULK AT MOST 1048576: true; the input reads as it did. -/
def fnExactBestRisersUptoRow : OpenClaim := { program := "ytdokbcjmnfobfaa", sum := "b48991160638f6fb14977ea61e01aacc53177a9a6a4eef8a75895d326d831f07", func := "loop.example/g01374/laws.FnExactBestRisers", spec := "fnExactBestRisers", apart := false, narrowed := true }
def FnExactBestRisersUptoSaid : Prop := fnExactBestRisersUptoRow.holds Try.pinned (OpenSpec.upto fnExactBestRisersSpec)

end Rows
end Go.Proofs.Ytdokbcjmnfobfaa
