/-
  No cell of these rows narrows 'for every input' (looked for: loops, veiled, ifaces, maps, wideKeys, modest, calm, conditions, laid).
  DERIVED. THE GIVEN ROWS OF THIS SEAT. 12 by the template 'for every input the law returns true; each argument reads behind the call as it read before'; 0 by the template 'total and deterministic' (their statements: YtaljoonmejmlcaaTotals.lean).
  GIVEN WITH THE SEED: the statements are not yours to turn. If you find one false, say at which input.
  Laid BY PROGRAM, IN A SANDBOX (cutbox-rows.mjs): the forced cells as the released guide's own fill.sh prints them over the translation f75d5deb9c8790fd… (all of the seat's roots in one cut). By AI agents, Wed Nov 11 2026. No macro, syntax, notation, axiom, sorry.
-/
import Derived.Test.YtaljoonmejmlcaaChecked
import GoSem.Claim
import GoSem.ClaimJoined
import GoSem.ClaimMapViews
import Derived.JoinedTies
import Derived.KernelRfl
namespace Go.Proofs.Ytaljoonmejmlcaa
/- THE CELL 'sum', in the pinned program and in every row, IS THE sha256 OF THE DUMP (.gsa) THAT YtaljoonmejmlcaaProg.lean LOADS. Nothing in Lean hashes anything: it is a label: what it is worth is what the hold of that sum in a sandbox is worth. -/
noncomputable def Try.pinned : Pinned := { name := "ytaljoonmejmlcaa", sum := "f75d5deb9c8790fd2e19376fe5c9bb2ac9322a77343d18846fc9b6dd9ed4df50", checked := Try.checked }
namespace Rows
def none {H : Type} : Left H := { results := [], args := [] }

/-- 'laws.FnExactTreadFor': WHATEVER THE INPUT: true; the input reads as it did. -/
def fnExactTreadForSpec : ChangeSpec := { name := "fnExactTreadFor", fn := fun _ => fun
  | [d1, d2] => { results := [.lit (.bool true)], args := [d1, d2] }
  | _ => none }
def fnExactTreadForRow : OpenClaim := { program := "ytaljoonmejmlcaa", sum := "f75d5deb9c8790fd2e19376fe5c9bb2ac9322a77343d18846fc9b6dd9ed4df50", func := "loop.example/g01374/laws.FnExactTreadFor", spec := "fnExactTreadFor", apart := false }
def FnExactTreadForSaid : Prop := fnExactTreadForRow.holds Try.pinned (OpenSpec.ofChange fnExactTreadForSpec)

/-- ITS FALSE NEIGHBOUR: 'it returns false'. Refute it at one input. -/
def fnExactTreadForWrong : ChangeSpec := { name := "fnExactTreadFor", fn := fun _ => fun
  | [d1, d2] => { results := [.lit (.bool false)], args := [d1, d2] }
  | _ => none }
def FnExactTreadForWrongFalsely : Prop := fnExactTreadForRow.holds Try.pinned (OpenSpec.ofChange fnExactTreadForWrong)

/-- 'laws.FnExactFewestRisers': WHATEVER THE INPUT: true; the input reads as it did. -/
def fnExactFewestRisersSpec : ChangeSpec := { name := "fnExactFewestRisers", fn := fun _ => fun
  | [d1, d2] => { results := [.lit (.bool true)], args := [d1, d2] }
  | _ => none }
def fnExactFewestRisersRow : OpenClaim := { program := "ytaljoonmejmlcaa", sum := "f75d5deb9c8790fd2e19376fe5c9bb2ac9322a77343d18846fc9b6dd9ed4df50", func := "loop.example/g01374/laws.FnExactFewestRisers", spec := "fnExactFewestRisers", apart := false }
def FnExactFewestRisersSaid : Prop := fnExactFewestRisersRow.holds Try.pinned (OpenSpec.ofChange fnExactFewestRisersSpec)

/-- ITS FALSE NEIGHBOUR: 'it returns false'. Refute it at one input. -/
def fnExactFewestRisersWrong : ChangeSpec := { name := "fnExactFewestRisers", fn := fun _ => fun
  | [d1, d2] => { results := [.lit (.bool false)], args := [d1, d2] }
  | _ => none }
def FnExactFewestRisersWrongFalsely : Prop := fnExactFewestRisersRow.holds Try.pinned (OpenSpec.ofChange fnExactFewestRisersWrong)

/-- 'laws.FnExactIsFlight': WHATEVER THE INPUT: true; the input reads as it did. -/
def fnExactIsFlightSpec : ChangeSpec := { name := "fnExactIsFlight", fn := fun _ => fun
  | [d] => { results := [.lit (.bool true)], args := [d] }
  | _ => none }
def fnExactIsFlightRow : OpenClaim := { program := "ytaljoonmejmlcaa", sum := "f75d5deb9c8790fd2e19376fe5c9bb2ac9322a77343d18846fc9b6dd9ed4df50", func := "loop.example/g01374/laws.FnExactIsFlight", spec := "fnExactIsFlight", apart := false }
def FnExactIsFlightSaid : Prop := fnExactIsFlightRow.holds Try.pinned (OpenSpec.ofChange fnExactIsFlightSpec)

/-- ITS FALSE NEIGHBOUR: 'it returns false'. Refute it at one input. -/
def fnExactIsFlightWrong : ChangeSpec := { name := "fnExactIsFlight", fn := fun _ => fun
  | [d] => { results := [.lit (.bool false)], args := [d] }
  | _ => none }
def FnExactIsFlightWrongFalsely : Prop := fnExactIsFlightRow.holds Try.pinned (OpenSpec.ofChange fnExactIsFlightWrong)

/-- 'laws.FnExactIsSpiral': WHATEVER THE INPUT: true; the input reads as it did. -/
def fnExactIsSpiralSpec : ChangeSpec := { name := "fnExactIsSpiral", fn := fun _ => fun
  | [d] => { results := [.lit (.bool true)], args := [d] }
  | _ => none }
def fnExactIsSpiralRow : OpenClaim := { program := "ytaljoonmejmlcaa", sum := "f75d5deb9c8790fd2e19376fe5c9bb2ac9322a77343d18846fc9b6dd9ed4df50", func := "loop.example/g01374/laws.FnExactIsSpiral", spec := "fnExactIsSpiral", apart := false }
def FnExactIsSpiralSaid : Prop := fnExactIsSpiralRow.holds Try.pinned (OpenSpec.ofChange fnExactIsSpiralSpec)

/-- ITS FALSE NEIGHBOUR: 'it returns false'. Refute it at one input. -/
def fnExactIsSpiralWrong : ChangeSpec := { name := "fnExactIsSpiral", fn := fun _ => fun
  | [d] => { results := [.lit (.bool false)], args := [d] }
  | _ => none }
def FnExactIsSpiralWrongFalsely : Prop := fnExactIsSpiralRow.holds Try.pinned (OpenSpec.ofChange fnExactIsSpiralWrong)

/-- 'laws.FnExactMostRisers': WHATEVER THE INPUT: true; the input reads as it did. -/
def fnExactMostRisersSpec : ChangeSpec := { name := "fnExactMostRisers", fn := fun _ => fun
  | [d1, d2] => { results := [.lit (.bool true)], args := [d1, d2] }
  | _ => none }
def fnExactMostRisersRow : OpenClaim := { program := "ytaljoonmejmlcaa", sum := "f75d5deb9c8790fd2e19376fe5c9bb2ac9322a77343d18846fc9b6dd9ed4df50", func := "loop.example/g01374/laws.FnExactMostRisers", spec := "fnExactMostRisers", apart := false }
def FnExactMostRisersSaid : Prop := fnExactMostRisersRow.holds Try.pinned (OpenSpec.ofChange fnExactMostRisersSpec)

/-- ITS FALSE NEIGHBOUR: 'it returns false'. Refute it at one input. -/
def fnExactMostRisersWrong : ChangeSpec := { name := "fnExactMostRisers", fn := fun _ => fun
  | [d1, d2] => { results := [.lit (.bool false)], args := [d1, d2] }
  | _ => none }
def FnExactMostRisersWrongFalsely : Prop := fnExactMostRisersRow.holds Try.pinned (OpenSpec.ofChange fnExactMostRisersWrong)

/-- 'laws.FnExactFewestLamps': WHATEVER THE INPUT: true; the input reads as it did. -/
def fnExactFewestLampsSpec : ChangeSpec := { name := "fnExactFewestLamps", fn := fun _ => fun
  | [d1, d2] => { results := [.lit (.bool true)], args := [d1, d2] }
  | _ => none }
def fnExactFewestLampsRow : OpenClaim := { program := "ytaljoonmejmlcaa", sum := "f75d5deb9c8790fd2e19376fe5c9bb2ac9322a77343d18846fc9b6dd9ed4df50", func := "loop.example/g01374/laws.FnExactFewestLamps", spec := "fnExactFewestLamps", apart := false }
def FnExactFewestLampsSaid : Prop := fnExactFewestLampsRow.holds Try.pinned (OpenSpec.ofChange fnExactFewestLampsSpec)

/-- ITS FALSE NEIGHBOUR: 'it returns false'. Refute it at one input. -/
def fnExactFewestLampsWrong : ChangeSpec := { name := "fnExactFewestLamps", fn := fun _ => fun
  | [d1, d2] => { results := [.lit (.bool false)], args := [d1, d2] }
  | _ => none }
def FnExactFewestLampsWrongFalsely : Prop := fnExactFewestLampsRow.holds Try.pinned (OpenSpec.ofChange fnExactFewestLampsWrong)

/-- 'laws.FnExactPaceSum': WHATEVER THE INPUT: true; the input reads as it did. -/
def fnExactPaceSumSpec : ChangeSpec := { name := "fnExactPaceSum", fn := fun _ => fun
  | [d] => { results := [.lit (.bool true)], args := [d] }
  | _ => none }
def fnExactPaceSumRow : OpenClaim := { program := "ytaljoonmejmlcaa", sum := "f75d5deb9c8790fd2e19376fe5c9bb2ac9322a77343d18846fc9b6dd9ed4df50", func := "loop.example/g01374/laws.FnExactPaceSum", spec := "fnExactPaceSum", apart := false }
def FnExactPaceSumSaid : Prop := fnExactPaceSumRow.holds Try.pinned (OpenSpec.ofChange fnExactPaceSumSpec)

/-- ITS FALSE NEIGHBOUR: 'it returns false'. Refute it at one input. -/
def fnExactPaceSumWrong : ChangeSpec := { name := "fnExactPaceSum", fn := fun _ => fun
  | [d] => { results := [.lit (.bool false)], args := [d] }
  | _ => none }
def FnExactPaceSumWrongFalsely : Prop := fnExactPaceSumRow.holds Try.pinned (OpenSpec.ofChange fnExactPaceSumWrong)

/-- 'laws.FnExactLeastRound': WHATEVER THE INPUT: true; the input reads as it did. -/
def fnExactLeastRoundSpec : ChangeSpec := { name := "fnExactLeastRound", fn := fun _ => fun
  | [d1, d2] => { results := [.lit (.bool true)], args := [d1, d2] }
  | _ => none }
def fnExactLeastRoundRow : OpenClaim := { program := "ytaljoonmejmlcaa", sum := "f75d5deb9c8790fd2e19376fe5c9bb2ac9322a77343d18846fc9b6dd9ed4df50", func := "loop.example/g01374/laws.FnExactLeastRound", spec := "fnExactLeastRound", apart := false }
def FnExactLeastRoundSaid : Prop := fnExactLeastRoundRow.holds Try.pinned (OpenSpec.ofChange fnExactLeastRoundSpec)

/-- ITS FALSE NEIGHBOUR: 'it returns false'. Refute it at one input. -/
def fnExactLeastRoundWrong : ChangeSpec := { name := "fnExactLeastRound", fn := fun _ => fun
  | [d1, d2] => { results := [.lit (.bool false)], args := [d1, d2] }
  | _ => none }
def FnExactLeastRoundWrongFalsely : Prop := fnExactLeastRoundRow.holds Try.pinned (OpenSpec.ofChange fnExactLeastRoundWrong)

/-- 'laws.FnExactHeightOf': WHATEVER THE INPUT: true; the input reads as it did. -/
def fnExactHeightOfSpec : ChangeSpec := { name := "fnExactHeightOf", fn := fun _ => fun
  | [d] => { results := [.lit (.bool true)], args := [d] }
  | _ => none }
def fnExactHeightOfRow : OpenClaim := { program := "ytaljoonmejmlcaa", sum := "f75d5deb9c8790fd2e19376fe5c9bb2ac9322a77343d18846fc9b6dd9ed4df50", func := "loop.example/g01374/laws.FnExactHeightOf", spec := "fnExactHeightOf", apart := false }
def FnExactHeightOfSaid : Prop := fnExactHeightOfRow.holds Try.pinned (OpenSpec.ofChange fnExactHeightOfSpec)

/-- ITS FALSE NEIGHBOUR: 'it returns false'. Refute it at one input. -/
def fnExactHeightOfWrong : ChangeSpec := { name := "fnExactHeightOf", fn := fun _ => fun
  | [d] => { results := [.lit (.bool false)], args := [d] }
  | _ => none }
def FnExactHeightOfWrongFalsely : Prop := fnExactHeightOfRow.holds Try.pinned (OpenSpec.ofChange fnExactHeightOfWrong)

/-- 'laws.FnExactRunOf': WHATEVER THE INPUT: true; the input reads as it did. -/
def fnExactRunOfSpec : ChangeSpec := { name := "fnExactRunOf", fn := fun _ => fun
  | [d] => { results := [.lit (.bool true)], args := [d] }
  | _ => none }
def fnExactRunOfRow : OpenClaim := { program := "ytaljoonmejmlcaa", sum := "f75d5deb9c8790fd2e19376fe5c9bb2ac9322a77343d18846fc9b6dd9ed4df50", func := "loop.example/g01374/laws.FnExactRunOf", spec := "fnExactRunOf", apart := false }
def FnExactRunOfSaid : Prop := fnExactRunOfRow.holds Try.pinned (OpenSpec.ofChange fnExactRunOfSpec)

/-- ITS FALSE NEIGHBOUR: 'it returns false'. Refute it at one input. -/
def fnExactRunOfWrong : ChangeSpec := { name := "fnExactRunOf", fn := fun _ => fun
  | [d] => { results := [.lit (.bool false)], args := [d] }
  | _ => none }
def FnExactRunOfWrongFalsely : Prop := fnExactRunOfRow.holds Try.pinned (OpenSpec.ofChange fnExactRunOfWrong)

/-- 'laws.FnExactLineSquare': WHATEVER THE INPUT: true; the input reads as it did. -/
def fnExactLineSquareSpec : ChangeSpec := { name := "fnExactLineSquare", fn := fun _ => fun
  | [d] => { results := [.lit (.bool true)], args := [d] }
  | _ => none }
def fnExactLineSquareRow : OpenClaim := { program := "ytaljoonmejmlcaa", sum := "f75d5deb9c8790fd2e19376fe5c9bb2ac9322a77343d18846fc9b6dd9ed4df50", func := "loop.example/g01374/laws.FnExactLineSquare", spec := "fnExactLineSquare", apart := false }
def FnExactLineSquareSaid : Prop := fnExactLineSquareRow.holds Try.pinned (OpenSpec.ofChange fnExactLineSquareSpec)

/-- ITS FALSE NEIGHBOUR: 'it returns false'. Refute it at one input. -/
def fnExactLineSquareWrong : ChangeSpec := { name := "fnExactLineSquare", fn := fun _ => fun
  | [d] => { results := [.lit (.bool false)], args := [d] }
  | _ => none }
def FnExactLineSquareWrongFalsely : Prop := fnExactLineSquareRow.holds Try.pinned (OpenSpec.ofChange fnExactLineSquareWrong)

/-- 'laws.FnExactHeadOver': WHATEVER THE INPUT: true; the input reads as it did. -/
def fnExactHeadOverSpec : ChangeSpec := { name := "fnExactHeadOver", fn := fun _ => fun
  | [d1, d2] => { results := [.lit (.bool true)], args := [d1, d2] }
  | _ => none }
def fnExactHeadOverRow : OpenClaim := { program := "ytaljoonmejmlcaa", sum := "f75d5deb9c8790fd2e19376fe5c9bb2ac9322a77343d18846fc9b6dd9ed4df50", func := "loop.example/g01374/laws.FnExactHeadOver", spec := "fnExactHeadOver", apart := false }
def FnExactHeadOverSaid : Prop := fnExactHeadOverRow.holds Try.pinned (OpenSpec.ofChange fnExactHeadOverSpec)

/-- ITS FALSE NEIGHBOUR: 'it returns false'. Refute it at one input. -/
def fnExactHeadOverWrong : ChangeSpec := { name := "fnExactHeadOver", fn := fun _ => fun
  | [d1, d2] => { results := [.lit (.bool false)], args := [d1, d2] }
  | _ => none }
def FnExactHeadOverWrongFalsely : Prop := fnExactHeadOverRow.holds Try.pinned (OpenSpec.ofChange fnExactHeadOverWrong)

/- THE SECOND FORM. 'bulk': how many values and letters a reading holds, each counted each time it is reached (what is shared counts as often as it is met; a slice's spare places count too). A statement '..UptoSaid' is the law's where the arguments, and the package variables that the reading takes, are together of bulk at most 1048576: NARROWER than '..Said'. Prove '..Said' where nothing that the law and all that it calls make is longer than what came in: it says more and counts as full. Else prove '..UptoSaid'. A law counts once. -/
mutual
def uptoBulk {H : Type} : DataW H → Nat
  | .lit (.string bytes) => bytes.length + 1
  | .lit _ => 1
  | .nil => 1
  | .ptr d => uptoBulk d + 1
  | .slice elems spare => uptoBulkAll elems + uptoBulkAll spare + 1
  | .agg parts => uptoBulkAll parts + 1
  | .iface _ d => uptoBulk d + 1
  | .map entries => uptoBulkEntries entries + 1
  | .held _ => 1
def uptoBulkAll {H : Type} : List (DataW H) → Nat
  | [] => 0
  | d :: r => uptoBulk d + uptoBulkAll r
def uptoBulkEntries {H : Type} : List (Lit × DataW H) → Nat
  | [] => 0
  | x :: r => uptoBulkEntry x + uptoBulkEntries r
def uptoBulkEntry {H : Type} : Lit × DataW H → Nat
  | (.string bytes, d) => bytes.length + uptoBulk d + 1
  | (_, d) => uptoBulk d + 1
 end
def uptoSmall : (H : Type) → List (DataW H) → Bool := fun _ ds => decide (uptoBulkAll ds ≤ 1048576)
def OpenSpec.upto (s : _root_.Go.ChangeSpec) : _root_.Go.OpenSpec := { _root_.Go.OpenSpec.ofChange s with cond := some uptoSmall }

/-- 'laws.FnExactTreadFor', WHERE WHAT IT READS IS OF BULK AT MOST 1048576: true; the input reads as it did. -/
def fnExactTreadForUptoRow : OpenClaim := { program := "ytaljoonmejmlcaa", sum := "f75d5deb9c8790fd2e19376fe5c9bb2ac9322a77343d18846fc9b6dd9ed4df50", func := "loop.example/g01374/laws.FnExactTreadFor", spec := "fnExactTreadFor", apart := false, narrowed := true }
def FnExactTreadForUptoSaid : Prop := fnExactTreadForUptoRow.holds Try.pinned (OpenSpec.upto fnExactTreadForSpec)

/-- 'laws.FnExactFewestRisers', WHERE WHAT IT READS IS OF BULK AT MOST 1048576: true; the input reads as it did. -/
def fnExactFewestRisersUptoRow : OpenClaim := { program := "ytaljoonmejmlcaa", sum := "f75d5deb9c8790fd2e19376fe5c9bb2ac9322a77343d18846fc9b6dd9ed4df50", func := "loop.example/g01374/laws.FnExactFewestRisers", spec := "fnExactFewestRisers", apart := false, narrowed := true }
def FnExactFewestRisersUptoSaid : Prop := fnExactFewestRisersUptoRow.holds Try.pinned (OpenSpec.upto fnExactFewestRisersSpec)

/-- 'laws.FnExactIsFlight', WHERE WHAT IT READS IS OF BULK AT MOST 1048576: true; the input reads as it did. -/
def fnExactIsFlightUptoRow : OpenClaim := { program := "ytaljoonmejmlcaa", sum := "f75d5deb9c8790fd2e19376fe5c9bb2ac9322a77343d18846fc9b6dd9ed4df50", func := "loop.example/g01374/laws.FnExactIsFlight", spec := "fnExactIsFlight", apart := false, narrowed := true }
def FnExactIsFlightUptoSaid : Prop := fnExactIsFlightUptoRow.holds Try.pinned (OpenSpec.upto fnExactIsFlightSpec)

/-- 'laws.FnExactIsSpiral', WHERE WHAT IT READS IS OF BULK AT MOST 1048576: true; the input reads as it did. -/
def fnExactIsSpiralUptoRow : OpenClaim := { program := "ytaljoonmejmlcaa", sum := "f75d5deb9c8790fd2e19376fe5c9bb2ac9322a77343d18846fc9b6dd9ed4df50", func := "loop.example/g01374/laws.FnExactIsSpiral", spec := "fnExactIsSpiral", apart := false, narrowed := true }
def FnExactIsSpiralUptoSaid : Prop := fnExactIsSpiralUptoRow.holds Try.pinned (OpenSpec.upto fnExactIsSpiralSpec)

/-- 'laws.FnExactMostRisers', WHERE WHAT IT READS IS OF BULK AT MOST 1048576: true; the input reads as it did. -/
def fnExactMostRisersUptoRow : OpenClaim := { program := "ytaljoonmejmlcaa", sum := "f75d5deb9c8790fd2e19376fe5c9bb2ac9322a77343d18846fc9b6dd9ed4df50", func := "loop.example/g01374/laws.FnExactMostRisers", spec := "fnExactMostRisers", apart := false, narrowed := true }
def FnExactMostRisersUptoSaid : Prop := fnExactMostRisersUptoRow.holds Try.pinned (OpenSpec.upto fnExactMostRisersSpec)

/-- 'laws.FnExactFewestLamps', WHERE WHAT IT READS IS OF BULK AT MOST 1048576: true; the input reads as it did. -/
def fnExactFewestLampsUptoRow : OpenClaim := { program := "ytaljoonmejmlcaa", sum := "f75d5deb9c8790fd2e19376fe5c9bb2ac9322a77343d18846fc9b6dd9ed4df50", func := "loop.example/g01374/laws.FnExactFewestLamps", spec := "fnExactFewestLamps", apart := false, narrowed := true }
def FnExactFewestLampsUptoSaid : Prop := fnExactFewestLampsUptoRow.holds Try.pinned (OpenSpec.upto fnExactFewestLampsSpec)

/-- 'laws.FnExactPaceSum', WHERE WHAT IT READS IS OF BULK AT MOST 1048576: true; the input reads as it did. -/
def fnExactPaceSumUptoRow : OpenClaim := { program := "ytaljoonmejmlcaa", sum := "f75d5deb9c8790fd2e19376fe5c9bb2ac9322a77343d18846fc9b6dd9ed4df50", func := "loop.example/g01374/laws.FnExactPaceSum", spec := "fnExactPaceSum", apart := false, narrowed := true }
def FnExactPaceSumUptoSaid : Prop := fnExactPaceSumUptoRow.holds Try.pinned (OpenSpec.upto fnExactPaceSumSpec)

/-- 'laws.FnExactLeastRound', WHERE WHAT IT READS IS OF BULK AT MOST 1048576: true; the input reads as it did. -/
def fnExactLeastRoundUptoRow : OpenClaim := { program := "ytaljoonmejmlcaa", sum := "f75d5deb9c8790fd2e19376fe5c9bb2ac9322a77343d18846fc9b6dd9ed4df50", func := "loop.example/g01374/laws.FnExactLeastRound", spec := "fnExactLeastRound", apart := false, narrowed := true }
def FnExactLeastRoundUptoSaid : Prop := fnExactLeastRoundUptoRow.holds Try.pinned (OpenSpec.upto fnExactLeastRoundSpec)

/-- 'laws.FnExactHeightOf', WHERE WHAT IT READS IS OF BULK AT MOST 1048576: true; the input reads as it did. -/
def fnExactHeightOfUptoRow : OpenClaim := { program := "ytaljoonmejmlcaa", sum := "f75d5deb9c8790fd2e19376fe5c9bb2ac9322a77343d18846fc9b6dd9ed4df50", func := "loop.example/g01374/laws.FnExactHeightOf", spec := "fnExactHeightOf", apart := false, narrowed := true }
def FnExactHeightOfUptoSaid : Prop := fnExactHeightOfUptoRow.holds Try.pinned (OpenSpec.upto fnExactHeightOfSpec)

/-- 'laws.FnExactRunOf', WHERE WHAT IT READS IS OF BULK AT MOST 1048576: true; the input reads as it did. -/
def fnExactRunOfUptoRow : OpenClaim := { program := "ytaljoonmejmlcaa", sum := "f75d5deb9c8790fd2e19376fe5c9bb2ac9322a77343d18846fc9b6dd9ed4df50", func := "loop.example/g01374/laws.FnExactRunOf", spec := "fnExactRunOf", apart := false, narrowed := true }
def FnExactRunOfUptoSaid : Prop := fnExactRunOfUptoRow.holds Try.pinned (OpenSpec.upto fnExactRunOfSpec)

/-- 'laws.FnExactLineSquare', WHERE WHAT IT READS IS OF BULK AT MOST 1048576: true; the input reads as it did. -/
def fnExactLineSquareUptoRow : OpenClaim := { program := "ytaljoonmejmlcaa", sum := "f75d5deb9c8790fd2e19376fe5c9bb2ac9322a77343d18846fc9b6dd9ed4df50", func := "loop.example/g01374/laws.FnExactLineSquare", spec := "fnExactLineSquare", apart := false, narrowed := true }
def FnExactLineSquareUptoSaid : Prop := fnExactLineSquareUptoRow.holds Try.pinned (OpenSpec.upto fnExactLineSquareSpec)

/-- 'laws.FnExactHeadOver', WHERE WHAT IT READS IS OF BULK AT MOST 1048576: true; the input reads as it did. -/
def fnExactHeadOverUptoRow : OpenClaim := { program := "ytaljoonmejmlcaa", sum := "f75d5deb9c8790fd2e19376fe5c9bb2ac9322a77343d18846fc9b6dd9ed4df50", func := "loop.example/g01374/laws.FnExactHeadOver", spec := "fnExactHeadOver", apart := false, narrowed := true }
def FnExactHeadOverUptoSaid : Prop := fnExactHeadOverUptoRow.holds Try.pinned (OpenSpec.upto fnExactHeadOverSpec)

end Rows
end Go.Proofs.Ytaljoonmejmlcaa
