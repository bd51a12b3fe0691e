/-
  No cell of these rows narrows 'for every input' (looked for: loops, veiled, ifaces, maps, wideKeys, modest, calm, conditions, laid).
  DERIVED. THE GIVEN ROWS OF THIS SEAT. 3 by the template 'for every input the law returns true; each argument reads behind the call as it read before'; 0 by the template 'total and deterministic' (their statements: YtaaohafbaoaioaaTotals.lean).
  GIVEN WITH THE SEED: the statements are not yours to turn. If you find one false, say at which input.
  Laid BY PROGRAM, IN A SANDBOX (cutbox-rows.mjs): the forced cells as the released guide's own fill.sh prints them over the translation 36e56b0462552d56… (all of the seat's roots in one cut). By AI agents, Wed Nov 11 2026. No macro, syntax, notation, axiom, sorry.
-/
import Derived.Test.YtaaohafbaoaioaaChecked
import GoSem.Claim
import GoSem.ClaimJoined
import GoSem.ClaimMapViews
import Derived.JoinedTies
import Derived.KernelRfl
namespace Go.Proofs.Ytaaohafbaoaioaa
/- THE CELL 'sum', in the pinned program and in every row, IS THE sha256 OF THE DUMP (.gsa) THAT YtaaohafbaoaioaaProg.lean LOADS. Nothing in Lean hashes anything: it is a label: what it is worth is what the hold of that sum in a sandbox is worth. -/
noncomputable def Try.pinned : Pinned := { name := "ytaaohafbaoaioaa", sum := "36e56b0462552d56006c1a333a77c83ceb6b7b6af26075f81b2f854f287ab417", checked := Try.checked }
namespace Rows
def none {H : Type} : Left H := { results := [], args := [] }

/-- 'laws.FnExactWholeRisers': WHATEVER THE INPUT: true; the input reads as it did. -/
def fnExactWholeRisersSpec : ChangeSpec := { name := "fnExactWholeRisers", fn := fun _ => fun
  | [d1, d2, d3] => { results := [.lit (.bool true)], args := [d1, d2, d3] }
  | _ => none }
def fnExactWholeRisersRow : OpenClaim := { program := "ytaaohafbaoaioaa", sum := "36e56b0462552d56006c1a333a77c83ceb6b7b6af26075f81b2f854f287ab417", func := "loop.example/g01374/laws.FnExactWholeRisers", spec := "fnExactWholeRisers", apart := false }
def FnExactWholeRisersSaid : Prop := fnExactWholeRisersRow.holds Try.pinned (OpenSpec.ofChange fnExactWholeRisersSpec)

/-- ITS FALSE NEIGHBOUR: 'it returns false'. Refute it at one input. -/
def fnExactWholeRisersWrong : ChangeSpec := { name := "fnExactWholeRisers", fn := fun _ => fun
  | [d1, d2, d3] => { results := [.lit (.bool false)], args := [d1, d2, d3] }
  | _ => none }
def FnExactWholeRisersWrongFalsely : Prop := fnExactWholeRisersRow.holds Try.pinned (OpenSpec.ofChange fnExactWholeRisersWrong)

/-- 'laws.FnExactEvenRisers': WHATEVER THE INPUT: true; the input reads as it did. -/
def fnExactEvenRisersSpec : ChangeSpec := { name := "fnExactEvenRisers", fn := fun _ => fun
  | [d1, d2] => { results := [.lit (.bool true)], args := [d1, d2] }
  | _ => none }
def fnExactEvenRisersRow : OpenClaim := { program := "ytaaohafbaoaioaa", sum := "36e56b0462552d56006c1a333a77c83ceb6b7b6af26075f81b2f854f287ab417", func := "loop.example/g01374/laws.FnExactEvenRisers", spec := "fnExactEvenRisers", apart := false }
def FnExactEvenRisersSaid : Prop := fnExactEvenRisersRow.holds Try.pinned (OpenSpec.ofChange fnExactEvenRisersSpec)

/-- ITS FALSE NEIGHBOUR: 'it returns false'. Refute it at one input. -/
def fnExactEvenRisersWrong : ChangeSpec := { name := "fnExactEvenRisers", fn := fun _ => fun
  | [d1, d2] => { results := [.lit (.bool false)], args := [d1, d2] }
  | _ => none }
def FnExactEvenRisersWrongFalsely : Prop := fnExactEvenRisersRow.holds Try.pinned (OpenSpec.ofChange fnExactEvenRisersWrong)

/-- 'laws.FnExactFlightsFor': WHATEVER THE INPUT: true; the input reads as it did. -/
def fnExactFlightsForSpec : ChangeSpec := { name := "fnExactFlightsFor", fn := fun _ => fun
  | [d1, d2, d3] => { results := [.lit (.bool true)], args := [d1, d2, d3] }
  | _ => none }
def fnExactFlightsForRow : OpenClaim := { program := "ytaaohafbaoaioaa", sum := "36e56b0462552d56006c1a333a77c83ceb6b7b6af26075f81b2f854f287ab417", func := "loop.example/g01374/laws.FnExactFlightsFor", spec := "fnExactFlightsFor", apart := false }
def FnExactFlightsForSaid : Prop := fnExactFlightsForRow.holds Try.pinned (OpenSpec.ofChange fnExactFlightsForSpec)

/-- ITS FALSE NEIGHBOUR: 'it returns false'. Refute it at one input. -/
def fnExactFlightsForWrong : ChangeSpec := { name := "fnExactFlightsFor", fn := fun _ => fun
  | [d1, d2, d3] => { results := [.lit (.bool false)], args := [d1, d2, d3] }
  | _ => none }
def FnExactFlightsForWrongFalsely : Prop := fnExactFlightsForRow.holds Try.pinned (OpenSpec.ofChange fnExactFlightsForWrong)

/- THE SECOND FORM. 'bulk': how many values and letters a reading holds, each counted each time it is reached (what is shared counts as often as it is met; a slice's spare places count too). A statement '..UptoSaid' is the law's where the arguments, and the package variables that the reading takes, are together of bulk at most 1048576: NARROWER than '..Said'. Prove '..Said' where nothing that the law and all that it calls make is longer than what came in: it says more and counts as full. Else prove '..UptoSaid'. A law counts once. -/
mutual
def uptoBulk {H : Type} : DataW H → Nat
  | .lit (.string bytes) => bytes.length + 1
  | .lit _ => 1
  | .nil => 1
  | .ptr d => uptoBulk d + 1
  | .slice elems spare => uptoBulkAll elems + uptoBulkAll spare + 1
  | .agg parts => uptoBulkAll parts + 1
  | .iface _ d => uptoBulk d + 1
  | .map entries => uptoBulkEntries entries + 1
  | .held _ => 1
def uptoBulkAll {H : Type} : List (DataW H) → Nat
  | [] => 0
  | d :: r => uptoBulk d + uptoBulkAll r
def uptoBulkEntries {H : Type} : List (Lit × DataW H) → Nat
  | [] => 0
  | x :: r => uptoBulkEntry x + uptoBulkEntries r
def uptoBulkEntry {H : Type} : Lit × DataW H → Nat
  | (.string bytes, d) => bytes.length + uptoBulk d + 1
  | (_, d) => uptoBulk d + 1
 end
def uptoSmall : (H : Type) → List (DataW H) → Bool := fun _ ds => decide (uptoBulkAll ds ≤ 1048576)
def OpenSpec.upto (s : _root_.Go.ChangeSpec) : _root_.Go.OpenSpec := { _root_.Go.OpenSpec.ofChange s with cond := some uptoSmall }

/-- 'laws.FnExactWholeRisers', WHERE WHAT IT READS IS OF BULK AT MOST 1048576: true; the input reads as it did. -/
def fnExactWholeRisersUptoRow : OpenClaim := { program := "ytaaohafbaoaioaa", sum := "36e56b0462552d56006c1a333a77c83ceb6b7b6af26075f81b2f854f287ab417", func := "loop.example/g01374/laws.FnExactWholeRisers", spec := "fnExactWholeRisers", apart := false, narrowed := true }
def FnExactWholeRisersUptoSaid : Prop := fnExactWholeRisersUptoRow.holds Try.pinned (OpenSpec.upto fnExactWholeRisersSpec)

/-- 'laws.FnExactEvenRisers', WHERE WHAT IT READS IS OF BULK AT MOST 1048576: true; the input reads as it did. -/
def fnExactEvenRisersUptoRow : OpenClaim := { program := "ytaaohafbaoaioaa", sum := "36e56b0462552d56006c1a333a77c83ceb6b7b6af26075f81b2f854f287ab417", func := "loop.example/g01374/laws.FnExactEvenRisers", spec := "fnExactEvenRisers", apart := false, narrowed := true }
def FnExactEvenRisersUptoSaid : Prop := fnExactEvenRisersUptoRow.holds Try.pinned (OpenSpec.upto fnExactEvenRisersSpec)

/-- 'laws.FnExactFlightsFor', WHERE WHAT IT READS IS OF BULK AT MOST 1048576: true; the input reads as it did. -/
def fnExactFlightsForUptoRow : OpenClaim := { program := "ytaaohafbaoaioaa", sum := "36e56b0462552d56006c1a333a77c83ceb6b7b6af26075f81b2f854f287ab417", func := "loop.example/g01374/laws.FnExactFlightsFor", spec := "fnExactFlightsFor", apart := false, narrowed := true }
def FnExactFlightsForUptoSaid : Prop := fnExactFlightsForUptoRow.holds Try.pinned (OpenSpec.upto fnExactFlightsForSpec)

end Rows
end Go.Proofs.Ytaaohafbaoaioaa
