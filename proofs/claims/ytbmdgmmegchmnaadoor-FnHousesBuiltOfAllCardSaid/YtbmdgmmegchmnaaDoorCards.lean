/-
  DERIVED. GIVEN WITH THE SEED: THE CARDS: each row of YtbmdgmmegchmnaaDoorRows.lean that lists a variable, with what it lists TIED to the program's text (the seventh form; the later family's looks); each row that meets fmt, with fmt's text TOLD by the authors' own Lean function (tested against real Go, not proved from fmt's source: count such statements apart). THE CARD IS WHAT COUNTS. Prove the row's statement (the work); the ties are given (YtbmdgmmegchmnaaDoorTie.lean); close each card by the builder's one call (the guide's Derived/Test/ToyasCard.lean, 'card_holds'). Laid BY PROGRAM, IN A SANDBOX (cutbox-door.mjs). By AI agents, Wed Nov 11 2026. No macro, syntax, notation, axiom, sorry.
-/
import Derived.Test.YtbmdgmmegchmnaaDoorRows
import GoSem.ClaimSeven
namespace Go.Proofs.YtbmdgmmegchmnaaDoor
namespace Rows

/-- THE TIED CARD OF 'laws.FnExactMovingText'. -/
def fnExactMovingTextCard : Claim7 := { stood := { row := fnExactMovingTextRow, standIns := [], harness := (true, "34c3115ce7f233becce42fd669e41a38db726640c3f2c776f15fd31138af5dcf"), looks := true }, kinds := [], alts := [], laidByText := true, laidKinds := [.data, .data, .data], laidTests := true, laidLooks := .later }
def FnExactMovingTextCardSaid : Prop := Claim7.holds Tryd.pinned (.plain (OpenSpec.ofChange fnExactMovingTextSpec)) fnExactMovingTextCard

/-- THE TIED CARD OF 'laws.FnExactFlightText'. -/
def fnExactFlightTextCard : Claim7 := { stood := { row := fnExactFlightTextRow, standIns := [], harness := (true, "34c3115ce7f233becce42fd669e41a38db726640c3f2c776f15fd31138af5dcf"), looks := true }, kinds := [], alts := [], laidByText := true, laidKinds := [.data, .data, .data], laidTests := true, laidLooks := .later }
def FnExactFlightTextCardSaid : Prop := Claim7.holds Tryd.pinned (.plain (OpenSpec.ofChange fnExactFlightTextSpec)) fnExactFlightTextCard

/-- THE TIED CARD OF 'laws.FnExactHouseText'. -/
def fnExactHouseTextCard : Claim7 := { stood := { row := fnExactHouseTextRow, standIns := [], harness := (true, "34c3115ce7f233becce42fd669e41a38db726640c3f2c776f15fd31138af5dcf"), looks := true }, kinds := [], alts := [], laidByText := true, laidKinds := [.data, .data, .data], laidTests := true, laidLooks := .later }
def FnExactHouseTextCardSaid : Prop := Claim7.holds Tryd.pinned (.plain (OpenSpec.ofChange fnExactHouseTextSpec)) fnExactHouseTextCard

/-- THE TIED CARD OF 'laws.FnExactParseMoving'. -/
def fnExactParseMovingCard : Claim7 := { stood := { row := fnExactParseMovingRow, standIns := [], harness := (true, "34c3115ce7f233becce42fd669e41a38db726640c3f2c776f15fd31138af5dcf"), looks := true }, kinds := [], alts := [], laidByText := true, laidKinds := [.data, .data, .data, .sentinel, .sentinel], laidTests := true, laidLooks := .later }
def FnExactParseMovingCardSaid : Prop := Claim7.holds Tryd.pinned (.plain (OpenSpec.ofChange fnExactParseMovingSpec)) fnExactParseMovingCard

/-- THE TIED CARD OF 'laws.FnExactParseFlight'. -/
def fnExactParseFlightCard : Claim7 := { stood := { row := fnExactParseFlightRow, standIns := [], harness := (true, "34c3115ce7f233becce42fd669e41a38db726640c3f2c776f15fd31138af5dcf"), looks := true }, kinds := [], alts := [], laidByText := true, laidKinds := [.data, .data, .data, .sentinel, .sentinel], laidTests := true, laidLooks := .later }
def FnExactParseFlightCardSaid : Prop := Claim7.holds Tryd.pinned (.plain (OpenSpec.ofChange fnExactParseFlightSpec)) fnExactParseFlightCard

/-- THE TIED CARD OF 'laws.FnExactParseHouse'. -/
def fnExactParseHouseCard : Claim7 := { stood := { row := fnExactParseHouseRow, standIns := [], harness := (true, "34c3115ce7f233becce42fd669e41a38db726640c3f2c776f15fd31138af5dcf"), looks := true }, kinds := [], alts := [], laidByText := true, laidKinds := [.data, .data, .data, .data, .sentinel, .sentinel, .pinned], laidTests := true, laidLooks := .later }
def FnExactParseHouseCardSaid : Prop := Claim7.holds Tryd.pinned (.plain (OpenSpec.ofChange fnExactParseHouseSpec)) fnExactParseHouseCard

/-- THE TIED CARD OF 'laws.FnRisersFitOfAll'. -/
def fnRisersFitOfAllCard : Claim7 := { stood := { row := fnRisersFitOfAllRow, standIns := [], harness := (true, "34c3115ce7f233becce42fd669e41a38db726640c3f2c776f15fd31138af5dcf"), looks := true }, kinds := [], alts := [], laidByText := true, laidKinds := [.data, .data, .data, .sentinel, .sentinel], laidTests := true, laidLooks := .later }
def FnRisersFitOfAllCardSaid : Prop := Claim7.holds Tryd.pinned (.plain (OpenSpec.ofChange fnRisersFitOfAllSpec)) fnRisersFitOfAllCard

/-- THE TIED CARD OF 'laws.FnHousesBuiltOfAll'. -/
def fnHousesBuiltOfAllCard : Claim7 := { stood := { row := fnHousesBuiltOfAllRow, standIns := [], harness := (true, "34c3115ce7f233becce42fd669e41a38db726640c3f2c776f15fd31138af5dcf"), looks := true }, kinds := [], alts := [], laidByText := true, laidKinds := [.data, .data, .data, .data, .sentinel, .sentinel, .pinned], laidTests := true, laidLooks := .later }
def FnHousesBuiltOfAllCardSaid : Prop := Claim7.holds Tryd.pinned (.plain (OpenSpec.ofChange fnHousesBuiltOfAllSpec)) fnHousesBuiltOfAllCard

/-- THE TIED CARD OF 'laws.FnMovingTimedOfAll'. -/
def fnMovingTimedOfAllCard : Claim7 := { stood := { row := fnMovingTimedOfAllRow, standIns := [], harness := (true, "34c3115ce7f233becce42fd669e41a38db726640c3f2c776f15fd31138af5dcf"), looks := true }, kinds := [], alts := [], laidByText := true, laidKinds := [.data, .data, .data, .sentinel, .sentinel], laidTests := true, laidLooks := .later }
def FnMovingTimedOfAllCardSaid : Prop := Claim7.holds Tryd.pinned (.plain (OpenSpec.ofChange fnMovingTimedOfAllSpec)) fnMovingTimedOfAllCard

/-- THE SECOND FORM's CARD OF 'laws.FnExactMovingText'. -/
def fnExactMovingTextUptoCard : Claim7 := { stood := { row := fnExactMovingTextUptoRow, standIns := [], harness := (true, "34c3115ce7f233becce42fd669e41a38db726640c3f2c776f15fd31138af5dcf"), looks := true }, kinds := [], alts := [], laidByText := true, laidKinds := [.data, .data, .data], laidTests := true, laidLooks := .later }
def FnExactMovingTextUptoCardSaid : Prop := Claim7.holds Tryd.pinned (.plain (OpenSpec.upto fnExactMovingTextSpec)) fnExactMovingTextUptoCard

/-- THE SECOND FORM's CARD OF 'laws.FnExactFlightText'. -/
def fnExactFlightTextUptoCard : Claim7 := { stood := { row := fnExactFlightTextUptoRow, standIns := [], harness := (true, "34c3115ce7f233becce42fd669e41a38db726640c3f2c776f15fd31138af5dcf"), looks := true }, kinds := [], alts := [], laidByText := true, laidKinds := [.data, .data, .data], laidTests := true, laidLooks := .later }
def FnExactFlightTextUptoCardSaid : Prop := Claim7.holds Tryd.pinned (.plain (OpenSpec.upto fnExactFlightTextSpec)) fnExactFlightTextUptoCard

/-- THE SECOND FORM's CARD OF 'laws.FnExactHouseText'. -/
def fnExactHouseTextUptoCard : Claim7 := { stood := { row := fnExactHouseTextUptoRow, standIns := [], harness := (true, "34c3115ce7f233becce42fd669e41a38db726640c3f2c776f15fd31138af5dcf"), looks := true }, kinds := [], alts := [], laidByText := true, laidKinds := [.data, .data, .data], laidTests := true, laidLooks := .later }
def FnExactHouseTextUptoCardSaid : Prop := Claim7.holds Tryd.pinned (.plain (OpenSpec.upto fnExactHouseTextSpec)) fnExactHouseTextUptoCard

/-- THE SECOND FORM's CARD OF 'laws.FnExactParseMoving'. -/
def fnExactParseMovingUptoCard : Claim7 := { stood := { row := fnExactParseMovingUptoRow, standIns := [], harness := (true, "34c3115ce7f233becce42fd669e41a38db726640c3f2c776f15fd31138af5dcf"), looks := true }, kinds := [], alts := [], laidByText := true, laidKinds := [.data, .data, .data, .sentinel, .sentinel], laidTests := true, laidLooks := .later }
def FnExactParseMovingUptoCardSaid : Prop := Claim7.holds Tryd.pinned (.plain (OpenSpec.upto fnExactParseMovingSpec)) fnExactParseMovingUptoCard

/-- THE SECOND FORM's CARD OF 'laws.FnExactParseFlight'. -/
def fnExactParseFlightUptoCard : Claim7 := { stood := { row := fnExactParseFlightUptoRow, standIns := [], harness := (true, "34c3115ce7f233becce42fd669e41a38db726640c3f2c776f15fd31138af5dcf"), looks := true }, kinds := [], alts := [], laidByText := true, laidKinds := [.data, .data, .data, .sentinel, .sentinel], laidTests := true, laidLooks := .later }
def FnExactParseFlightUptoCardSaid : Prop := Claim7.holds Tryd.pinned (.plain (OpenSpec.upto fnExactParseFlightSpec)) fnExactParseFlightUptoCard

/-- THE SECOND FORM's CARD OF 'laws.FnExactParseHouse'. -/
def fnExactParseHouseUptoCard : Claim7 := { stood := { row := fnExactParseHouseUptoRow, standIns := [], harness := (true, "34c3115ce7f233becce42fd669e41a38db726640c3f2c776f15fd31138af5dcf"), looks := true }, kinds := [], alts := [], laidByText := true, laidKinds := [.data, .data, .data, .data, .sentinel, .sentinel, .pinned], laidTests := true, laidLooks := .later }
def FnExactParseHouseUptoCardSaid : Prop := Claim7.holds Tryd.pinned (.plain (OpenSpec.upto fnExactParseHouseSpec)) fnExactParseHouseUptoCard

/-- THE SECOND FORM's CARD OF 'laws.FnRisersFitOfAll'. -/
def fnRisersFitOfAllUptoCard : Claim7 := { stood := { row := fnRisersFitOfAllUptoRow, standIns := [], harness := (true, "34c3115ce7f233becce42fd669e41a38db726640c3f2c776f15fd31138af5dcf"), looks := true }, kinds := [], alts := [], laidByText := true, laidKinds := [.data, .data, .data, .sentinel, .sentinel], laidTests := true, laidLooks := .later }
def FnRisersFitOfAllUptoCardSaid : Prop := Claim7.holds Tryd.pinned (.plain (OpenSpec.upto fnRisersFitOfAllSpec)) fnRisersFitOfAllUptoCard

/-- THE SECOND FORM's CARD OF 'laws.FnHousesBuiltOfAll'. -/
def fnHousesBuiltOfAllUptoCard : Claim7 := { stood := { row := fnHousesBuiltOfAllUptoRow, standIns := [], harness := (true, "34c3115ce7f233becce42fd669e41a38db726640c3f2c776f15fd31138af5dcf"), looks := true }, kinds := [], alts := [], laidByText := true, laidKinds := [.data, .data, .data, .data, .sentinel, .sentinel, .pinned], laidTests := true, laidLooks := .later }
def FnHousesBuiltOfAllUptoCardSaid : Prop := Claim7.holds Tryd.pinned (.plain (OpenSpec.upto fnHousesBuiltOfAllSpec)) fnHousesBuiltOfAllUptoCard

/-- THE SECOND FORM's CARD OF 'laws.FnMovingTimedOfAll'. -/
def fnMovingTimedOfAllUptoCard : Claim7 := { stood := { row := fnMovingTimedOfAllUptoRow, standIns := [], harness := (true, "34c3115ce7f233becce42fd669e41a38db726640c3f2c776f15fd31138af5dcf"), looks := true }, kinds := [], alts := [], laidByText := true, laidKinds := [.data, .data, .data, .sentinel, .sentinel], laidTests := true, laidLooks := .later }
def FnMovingTimedOfAllUptoCardSaid : Prop := Claim7.holds Tryd.pinned (.plain (OpenSpec.upto fnMovingTimedOfAllSpec)) fnMovingTimedOfAllUptoCard
end Rows
end Go.Proofs.YtbmdgmmegchmnaaDoor
