/-
  DERIVED. GIVEN WITH THE SEED: THE CARDS: each row of YtkopimbbgckcnaaDoorRows.lean that lists a variable, with what it lists TIED to the program's text (the seventh form; the later family's looks); each row that meets fmt, with fmt's text TOLD by the authors' own Lean function (tested against real Go, not proved from fmt's source: count such statements apart). THE CARD IS WHAT COUNTS. Prove the row's statement (the work); the ties are given (YtkopimbbgckcnaaDoorTie.lean); close each card by the builder's one call (the guide's Derived/Test/ToyasCard.lean, 'card_holds'). Laid BY PROGRAM, IN A SANDBOX (cutbox-door.mjs). By AI agents, Wed Nov 11 2026. No macro, syntax, notation, axiom, sorry.
-/
import Derived.Test.YtkopimbbgckcnaaDoorRows
import GoSem.ClaimSeven
namespace Go.Proofs.YtkopimbbgckcnaaDoor
namespace Rows

/-- THE TIED CARD OF 'laws.FnExactOpDo'. -/
def fnExactOpDoCard : Claim7 := { stood := { row := fnExactOpDoRow, standIns := [], harness := (true, "05e51009c0bec8d8d35deb79e81af090818f8d02cc4b5bce3a1d080efdde1e4f"), looks := true }, kinds := [], alts := [], laidByText := true, laidKinds := [.data], laidTests := true, laidLooks := .later }
def FnExactOpDoCardSaid : Prop := Claim7.holds Tryd.pinned (.plain (OpenSpec.ofChange fnExactOpDoSpec)) fnExactOpDoCard

/-- THE TIED CARD OF 'laws.FnDoTwice'. -/
def fnDoTwiceCard : Claim7 := { stood := { row := fnDoTwiceRow, standIns := [], harness := (true, "05e51009c0bec8d8d35deb79e81af090818f8d02cc4b5bce3a1d080efdde1e4f"), looks := true }, kinds := [], alts := [], laidByText := true, laidKinds := [.data], laidTests := true, laidLooks := .later }
def FnDoTwiceCardSaid : Prop := Claim7.holds Tryd.pinned (.plain (OpenSpec.ofChange fnDoTwiceSpec)) fnDoTwiceCard

/-- THE TIED CARD OF 'laws.FnMoveTwo'. -/
def fnMoveTwoCard : Claim7 := { stood := { row := fnMoveTwoRow, standIns := [], harness := (true, "05e51009c0bec8d8d35deb79e81af090818f8d02cc4b5bce3a1d080efdde1e4f"), looks := true }, kinds := [], alts := [], laidByText := true, laidKinds := [.data], laidTests := true, laidLooks := .later }
def FnMoveTwoCardSaid : Prop := Claim7.holds Tryd.pinned (.plain (OpenSpec.ofChange fnMoveTwoSpec)) fnMoveTwoCard

/-- THE TIED CARD OF 'laws.FnRootsStay'. -/
def fnRootsStayCard : Claim7 := { stood := { row := fnRootsStayRow, standIns := [], harness := (true, "05e51009c0bec8d8d35deb79e81af090818f8d02cc4b5bce3a1d080efdde1e4f"), looks := true }, kinds := [], alts := [], laidByText := true, laidKinds := [.data], laidTests := true, laidLooks := .later }
def FnRootsStayCardSaid : Prop := Claim7.holds Tryd.pinned (.plain (OpenSpec.ofChange fnRootsStaySpec)) fnRootsStayCard

/-- THE TIED CARD OF 'laws.FnTextTwo'. -/
def fnTextTwoCard : Claim7 := { stood := { row := fnTextTwoRow, standIns := [], harness := (true, "05e51009c0bec8d8d35deb79e81af090818f8d02cc4b5bce3a1d080efdde1e4f"), looks := true }, kinds := [], alts := [], laidByText := true, laidKinds := [.data], laidTests := true, laidLooks := .later }
def FnTextTwoCardSaid : Prop := Claim7.holds Tryd.pinned (.plain (OpenSpec.ofChange fnTextTwoSpec)) fnTextTwoCard

/-- THE TIED CARD OF 'laws.FnDoTexts'. -/
def fnDoTextsCard : Claim7 := { stood := { row := fnDoTextsRow, standIns := [], harness := (true, "05e51009c0bec8d8d35deb79e81af090818f8d02cc4b5bce3a1d080efdde1e4f"), looks := true }, kinds := [], alts := [], laidByText := true, laidKinds := [.data], laidTests := true, laidLooks := .later }
def FnDoTextsCardSaid : Prop := Claim7.holds Tryd.pinned (.plain (OpenSpec.ofChange fnDoTextsSpec)) fnDoTextsCard

/-- THE TIED CARD OF 'laws.FnMakeMove'. -/
def fnMakeMoveCard : Claim7 := { stood := { row := fnMakeMoveRow, standIns := [], harness := (true, "05e51009c0bec8d8d35deb79e81af090818f8d02cc4b5bce3a1d080efdde1e4f"), looks := true }, kinds := [], alts := [], laidByText := true, laidKinds := [.data], laidTests := true, laidLooks := .later }
def FnMakeMoveCardSaid : Prop := Claim7.holds Tryd.pinned (.plain (OpenSpec.ofChange fnMakeMoveSpec)) fnMakeMoveCard

/-- THE TIED CARD OF 'laws.FnTextOnly'. -/
def fnTextOnlyCard : Claim7 := { stood := { row := fnTextOnlyRow, standIns := [], harness := (true, "05e51009c0bec8d8d35deb79e81af090818f8d02cc4b5bce3a1d080efdde1e4f"), looks := true }, kinds := [], alts := [], laidByText := true, laidKinds := [.data], laidTests := true, laidLooks := .later }
def FnTextOnlyCardSaid : Prop := Claim7.holds Tryd.pinned (.plain (OpenSpec.ofChange fnTextOnlySpec)) fnTextOnlyCard

/-- THE TIED CARD OF 'laws.FnDoOk'. -/
def fnDoOkCard : Claim7 := { stood := { row := fnDoOkRow, standIns := [], harness := (true, "05e51009c0bec8d8d35deb79e81af090818f8d02cc4b5bce3a1d080efdde1e4f"), looks := true }, kinds := [], alts := [], laidByText := true, laidKinds := [.data], laidTests := true, laidLooks := .later }
def FnDoOkCardSaid : Prop := Claim7.holds Tryd.pinned (.plain (OpenSpec.ofChange fnDoOkSpec)) fnDoOkCard

/-- THE TIED CARD OF 'laws.FnMakeOnce'. -/
def fnMakeOnceCard : Claim7 := { stood := { row := fnMakeOnceRow, standIns := [], harness := (true, "05e51009c0bec8d8d35deb79e81af090818f8d02cc4b5bce3a1d080efdde1e4f"), looks := true }, kinds := [], alts := [], laidByText := true, laidKinds := [.data], laidTests := true, laidLooks := .later }
def FnMakeOnceCardSaid : Prop := Claim7.holds Tryd.pinned (.plain (OpenSpec.ofChange fnMakeOnceSpec)) fnMakeOnceCard

/-- THE TIED CARD OF 'laws.FnNoLoop'. -/
def fnNoLoopCard : Claim7 := { stood := { row := fnNoLoopRow, standIns := [], harness := (true, "05e51009c0bec8d8d35deb79e81af090818f8d02cc4b5bce3a1d080efdde1e4f"), looks := true }, kinds := [], alts := [], laidByText := true, laidKinds := [.data], laidTests := true, laidLooks := .later }
def FnNoLoopCardSaid : Prop := Claim7.holds Tryd.pinned (.plain (OpenSpec.ofChange fnNoLoopSpec)) fnNoLoopCard

/-- THE TIED CARD OF 'laws.FnMoveAll'. -/
def fnMoveAllCard : Claim7 := { stood := { row := fnMoveAllRow, standIns := [], harness := (true, "05e51009c0bec8d8d35deb79e81af090818f8d02cc4b5bce3a1d080efdde1e4f"), looks := true }, kinds := [], alts := [], laidByText := true, laidKinds := [.data], laidTests := true, laidLooks := .later }
def FnMoveAllCardSaid : Prop := Claim7.holds Tryd.pinned (.plain (OpenSpec.ofChange fnMoveAllSpec)) fnMoveAllCard

/-- THE SECOND FORM's CARD OF 'laws.FnExactOpDo'. -/
def fnExactOpDoUptoCard : Claim7 := { stood := { row := fnExactOpDoUptoRow, standIns := [], harness := (true, "05e51009c0bec8d8d35deb79e81af090818f8d02cc4b5bce3a1d080efdde1e4f"), looks := true }, kinds := [], alts := [], laidByText := true, laidKinds := [.data], laidTests := true, laidLooks := .later }
def FnExactOpDoUptoCardSaid : Prop := Claim7.holds Tryd.pinned (.plain (OpenSpec.upto fnExactOpDoSpec)) fnExactOpDoUptoCard

/-- THE SECOND FORM's CARD OF 'laws.FnDoTwice'. -/
def fnDoTwiceUptoCard : Claim7 := { stood := { row := fnDoTwiceUptoRow, standIns := [], harness := (true, "05e51009c0bec8d8d35deb79e81af090818f8d02cc4b5bce3a1d080efdde1e4f"), looks := true }, kinds := [], alts := [], laidByText := true, laidKinds := [.data], laidTests := true, laidLooks := .later }
def FnDoTwiceUptoCardSaid : Prop := Claim7.holds Tryd.pinned (.plain (OpenSpec.upto fnDoTwiceSpec)) fnDoTwiceUptoCard

/-- THE SECOND FORM's CARD OF 'laws.FnMoveTwo'. -/
def fnMoveTwoUptoCard : Claim7 := { stood := { row := fnMoveTwoUptoRow, standIns := [], harness := (true, "05e51009c0bec8d8d35deb79e81af090818f8d02cc4b5bce3a1d080efdde1e4f"), looks := true }, kinds := [], alts := [], laidByText := true, laidKinds := [.data], laidTests := true, laidLooks := .later }
def FnMoveTwoUptoCardSaid : Prop := Claim7.holds Tryd.pinned (.plain (OpenSpec.upto fnMoveTwoSpec)) fnMoveTwoUptoCard

/-- THE SECOND FORM's CARD OF 'laws.FnRootsStay'. -/
def fnRootsStayUptoCard : Claim7 := { stood := { row := fnRootsStayUptoRow, standIns := [], harness := (true, "05e51009c0bec8d8d35deb79e81af090818f8d02cc4b5bce3a1d080efdde1e4f"), looks := true }, kinds := [], alts := [], laidByText := true, laidKinds := [.data], laidTests := true, laidLooks := .later }
def FnRootsStayUptoCardSaid : Prop := Claim7.holds Tryd.pinned (.plain (OpenSpec.upto fnRootsStaySpec)) fnRootsStayUptoCard

/-- THE SECOND FORM's CARD OF 'laws.FnTextTwo'. -/
def fnTextTwoUptoCard : Claim7 := { stood := { row := fnTextTwoUptoRow, standIns := [], harness := (true, "05e51009c0bec8d8d35deb79e81af090818f8d02cc4b5bce3a1d080efdde1e4f"), looks := true }, kinds := [], alts := [], laidByText := true, laidKinds := [.data], laidTests := true, laidLooks := .later }
def FnTextTwoUptoCardSaid : Prop := Claim7.holds Tryd.pinned (.plain (OpenSpec.upto fnTextTwoSpec)) fnTextTwoUptoCard

/-- THE SECOND FORM's CARD OF 'laws.FnDoTexts'. -/
def fnDoTextsUptoCard : Claim7 := { stood := { row := fnDoTextsUptoRow, standIns := [], harness := (true, "05e51009c0bec8d8d35deb79e81af090818f8d02cc4b5bce3a1d080efdde1e4f"), looks := true }, kinds := [], alts := [], laidByText := true, laidKinds := [.data], laidTests := true, laidLooks := .later }
def FnDoTextsUptoCardSaid : Prop := Claim7.holds Tryd.pinned (.plain (OpenSpec.upto fnDoTextsSpec)) fnDoTextsUptoCard

/-- THE SECOND FORM's CARD OF 'laws.FnMakeMove'. -/
def fnMakeMoveUptoCard : Claim7 := { stood := { row := fnMakeMoveUptoRow, standIns := [], harness := (true, "05e51009c0bec8d8d35deb79e81af090818f8d02cc4b5bce3a1d080efdde1e4f"), looks := true }, kinds := [], alts := [], laidByText := true, laidKinds := [.data], laidTests := true, laidLooks := .later }
def FnMakeMoveUptoCardSaid : Prop := Claim7.holds Tryd.pinned (.plain (OpenSpec.upto fnMakeMoveSpec)) fnMakeMoveUptoCard

/-- THE SECOND FORM's CARD OF 'laws.FnTextOnly'. -/
def fnTextOnlyUptoCard : Claim7 := { stood := { row := fnTextOnlyUptoRow, standIns := [], harness := (true, "05e51009c0bec8d8d35deb79e81af090818f8d02cc4b5bce3a1d080efdde1e4f"), looks := true }, kinds := [], alts := [], laidByText := true, laidKinds := [.data], laidTests := true, laidLooks := .later }
def FnTextOnlyUptoCardSaid : Prop := Claim7.holds Tryd.pinned (.plain (OpenSpec.upto fnTextOnlySpec)) fnTextOnlyUptoCard

/-- THE SECOND FORM's CARD OF 'laws.FnDoOk'. -/
def fnDoOkUptoCard : Claim7 := { stood := { row := fnDoOkUptoRow, standIns := [], harness := (true, "05e51009c0bec8d8d35deb79e81af090818f8d02cc4b5bce3a1d080efdde1e4f"), looks := true }, kinds := [], alts := [], laidByText := true, laidKinds := [.data], laidTests := true, laidLooks := .later }
def FnDoOkUptoCardSaid : Prop := Claim7.holds Tryd.pinned (.plain (OpenSpec.upto fnDoOkSpec)) fnDoOkUptoCard

/-- THE SECOND FORM's CARD OF 'laws.FnMakeOnce'. -/
def fnMakeOnceUptoCard : Claim7 := { stood := { row := fnMakeOnceUptoRow, standIns := [], harness := (true, "05e51009c0bec8d8d35deb79e81af090818f8d02cc4b5bce3a1d080efdde1e4f"), looks := true }, kinds := [], alts := [], laidByText := true, laidKinds := [.data], laidTests := true, laidLooks := .later }
def FnMakeOnceUptoCardSaid : Prop := Claim7.holds Tryd.pinned (.plain (OpenSpec.upto fnMakeOnceSpec)) fnMakeOnceUptoCard

/-- THE SECOND FORM's CARD OF 'laws.FnNoLoop'. -/
def fnNoLoopUptoCard : Claim7 := { stood := { row := fnNoLoopUptoRow, standIns := [], harness := (true, "05e51009c0bec8d8d35deb79e81af090818f8d02cc4b5bce3a1d080efdde1e4f"), looks := true }, kinds := [], alts := [], laidByText := true, laidKinds := [.data], laidTests := true, laidLooks := .later }
def FnNoLoopUptoCardSaid : Prop := Claim7.holds Tryd.pinned (.plain (OpenSpec.upto fnNoLoopSpec)) fnNoLoopUptoCard

/-- THE SECOND FORM's CARD OF 'laws.FnMoveAll'. -/
def fnMoveAllUptoCard : Claim7 := { stood := { row := fnMoveAllUptoRow, standIns := [], harness := (true, "05e51009c0bec8d8d35deb79e81af090818f8d02cc4b5bce3a1d080efdde1e4f"), looks := true }, kinds := [], alts := [], laidByText := true, laidKinds := [.data], laidTests := true, laidLooks := .later }
def FnMoveAllUptoCardSaid : Prop := Claim7.holds Tryd.pinned (.plain (OpenSpec.upto fnMoveAllSpec)) fnMoveAllUptoCard
end Rows
end Go.Proofs.YtkopimbbgckcnaaDoor
