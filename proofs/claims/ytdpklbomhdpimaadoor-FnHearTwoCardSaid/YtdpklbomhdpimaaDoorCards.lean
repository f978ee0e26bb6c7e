/-
  DERIVED. GIVEN WITH THE SEED: THE CARDS: each row of YtdpklbomhdpimaaDoorRows.lean that lists a variable, with what it lists TIED to the program's text (the seventh form; the later family's looks); each row that meets fmt, with fmt's text TOLD by the authors' own Lean function (tested against real Go, not proved from fmt's source: count such statements apart). THE CARD IS WHAT COUNTS. Prove the row's statement (the work); the ties are given (YtdpklbomhdpimaaDoorTie.lean); close each card by the builder's one call (the guide's Derived/Test/ToyasCard.lean, 'card_holds'). Laid BY PROGRAM, IN A SANDBOX (cutbox-door.mjs). By AI agents, Wed Nov 11 2026. No macro, syntax, notation, axiom, sorry.
-/
import Derived.Test.YtdpklbomhdpimaaDoorRows
import GoSem.ClaimSeven
namespace Go.Proofs.YtdpklbomhdpimaaDoor
namespace Rows

/-- THE TIED CARD OF 'laws.FnServerForm'. -/
def fnServerFormCard : Claim7 := { stood := { row := fnServerFormRow, standIns := [], harness := (true, "7cf51d42195f9c9b62136c7a8c7100de8c719db44b2d768f6f24e257b781f613"), looks := true }, kinds := [], alts := [], laidByText := true, laidKinds := [.data], laidTests := true, laidLooks := .later }
def FnServerFormCardSaid : Prop := Claim7.holds Tryd.pinned (.plain (OpenSpec.ofChange fnServerFormSpec)) fnServerFormCard

/-- THE TIED CARD OF 'laws.FnExactServerHear'. -/
def fnExactServerHearCard : Claim7 := { stood := { row := fnExactServerHearRow, standIns := [], harness := (true, "7cf51d42195f9c9b62136c7a8c7100de8c719db44b2d768f6f24e257b781f613"), looks := true }, kinds := [], alts := [], laidByText := true, laidKinds := [.data], laidTests := true, laidLooks := .later }
def FnExactServerHearCardSaid : Prop := Claim7.holds Tryd.pinned (.plain (OpenSpec.ofChange fnExactServerHearSpec)) fnExactServerHearCard

/-- THE TIED CARD OF 'laws.FnHear'. -/
def fnHearCard : Claim7 := { stood := { row := fnHearRow, standIns := [], harness := (true, "7cf51d42195f9c9b62136c7a8c7100de8c719db44b2d768f6f24e257b781f613"), looks := true }, kinds := [], alts := [], laidByText := true, laidKinds := [.data], laidTests := true, laidLooks := .later }
def FnHearCardSaid : Prop := Claim7.holds Tryd.pinned (.plain (OpenSpec.ofChange fnHearSpec)) fnHearCard

/-- THE TIED CARD OF 'laws.FnHearTwo'. -/
def fnHearTwoCard : Claim7 := { stood := { row := fnHearTwoRow, standIns := [], harness := (true, "7cf51d42195f9c9b62136c7a8c7100de8c719db44b2d768f6f24e257b781f613"), looks := true }, kinds := [], alts := [], laidByText := true, laidKinds := [.data], laidTests := true, laidLooks := .later }
def FnHearTwoCardSaid : Prop := Claim7.holds Tryd.pinned (.plain (OpenSpec.ofChange fnHearTwoSpec)) fnHearTwoCard

/-- THE TIED CARD OF 'laws.FnHearAgain'. -/
def fnHearAgainCard : Claim7 := { stood := { row := fnHearAgainRow, standIns := [], harness := (true, "7cf51d42195f9c9b62136c7a8c7100de8c719db44b2d768f6f24e257b781f613"), looks := true }, kinds := [], alts := [], laidByText := true, laidKinds := [.data], laidTests := true, laidLooks := .later }
def FnHearAgainCardSaid : Prop := Claim7.holds Tryd.pinned (.plain (OpenSpec.ofChange fnHearAgainSpec)) fnHearAgainCard

/-- THE TIED CARD OF 'laws.FnTreeMore'. -/
def fnTreeMoreCard : Claim7 := { stood := { row := fnTreeMoreRow, standIns := [], harness := (true, "7cf51d42195f9c9b62136c7a8c7100de8c719db44b2d768f6f24e257b781f613"), looks := true }, kinds := [], alts := [], laidByText := true, laidKinds := [.data], laidTests := true, laidLooks := .later }
def FnTreeMoreCardSaid : Prop := Claim7.holds Tryd.pinned (.plain (OpenSpec.ofChange fnTreeMoreSpec)) fnTreeMoreCard

/-- THE TIED CARD OF 'laws.FnLogCut'. -/
def fnLogCutCard : Claim7 := { stood := { row := fnLogCutRow, standIns := [], harness := (true, "7cf51d42195f9c9b62136c7a8c7100de8c719db44b2d768f6f24e257b781f613"), looks := true }, kinds := [], alts := [], laidByText := true, laidKinds := [.data], laidTests := true, laidLooks := .later }
def FnLogCutCardSaid : Prop := Claim7.holds Tryd.pinned (.plain (OpenSpec.ofChange fnLogCutSpec)) fnLogCutCard

/-- THE TIED CARD OF 'laws.FnLogTree'. -/
def fnLogTreeCard : Claim7 := { stood := { row := fnLogTreeRow, standIns := [], harness := (true, "7cf51d42195f9c9b62136c7a8c7100de8c719db44b2d768f6f24e257b781f613"), looks := true }, kinds := [], alts := [], laidByText := true, laidKinds := [.data], laidTests := true, laidLooks := .later }
def FnLogTreeCardSaid : Prop := Claim7.holds Tryd.pinned (.plain (OpenSpec.ofChange fnLogTreeSpec)) fnLogTreeCard

/-- THE TIED CARD OF 'laws.FnExactLogTree'. -/
def fnExactLogTreeCard : Claim7 := { stood := { row := fnExactLogTreeRow, standIns := [], harness := (true, "7cf51d42195f9c9b62136c7a8c7100de8c719db44b2d768f6f24e257b781f613"), looks := true }, kinds := [], alts := [], laidByText := true, laidKinds := [.data], laidTests := true, laidLooks := .later }
def FnExactLogTreeCardSaid : Prop := Claim7.holds Tryd.pinned (.plain (OpenSpec.ofChange fnExactLogTreeSpec)) fnExactLogTreeCard

/-- THE TIED CARD OF 'laws.FnClientNew'. -/
def fnClientNewCard : Claim7 := { stood := { row := fnClientNewRow, standIns := [], harness := (true, "7cf51d42195f9c9b62136c7a8c7100de8c719db44b2d768f6f24e257b781f613"), looks := true }, kinds := [], alts := [], laidByText := true, laidKinds := [.data], laidTests := true, laidLooks := .later }
def FnClientNewCardSaid : Prop := Claim7.holds Tryd.pinned (.plain (OpenSpec.ofChange fnClientNewSpec)) fnClientNewCard

/-- THE TIED CARD OF 'laws.FnExactClientOk'. -/
def fnExactClientOkCard : Claim7 := { stood := { row := fnExactClientOkRow, standIns := [], harness := (true, "7cf51d42195f9c9b62136c7a8c7100de8c719db44b2d768f6f24e257b781f613"), looks := true }, kinds := [], alts := [], laidByText := true, laidKinds := [.data], laidTests := true, laidLooks := .later }
def FnExactClientOkCardSaid : Prop := Claim7.holds Tryd.pinned (.plain (OpenSpec.ofChange fnExactClientOkSpec)) fnExactClientOkCard

/-- THE TIED CARD OF 'laws.FnExactClientDo'. -/
def fnExactClientDoCard : Claim7 := { stood := { row := fnExactClientDoRow, standIns := [], harness := (true, "7cf51d42195f9c9b62136c7a8c7100de8c719db44b2d768f6f24e257b781f613"), looks := true }, kinds := [], alts := [], laidByText := true, laidKinds := [.data], laidTests := true, laidLooks := .later }
def FnExactClientDoCardSaid : Prop := Claim7.holds Tryd.pinned (.plain (OpenSpec.ofChange fnExactClientDoSpec)) fnExactClientDoCard

/-- THE SECOND FORM's CARD OF 'laws.FnServerForm'. -/
def fnServerFormUptoCard : Claim7 := { stood := { row := fnServerFormUptoRow, standIns := [], harness := (true, "7cf51d42195f9c9b62136c7a8c7100de8c719db44b2d768f6f24e257b781f613"), looks := true }, kinds := [], alts := [], laidByText := true, laidKinds := [.data], laidTests := true, laidLooks := .later }
def FnServerFormUptoCardSaid : Prop := Claim7.holds Tryd.pinned (.plain (OpenSpec.upto fnServerFormSpec)) fnServerFormUptoCard

/-- THE SECOND FORM's CARD OF 'laws.FnExactServerHear'. -/
def fnExactServerHearUptoCard : Claim7 := { stood := { row := fnExactServerHearUptoRow, standIns := [], harness := (true, "7cf51d42195f9c9b62136c7a8c7100de8c719db44b2d768f6f24e257b781f613"), looks := true }, kinds := [], alts := [], laidByText := true, laidKinds := [.data], laidTests := true, laidLooks := .later }
def FnExactServerHearUptoCardSaid : Prop := Claim7.holds Tryd.pinned (.plain (OpenSpec.upto fnExactServerHearSpec)) fnExactServerHearUptoCard

/-- THE SECOND FORM's CARD OF 'laws.FnHear'. -/
def fnHearUptoCard : Claim7 := { stood := { row := fnHearUptoRow, standIns := [], harness := (true, "7cf51d42195f9c9b62136c7a8c7100de8c719db44b2d768f6f24e257b781f613"), looks := true }, kinds := [], alts := [], laidByText := true, laidKinds := [.data], laidTests := true, laidLooks := .later }
def FnHearUptoCardSaid : Prop := Claim7.holds Tryd.pinned (.plain (OpenSpec.upto fnHearSpec)) fnHearUptoCard

/-- THE SECOND FORM's CARD OF 'laws.FnHearTwo'. -/
def fnHearTwoUptoCard : Claim7 := { stood := { row := fnHearTwoUptoRow, standIns := [], harness := (true, "7cf51d42195f9c9b62136c7a8c7100de8c719db44b2d768f6f24e257b781f613"), looks := true }, kinds := [], alts := [], laidByText := true, laidKinds := [.data], laidTests := true, laidLooks := .later }
def FnHearTwoUptoCardSaid : Prop := Claim7.holds Tryd.pinned (.plain (OpenSpec.upto fnHearTwoSpec)) fnHearTwoUptoCard

/-- THE SECOND FORM's CARD OF 'laws.FnHearAgain'. -/
def fnHearAgainUptoCard : Claim7 := { stood := { row := fnHearAgainUptoRow, standIns := [], harness := (true, "7cf51d42195f9c9b62136c7a8c7100de8c719db44b2d768f6f24e257b781f613"), looks := true }, kinds := [], alts := [], laidByText := true, laidKinds := [.data], laidTests := true, laidLooks := .later }
def FnHearAgainUptoCardSaid : Prop := Claim7.holds Tryd.pinned (.plain (OpenSpec.upto fnHearAgainSpec)) fnHearAgainUptoCard

/-- THE SECOND FORM's CARD OF 'laws.FnTreeMore'. -/
def fnTreeMoreUptoCard : Claim7 := { stood := { row := fnTreeMoreUptoRow, standIns := [], harness := (true, "7cf51d42195f9c9b62136c7a8c7100de8c719db44b2d768f6f24e257b781f613"), looks := true }, kinds := [], alts := [], laidByText := true, laidKinds := [.data], laidTests := true, laidLooks := .later }
def FnTreeMoreUptoCardSaid : Prop := Claim7.holds Tryd.pinned (.plain (OpenSpec.upto fnTreeMoreSpec)) fnTreeMoreUptoCard

/-- THE SECOND FORM's CARD OF 'laws.FnLogCut'. -/
def fnLogCutUptoCard : Claim7 := { stood := { row := fnLogCutUptoRow, standIns := [], harness := (true, "7cf51d42195f9c9b62136c7a8c7100de8c719db44b2d768f6f24e257b781f613"), looks := true }, kinds := [], alts := [], laidByText := true, laidKinds := [.data], laidTests := true, laidLooks := .later }
def FnLogCutUptoCardSaid : Prop := Claim7.holds Tryd.pinned (.plain (OpenSpec.upto fnLogCutSpec)) fnLogCutUptoCard

/-- THE SECOND FORM's CARD OF 'laws.FnLogTree'. -/
def fnLogTreeUptoCard : Claim7 := { stood := { row := fnLogTreeUptoRow, standIns := [], harness := (true, "7cf51d42195f9c9b62136c7a8c7100de8c719db44b2d768f6f24e257b781f613"), looks := true }, kinds := [], alts := [], laidByText := true, laidKinds := [.data], laidTests := true, laidLooks := .later }
def FnLogTreeUptoCardSaid : Prop := Claim7.holds Tryd.pinned (.plain (OpenSpec.upto fnLogTreeSpec)) fnLogTreeUptoCard

/-- THE SECOND FORM's CARD OF 'laws.FnExactLogTree'. -/
def fnExactLogTreeUptoCard : Claim7 := { stood := { row := fnExactLogTreeUptoRow, standIns := [], harness := (true, "7cf51d42195f9c9b62136c7a8c7100de8c719db44b2d768f6f24e257b781f613"), looks := true }, kinds := [], alts := [], laidByText := true, laidKinds := [.data], laidTests := true, laidLooks := .later }
def FnExactLogTreeUptoCardSaid : Prop := Claim7.holds Tryd.pinned (.plain (OpenSpec.upto fnExactLogTreeSpec)) fnExactLogTreeUptoCard

/-- THE SECOND FORM's CARD OF 'laws.FnClientNew'. -/
def fnClientNewUptoCard : Claim7 := { stood := { row := fnClientNewUptoRow, standIns := [], harness := (true, "7cf51d42195f9c9b62136c7a8c7100de8c719db44b2d768f6f24e257b781f613"), looks := true }, kinds := [], alts := [], laidByText := true, laidKinds := [.data], laidTests := true, laidLooks := .later }
def FnClientNewUptoCardSaid : Prop := Claim7.holds Tryd.pinned (.plain (OpenSpec.upto fnClientNewSpec)) fnClientNewUptoCard

/-- THE SECOND FORM's CARD OF 'laws.FnExactClientOk'. -/
def fnExactClientOkUptoCard : Claim7 := { stood := { row := fnExactClientOkUptoRow, standIns := [], harness := (true, "7cf51d42195f9c9b62136c7a8c7100de8c719db44b2d768f6f24e257b781f613"), looks := true }, kinds := [], alts := [], laidByText := true, laidKinds := [.data], laidTests := true, laidLooks := .later }
def FnExactClientOkUptoCardSaid : Prop := Claim7.holds Tryd.pinned (.plain (OpenSpec.upto fnExactClientOkSpec)) fnExactClientOkUptoCard

/-- THE SECOND FORM's CARD OF 'laws.FnExactClientDo'. -/
def fnExactClientDoUptoCard : Claim7 := { stood := { row := fnExactClientDoUptoRow, standIns := [], harness := (true, "7cf51d42195f9c9b62136c7a8c7100de8c719db44b2d768f6f24e257b781f613"), looks := true }, kinds := [], alts := [], laidByText := true, laidKinds := [.data], laidTests := true, laidLooks := .later }
def FnExactClientDoUptoCardSaid : Prop := Claim7.holds Tryd.pinned (.plain (OpenSpec.upto fnExactClientDoSpec)) fnExactClientDoUptoCard
end Rows
end Go.Proofs.YtdpklbomhdpimaaDoor
