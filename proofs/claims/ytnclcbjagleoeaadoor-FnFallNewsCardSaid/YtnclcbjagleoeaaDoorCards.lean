/-
  DERIVED. GIVEN WITH THE SEED: THE CARDS: each row of YtnclcbjagleoeaaDoorRows.lean that lists a variable, with what it lists TIED to the program's text (the seventh form; the later family's looks); each row that meets fmt, with fmt's text TOLD by the authors' own Lean function (tested against real Go, not proved from fmt's source: count such statements apart). THE CARD IS WHAT COUNTS. Prove the row's statement (the work); the ties are given (YtnclcbjagleoeaaDoorTie.lean); close each card by the builder's one call (the guide's Derived/Test/ToyasCard.lean, 'card_holds'). Laid BY PROGRAM, IN A SANDBOX (cutbox-door.mjs). By AI agents, Wed Nov 11 2026. No macro, syntax, notation, axiom, sorry.
-/
import Derived.Test.YtnclcbjagleoeaaDoorRows
import GoSem.ClaimSeven
namespace Go.Proofs.YtnclcbjagleoeaaDoor
namespace Rows

/-- THE TIED CARD OF 'laws.FnExactServerNews'. -/
def fnExactServerNewsCard : Claim7 := { stood := { row := fnExactServerNewsRow, standIns := [], harness := (true, "57cd4da34d3600158406d32b39c8655b8f1177fc2a013a7f45b784ef106e8989"), looks := false }, kinds := [], alts := [], laidByText := true, laidKinds := [.data], laidTests := true, laidLooks := .later }
def FnExactServerNewsCardSaid : Prop := Claim7.holds Tryd.pinned (.plain (OpenSpec.ofChange fnExactServerNewsSpec)) fnExactServerNewsCard

/-- THE TIED CARD OF 'laws.FnServerForm'. -/
def fnServerFormCard : Claim7 := { stood := { row := fnServerFormRow, standIns := [], harness := (true, "57cd4da34d3600158406d32b39c8655b8f1177fc2a013a7f45b784ef106e8989"), looks := false }, kinds := [], alts := [], laidByText := true, laidKinds := [.data], laidTests := true, laidLooks := .later }
def FnServerFormCardSaid : Prop := Claim7.holds Tryd.pinned (.plain (OpenSpec.ofChange fnServerFormSpec)) fnServerFormCard

/-- THE TIED CARD OF 'laws.FnExactServerFall'. -/
def fnExactServerFallCard : Claim7 := { stood := { row := fnExactServerFallRow, standIns := [], harness := (true, "57cd4da34d3600158406d32b39c8655b8f1177fc2a013a7f45b784ef106e8989"), looks := false }, kinds := [], alts := [], laidByText := true, laidKinds := [.data], laidTests := true, laidLooks := .later }
def FnExactServerFallCardSaid : Prop := Claim7.holds Tryd.pinned (.plain (OpenSpec.ofChange fnExactServerFallSpec)) fnExactServerFallCard

/-- THE TIED CARD OF 'laws.FnExactServerSync'. -/
def fnExactServerSyncCard : Claim7 := { stood := { row := fnExactServerSyncRow, standIns := [], harness := (true, "57cd4da34d3600158406d32b39c8655b8f1177fc2a013a7f45b784ef106e8989"), looks := false }, kinds := [], alts := [], laidByText := true, laidKinds := [.data], laidTests := true, laidLooks := .later }
def FnExactServerSyncCardSaid : Prop := Claim7.holds Tryd.pinned (.plain (OpenSpec.ofChange fnExactServerSyncSpec)) fnExactServerSyncCard

/-- THE TIED CARD OF 'laws.FnNews'. -/
def fnNewsCard : Claim7 := { stood := { row := fnNewsRow, standIns := [], harness := (true, "57cd4da34d3600158406d32b39c8655b8f1177fc2a013a7f45b784ef106e8989"), looks := false }, kinds := [], alts := [], laidByText := true, laidKinds := [.data], laidTests := true, laidLooks := .later }
def FnNewsCardSaid : Prop := Claim7.holds Tryd.pinned (.plain (OpenSpec.ofChange fnNewsSpec)) fnNewsCard

/-- THE TIED CARD OF 'laws.FnServerFall'. -/
def fnServerFallCard : Claim7 := { stood := { row := fnServerFallRow, standIns := [], harness := (true, "57cd4da34d3600158406d32b39c8655b8f1177fc2a013a7f45b784ef106e8989"), looks := false }, kinds := [], alts := [], laidByText := true, laidKinds := [.data], laidTests := true, laidLooks := .later }
def FnServerFallCardSaid : Prop := Claim7.holds Tryd.pinned (.plain (OpenSpec.ofChange fnServerFallSpec)) fnServerFallCard

/-- THE TIED CARD OF 'laws.FnFallNews'. -/
def fnFallNewsCard : Claim7 := { stood := { row := fnFallNewsRow, standIns := [], harness := (true, "57cd4da34d3600158406d32b39c8655b8f1177fc2a013a7f45b784ef106e8989"), looks := false }, kinds := [], alts := [], laidByText := true, laidKinds := [.data], laidTests := true, laidLooks := .later }
def FnFallNewsCardSaid : Prop := Claim7.holds Tryd.pinned (.plain (OpenSpec.ofChange fnFallNewsSpec)) fnFallNewsCard

/-- THE TIED CARD OF 'laws.FnServerSync'. -/
def fnServerSyncCard : Claim7 := { stood := { row := fnServerSyncRow, standIns := [], harness := (true, "57cd4da34d3600158406d32b39c8655b8f1177fc2a013a7f45b784ef106e8989"), looks := false }, kinds := [], alts := [], laidByText := true, laidKinds := [.data], laidTests := true, laidLooks := .later }
def FnServerSyncCardSaid : Prop := Claim7.holds Tryd.pinned (.plain (OpenSpec.ofChange fnServerSyncSpec)) fnServerSyncCard

/-- THE TIED CARD OF 'laws.FnSyncNews'. -/
def fnSyncNewsCard : Claim7 := { stood := { row := fnSyncNewsRow, standIns := [], harness := (true, "57cd4da34d3600158406d32b39c8655b8f1177fc2a013a7f45b784ef106e8989"), looks := false }, kinds := [], alts := [], laidByText := true, laidKinds := [.data], laidTests := true, laidLooks := .later }
def FnSyncNewsCardSaid : Prop := Claim7.holds Tryd.pinned (.plain (OpenSpec.ofChange fnSyncNewsSpec)) fnSyncNewsCard

/-- THE TIED CARD OF 'laws.FnExactServerHear'. -/
def fnExactServerHearCard : Claim7 := { stood := { row := fnExactServerHearRow, standIns := [], harness := (true, "57cd4da34d3600158406d32b39c8655b8f1177fc2a013a7f45b784ef106e8989"), looks := false }, kinds := [], alts := [], laidByText := true, laidKinds := [.data], laidTests := true, laidLooks := .later }
def FnExactServerHearCardSaid : Prop := Claim7.holds Tryd.pinned (.plain (OpenSpec.ofChange fnExactServerHearSpec)) fnExactServerHearCard

/-- THE TIED CARD OF 'laws.FnHear'. -/
def fnHearCard : Claim7 := { stood := { row := fnHearRow, standIns := [], harness := (true, "57cd4da34d3600158406d32b39c8655b8f1177fc2a013a7f45b784ef106e8989"), looks := false }, kinds := [], alts := [], laidByText := true, laidKinds := [.data], laidTests := true, laidLooks := .later }
def FnHearCardSaid : Prop := Claim7.holds Tryd.pinned (.plain (OpenSpec.ofChange fnHearSpec)) fnHearCard

/-- THE TIED CARD OF 'laws.FnHearTwo'. -/
def fnHearTwoCard : Claim7 := { stood := { row := fnHearTwoRow, standIns := [], harness := (true, "57cd4da34d3600158406d32b39c8655b8f1177fc2a013a7f45b784ef106e8989"), looks := false }, kinds := [], alts := [], laidByText := true, laidKinds := [.data], laidTests := true, laidLooks := .later }
def FnHearTwoCardSaid : Prop := Claim7.holds Tryd.pinned (.plain (OpenSpec.ofChange fnHearTwoSpec)) fnHearTwoCard

/-- THE TIED CARD OF 'laws.FnHearAgain'. -/
def fnHearAgainCard : Claim7 := { stood := { row := fnHearAgainRow, standIns := [], harness := (true, "57cd4da34d3600158406d32b39c8655b8f1177fc2a013a7f45b784ef106e8989"), looks := false }, kinds := [], alts := [], laidByText := true, laidKinds := [.data], laidTests := true, laidLooks := .later }
def FnHearAgainCardSaid : Prop := Claim7.holds Tryd.pinned (.plain (OpenSpec.ofChange fnHearAgainSpec)) fnHearAgainCard

/-- THE SECOND FORM's CARD OF 'laws.FnExactServerNews'. -/
def fnExactServerNewsUptoCard : Claim7 := { stood := { row := fnExactServerNewsUptoRow, standIns := [], harness := (true, "57cd4da34d3600158406d32b39c8655b8f1177fc2a013a7f45b784ef106e8989"), looks := false }, kinds := [], alts := [], laidByText := true, laidKinds := [.data], laidTests := true, laidLooks := .later }
def FnExactServerNewsUptoCardSaid : Prop := Claim7.holds Tryd.pinned (.plain (OpenSpec.upto fnExactServerNewsSpec)) fnExactServerNewsUptoCard

/-- THE SECOND FORM's CARD OF 'laws.FnServerForm'. -/
def fnServerFormUptoCard : Claim7 := { stood := { row := fnServerFormUptoRow, standIns := [], harness := (true, "57cd4da34d3600158406d32b39c8655b8f1177fc2a013a7f45b784ef106e8989"), looks := false }, kinds := [], alts := [], laidByText := true, laidKinds := [.data], laidTests := true, laidLooks := .later }
def FnServerFormUptoCardSaid : Prop := Claim7.holds Tryd.pinned (.plain (OpenSpec.upto fnServerFormSpec)) fnServerFormUptoCard

/-- THE SECOND FORM's CARD OF 'laws.FnExactServerFall'. -/
def fnExactServerFallUptoCard : Claim7 := { stood := { row := fnExactServerFallUptoRow, standIns := [], harness := (true, "57cd4da34d3600158406d32b39c8655b8f1177fc2a013a7f45b784ef106e8989"), looks := false }, kinds := [], alts := [], laidByText := true, laidKinds := [.data], laidTests := true, laidLooks := .later }
def FnExactServerFallUptoCardSaid : Prop := Claim7.holds Tryd.pinned (.plain (OpenSpec.upto fnExactServerFallSpec)) fnExactServerFallUptoCard

/-- THE SECOND FORM's CARD OF 'laws.FnExactServerSync'. -/
def fnExactServerSyncUptoCard : Claim7 := { stood := { row := fnExactServerSyncUptoRow, standIns := [], harness := (true, "57cd4da34d3600158406d32b39c8655b8f1177fc2a013a7f45b784ef106e8989"), looks := false }, kinds := [], alts := [], laidByText := true, laidKinds := [.data], laidTests := true, laidLooks := .later }
def FnExactServerSyncUptoCardSaid : Prop := Claim7.holds Tryd.pinned (.plain (OpenSpec.upto fnExactServerSyncSpec)) fnExactServerSyncUptoCard

/-- THE SECOND FORM's CARD OF 'laws.FnNews'. -/
def fnNewsUptoCard : Claim7 := { stood := { row := fnNewsUptoRow, standIns := [], harness := (true, "57cd4da34d3600158406d32b39c8655b8f1177fc2a013a7f45b784ef106e8989"), looks := false }, kinds := [], alts := [], laidByText := true, laidKinds := [.data], laidTests := true, laidLooks := .later }
def FnNewsUptoCardSaid : Prop := Claim7.holds Tryd.pinned (.plain (OpenSpec.upto fnNewsSpec)) fnNewsUptoCard

/-- THE SECOND FORM's CARD OF 'laws.FnServerFall'. -/
def fnServerFallUptoCard : Claim7 := { stood := { row := fnServerFallUptoRow, standIns := [], harness := (true, "57cd4da34d3600158406d32b39c8655b8f1177fc2a013a7f45b784ef106e8989"), looks := false }, kinds := [], alts := [], laidByText := true, laidKinds := [.data], laidTests := true, laidLooks := .later }
def FnServerFallUptoCardSaid : Prop := Claim7.holds Tryd.pinned (.plain (OpenSpec.upto fnServerFallSpec)) fnServerFallUptoCard

/-- THE SECOND FORM's CARD OF 'laws.FnFallNews'. -/
def fnFallNewsUptoCard : Claim7 := { stood := { row := fnFallNewsUptoRow, standIns := [], harness := (true, "57cd4da34d3600158406d32b39c8655b8f1177fc2a013a7f45b784ef106e8989"), looks := false }, kinds := [], alts := [], laidByText := true, laidKinds := [.data], laidTests := true, laidLooks := .later }
def FnFallNewsUptoCardSaid : Prop := Claim7.holds Tryd.pinned (.plain (OpenSpec.upto fnFallNewsSpec)) fnFallNewsUptoCard

/-- THE SECOND FORM's CARD OF 'laws.FnServerSync'. -/
def fnServerSyncUptoCard : Claim7 := { stood := { row := fnServerSyncUptoRow, standIns := [], harness := (true, "57cd4da34d3600158406d32b39c8655b8f1177fc2a013a7f45b784ef106e8989"), looks := false }, kinds := [], alts := [], laidByText := true, laidKinds := [.data], laidTests := true, laidLooks := .later }
def FnServerSyncUptoCardSaid : Prop := Claim7.holds Tryd.pinned (.plain (OpenSpec.upto fnServerSyncSpec)) fnServerSyncUptoCard

/-- THE SECOND FORM's CARD OF 'laws.FnSyncNews'. -/
def fnSyncNewsUptoCard : Claim7 := { stood := { row := fnSyncNewsUptoRow, standIns := [], harness := (true, "57cd4da34d3600158406d32b39c8655b8f1177fc2a013a7f45b784ef106e8989"), looks := false }, kinds := [], alts := [], laidByText := true, laidKinds := [.data], laidTests := true, laidLooks := .later }
def FnSyncNewsUptoCardSaid : Prop := Claim7.holds Tryd.pinned (.plain (OpenSpec.upto fnSyncNewsSpec)) fnSyncNewsUptoCard

/-- THE SECOND FORM's CARD OF 'laws.FnExactServerHear'. -/
def fnExactServerHearUptoCard : Claim7 := { stood := { row := fnExactServerHearUptoRow, standIns := [], harness := (true, "57cd4da34d3600158406d32b39c8655b8f1177fc2a013a7f45b784ef106e8989"), looks := false }, kinds := [], alts := [], laidByText := true, laidKinds := [.data], laidTests := true, laidLooks := .later }
def FnExactServerHearUptoCardSaid : Prop := Claim7.holds Tryd.pinned (.plain (OpenSpec.upto fnExactServerHearSpec)) fnExactServerHearUptoCard

/-- THE SECOND FORM's CARD OF 'laws.FnHear'. -/
def fnHearUptoCard : Claim7 := { stood := { row := fnHearUptoRow, standIns := [], harness := (true, "57cd4da34d3600158406d32b39c8655b8f1177fc2a013a7f45b784ef106e8989"), looks := false }, kinds := [], alts := [], laidByText := true, laidKinds := [.data], laidTests := true, laidLooks := .later }
def FnHearUptoCardSaid : Prop := Claim7.holds Tryd.pinned (.plain (OpenSpec.upto fnHearSpec)) fnHearUptoCard

/-- THE SECOND FORM's CARD OF 'laws.FnHearTwo'. -/
def fnHearTwoUptoCard : Claim7 := { stood := { row := fnHearTwoUptoRow, standIns := [], harness := (true, "57cd4da34d3600158406d32b39c8655b8f1177fc2a013a7f45b784ef106e8989"), looks := false }, kinds := [], alts := [], laidByText := true, laidKinds := [.data], laidTests := true, laidLooks := .later }
def FnHearTwoUptoCardSaid : Prop := Claim7.holds Tryd.pinned (.plain (OpenSpec.upto fnHearTwoSpec)) fnHearTwoUptoCard

/-- THE SECOND FORM's CARD OF 'laws.FnHearAgain'. -/
def fnHearAgainUptoCard : Claim7 := { stood := { row := fnHearAgainUptoRow, standIns := [], harness := (true, "57cd4da34d3600158406d32b39c8655b8f1177fc2a013a7f45b784ef106e8989"), looks := false }, kinds := [], alts := [], laidByText := true, laidKinds := [.data], laidTests := true, laidLooks := .later }
def FnHearAgainUptoCardSaid : Prop := Claim7.holds Tryd.pinned (.plain (OpenSpec.upto fnHearAgainSpec)) fnHearAgainUptoCard
end Rows
end Go.Proofs.YtnclcbjagleoeaaDoor
