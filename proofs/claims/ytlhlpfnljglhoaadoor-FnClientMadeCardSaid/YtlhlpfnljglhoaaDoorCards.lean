/-
  DERIVED. GIVEN WITH THE SEED: THE CARDS: each row of YtlhlpfnljglhoaaDoorRows.lean that lists a variable, with what it lists TIED to the program's text (the seventh form; the later family's looks); each row that meets fmt, with fmt's text TOLD by the authors' own Lean function (tested against real Go, not proved from fmt's source: count such statements apart). THE CARD IS WHAT COUNTS. Prove the row's statement (the work); the ties are given (YtlhlpfnljglhoaaDoorTie.lean); close each card by the builder's one call (the guide's Derived/Test/ToyasCard.lean, 'card_holds'). Laid BY PROGRAM, IN A SANDBOX (cutbox-door.mjs). By AI agents, Wed Nov 11 2026. No macro, syntax, notation, axiom, sorry.
-/
import Derived.Test.YtlhlpfnljglhoaaDoorRows
import GoSem.ClaimSeven
namespace Go.Proofs.YtlhlpfnljglhoaaDoor
namespace Rows

/-- THE TIED CARD OF 'laws.FnClientForm'. -/
def fnClientFormCard : Claim7 := { stood := { row := fnClientFormRow, standIns := [], harness := (true, "46b2604f590e9b1edcb4ba007c239a82216d81ace1e2acef235fc68e9b5cb629"), looks := false }, kinds := [], alts := [], laidByText := true, laidKinds := [.data], laidTests := true, laidLooks := .later }
def FnClientFormCardSaid : Prop := Claim7.holds Tryd.pinned (.plain (OpenSpec.ofChange fnClientFormSpec)) fnClientFormCard

/-- THE TIED CARD OF 'laws.FnClientMade'. -/
def fnClientMadeCard : Claim7 := { stood := { row := fnClientMadeRow, standIns := [], harness := (true, "46b2604f590e9b1edcb4ba007c239a82216d81ace1e2acef235fc68e9b5cb629"), looks := false }, kinds := [], alts := [], laidByText := true, laidKinds := [.data], laidTests := true, laidLooks := .later }
def FnClientMadeCardSaid : Prop := Claim7.holds Tryd.pinned (.plain (OpenSpec.ofChange fnClientMadeSpec)) fnClientMadeCard

/-- THE SECOND FORM's CARD OF 'laws.FnClientForm'. -/
def fnClientFormUptoCard : Claim7 := { stood := { row := fnClientFormUptoRow, standIns := [], harness := (true, "46b2604f590e9b1edcb4ba007c239a82216d81ace1e2acef235fc68e9b5cb629"), looks := false }, kinds := [], alts := [], laidByText := true, laidKinds := [.data], laidTests := true, laidLooks := .later }
def FnClientFormUptoCardSaid : Prop := Claim7.holds Tryd.pinned (.plain (OpenSpec.upto fnClientFormSpec)) fnClientFormUptoCard

/-- THE SECOND FORM's CARD OF 'laws.FnClientMade'. -/
def fnClientMadeUptoCard : Claim7 := { stood := { row := fnClientMadeUptoRow, standIns := [], harness := (true, "46b2604f590e9b1edcb4ba007c239a82216d81ace1e2acef235fc68e9b5cb629"), looks := false }, kinds := [], alts := [], laidByText := true, laidKinds := [.data], laidTests := true, laidLooks := .later }
def FnClientMadeUptoCardSaid : Prop := Claim7.holds Tryd.pinned (.plain (OpenSpec.upto fnClientMadeSpec)) fnClientMadeUptoCard
end Rows
end Go.Proofs.YtlhlpfnljglhoaaDoor
