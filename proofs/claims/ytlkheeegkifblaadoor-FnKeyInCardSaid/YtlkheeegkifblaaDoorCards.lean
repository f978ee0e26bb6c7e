/-
  DERIVED. GIVEN WITH THE SEED: THE CARDS: each row of YtlkheeegkifblaaDoorRows.lean that lists a variable, with what it lists TIED to the program's text (the seventh form; the later family's looks); each row that meets fmt, with fmt's text TOLD by the authors' own Lean function (tested against real Go, not proved from fmt's source: count such statements apart). THE CARD IS WHAT COUNTS. Prove the row's statement (the work); the ties are given (YtlkheeegkifblaaDoorTie.lean); close each card by the builder's one call (the guide's Derived/Test/ToyasCard.lean, 'card_holds'). Laid BY PROGRAM, IN A SANDBOX (cutbox-door.mjs). By AI agents, Wed Nov 11 2026. No macro, syntax, notation, axiom, sorry.
-/
import Derived.Test.YtlkheeegkifblaaDoorRows
import GoSem.ClaimSeven
namespace Go.Proofs.YtlkheeegkifblaaDoor
namespace Rows

/-- THE TIED CARD OF 'laws.FnKeyGone'. -/
def fnKeyGoneCard : Claim7 := { stood := { row := fnKeyGoneRow, standIns := [], harness := (true, "eaacb49e37206468e585e4739738b6d4558eee5b1031375a36bb2efdb5ba73e0"), looks := true }, kinds := [], alts := [], laidByText := true, laidKinds := [.data], laidTests := true, laidLooks := .later }
def FnKeyGoneCardSaid : Prop := Claim7.holds Tryd.pinned (.plain (OpenSpec.ofChange fnKeyGoneSpec)) fnKeyGoneCard

/-- THE TIED CARD OF 'laws.FnInDepth'. -/
def fnInDepthCard : Claim7 := { stood := { row := fnInDepthRow, standIns := [], harness := (true, "eaacb49e37206468e585e4739738b6d4558eee5b1031375a36bb2efdb5ba73e0"), looks := true }, kinds := [], alts := [], laidByText := true, laidKinds := [.data], laidTests := true, laidLooks := .later }
def FnInDepthCardSaid : Prop := Claim7.holds Tryd.pinned (.plain (OpenSpec.ofChange fnInDepthSpec)) fnInDepthCard

/-- THE TIED CARD OF 'laws.FnInOut'. -/
def fnInOutCard : Claim7 := { stood := { row := fnInOutRow, standIns := [], harness := (true, "eaacb49e37206468e585e4739738b6d4558eee5b1031375a36bb2efdb5ba73e0"), looks := true }, kinds := [], alts := [], laidByText := true, laidKinds := [.data], laidTests := true, laidLooks := .later }
def FnInOutCardSaid : Prop := Claim7.holds Tryd.pinned (.plain (OpenSpec.ofChange fnInOutSpec)) fnInOutCard

/-- THE TIED CARD OF 'laws.FnGoneBack'. -/
def fnGoneBackCard : Claim7 := { stood := { row := fnGoneBackRow, standIns := [], harness := (true, "eaacb49e37206468e585e4739738b6d4558eee5b1031375a36bb2efdb5ba73e0"), looks := true }, kinds := [], alts := [], laidByText := true, laidKinds := [.data], laidTests := true, laidLooks := .later }
def FnGoneBackCardSaid : Prop := Claim7.holds Tryd.pinned (.plain (OpenSpec.ofChange fnGoneBackSpec)) fnGoneBackCard

/-- THE TIED CARD OF 'laws.FnKeyOut'. -/
def fnKeyOutCard : Claim7 := { stood := { row := fnKeyOutRow, standIns := [], harness := (true, "eaacb49e37206468e585e4739738b6d4558eee5b1031375a36bb2efdb5ba73e0"), looks := true }, kinds := [], alts := [], laidByText := true, laidKinds := [.data], laidTests := true, laidLooks := .later }
def FnKeyOutCardSaid : Prop := Claim7.holds Tryd.pinned (.plain (OpenSpec.ofChange fnKeyOutSpec)) fnKeyOutCard

/-- THE TIED CARD OF 'laws.FnOutIn'. -/
def fnOutInCard : Claim7 := { stood := { row := fnOutInRow, standIns := [], harness := (true, "eaacb49e37206468e585e4739738b6d4558eee5b1031375a36bb2efdb5ba73e0"), looks := true }, kinds := [], alts := [], laidByText := true, laidKinds := [.data], laidTests := true, laidLooks := .later }
def FnOutInCardSaid : Prop := Claim7.holds Tryd.pinned (.plain (OpenSpec.ofChange fnOutInSpec)) fnOutInCard

/-- THE TIED CARD OF 'laws.FnKeyIn'. -/
def fnKeyInCard : Claim7 := { stood := { row := fnKeyInRow, standIns := [], harness := (true, "eaacb49e37206468e585e4739738b6d4558eee5b1031375a36bb2efdb5ba73e0"), looks := true }, kinds := [], alts := [], laidByText := true, laidKinds := [.data], laidTests := true, laidLooks := .later }
def FnKeyInCardSaid : Prop := Claim7.holds Tryd.pinned (.plain (OpenSpec.ofChange fnKeyInSpec)) fnKeyInCard

/-- THE TIED CARD OF 'laws.FnExactKeyBack'. -/
def fnExactKeyBackCard : Claim7 := { stood := { row := fnExactKeyBackRow, standIns := [], harness := (true, "eaacb49e37206468e585e4739738b6d4558eee5b1031375a36bb2efdb5ba73e0"), looks := true }, kinds := [], alts := [], laidByText := true, laidKinds := [.data], laidTests := true, laidLooks := .later }
def FnExactKeyBackCardSaid : Prop := Claim7.holds Tryd.pinned (.plain (OpenSpec.ofChange fnExactKeyBackSpec)) fnExactKeyBackCard

/-- THE TIED CARD OF 'laws.FnBackNot'. -/
def fnBackNotCard : Claim7 := { stood := { row := fnBackNotRow, standIns := [], harness := (true, "eaacb49e37206468e585e4739738b6d4558eee5b1031375a36bb2efdb5ba73e0"), looks := true }, kinds := [], alts := [], laidByText := true, laidKinds := [.data], laidTests := true, laidLooks := .later }
def FnBackNotCardSaid : Prop := Claim7.holds Tryd.pinned (.plain (OpenSpec.ofChange fnBackNotSpec)) fnBackNotCard

/-- THE TIED CARD OF 'laws.FnBackTwice'. -/
def fnBackTwiceCard : Claim7 := { stood := { row := fnBackTwiceRow, standIns := [], harness := (true, "eaacb49e37206468e585e4739738b6d4558eee5b1031375a36bb2efdb5ba73e0"), looks := true }, kinds := [], alts := [], laidByText := true, laidKinds := [.data], laidTests := true, laidLooks := .later }
def FnBackTwiceCardSaid : Prop := Claim7.holds Tryd.pinned (.plain (OpenSpec.ofChange fnBackTwiceSpec)) fnBackTwiceCard

/-- THE TIED CARD OF 'laws.FnKeyBack'. -/
def fnKeyBackCard : Claim7 := { stood := { row := fnKeyBackRow, standIns := [], harness := (true, "eaacb49e37206468e585e4739738b6d4558eee5b1031375a36bb2efdb5ba73e0"), looks := true }, kinds := [], alts := [], laidByText := true, laidKinds := [.data], laidTests := true, laidLooks := .later }
def FnKeyBackCardSaid : Prop := Claim7.holds Tryd.pinned (.plain (OpenSpec.ofChange fnKeyBackSpec)) fnKeyBackCard

/-- THE TIED CARD OF 'laws.FnDoWhere'. -/
def fnDoWhereCard : Claim7 := { stood := { row := fnDoWhereRow, standIns := [], harness := (true, "eaacb49e37206468e585e4739738b6d4558eee5b1031375a36bb2efdb5ba73e0"), looks := true }, kinds := [], alts := [], laidByText := true, laidKinds := [.data], laidTests := true, laidLooks := .later }
def FnDoWhereCardSaid : Prop := Claim7.holds Tryd.pinned (.plain (OpenSpec.ofChange fnDoWhereSpec)) fnDoWhereCard

/-- THE TIED CARD OF 'laws.FnWhereText'. -/
def fnWhereTextCard : Claim7 := { stood := { row := fnWhereTextRow, standIns := [], harness := (true, "eaacb49e37206468e585e4739738b6d4558eee5b1031375a36bb2efdb5ba73e0"), looks := true }, kinds := [], alts := [], laidByText := true, laidKinds := [.data], laidTests := true, laidLooks := .later }
def FnWhereTextCardSaid : Prop := Claim7.holds Tryd.pinned (.plain (OpenSpec.ofChange fnWhereTextSpec)) fnWhereTextCard

/-- THE SECOND FORM's CARD OF 'laws.FnKeyGone'. -/
def fnKeyGoneUptoCard : Claim7 := { stood := { row := fnKeyGoneUptoRow, standIns := [], harness := (true, "eaacb49e37206468e585e4739738b6d4558eee5b1031375a36bb2efdb5ba73e0"), looks := true }, kinds := [], alts := [], laidByText := true, laidKinds := [.data], laidTests := true, laidLooks := .later }
def FnKeyGoneUptoCardSaid : Prop := Claim7.holds Tryd.pinned (.plain (OpenSpec.upto fnKeyGoneSpec)) fnKeyGoneUptoCard

/-- THE SECOND FORM's CARD OF 'laws.FnInDepth'. -/
def fnInDepthUptoCard : Claim7 := { stood := { row := fnInDepthUptoRow, standIns := [], harness := (true, "eaacb49e37206468e585e4739738b6d4558eee5b1031375a36bb2efdb5ba73e0"), looks := true }, kinds := [], alts := [], laidByText := true, laidKinds := [.data], laidTests := true, laidLooks := .later }
def FnInDepthUptoCardSaid : Prop := Claim7.holds Tryd.pinned (.plain (OpenSpec.upto fnInDepthSpec)) fnInDepthUptoCard

/-- THE SECOND FORM's CARD OF 'laws.FnInOut'. -/
def fnInOutUptoCard : Claim7 := { stood := { row := fnInOutUptoRow, standIns := [], harness := (true, "eaacb49e37206468e585e4739738b6d4558eee5b1031375a36bb2efdb5ba73e0"), looks := true }, kinds := [], alts := [], laidByText := true, laidKinds := [.data], laidTests := true, laidLooks := .later }
def FnInOutUptoCardSaid : Prop := Claim7.holds Tryd.pinned (.plain (OpenSpec.upto fnInOutSpec)) fnInOutUptoCard

/-- THE SECOND FORM's CARD OF 'laws.FnGoneBack'. -/
def fnGoneBackUptoCard : Claim7 := { stood := { row := fnGoneBackUptoRow, standIns := [], harness := (true, "eaacb49e37206468e585e4739738b6d4558eee5b1031375a36bb2efdb5ba73e0"), looks := true }, kinds := [], alts := [], laidByText := true, laidKinds := [.data], laidTests := true, laidLooks := .later }
def FnGoneBackUptoCardSaid : Prop := Claim7.holds Tryd.pinned (.plain (OpenSpec.upto fnGoneBackSpec)) fnGoneBackUptoCard

/-- THE SECOND FORM's CARD OF 'laws.FnKeyOut'. -/
def fnKeyOutUptoCard : Claim7 := { stood := { row := fnKeyOutUptoRow, standIns := [], harness := (true, "eaacb49e37206468e585e4739738b6d4558eee5b1031375a36bb2efdb5ba73e0"), looks := true }, kinds := [], alts := [], laidByText := true, laidKinds := [.data], laidTests := true, laidLooks := .later }
def FnKeyOutUptoCardSaid : Prop := Claim7.holds Tryd.pinned (.plain (OpenSpec.upto fnKeyOutSpec)) fnKeyOutUptoCard

/-- THE SECOND FORM's CARD OF 'laws.FnOutIn'. -/
def fnOutInUptoCard : Claim7 := { stood := { row := fnOutInUptoRow, standIns := [], harness := (true, "eaacb49e37206468e585e4739738b6d4558eee5b1031375a36bb2efdb5ba73e0"), looks := true }, kinds := [], alts := [], laidByText := true, laidKinds := [.data], laidTests := true, laidLooks := .later }
def FnOutInUptoCardSaid : Prop := Claim7.holds Tryd.pinned (.plain (OpenSpec.upto fnOutInSpec)) fnOutInUptoCard

/-- THE SECOND FORM's CARD OF 'laws.FnKeyIn'. -/
def fnKeyInUptoCard : Claim7 := { stood := { row := fnKeyInUptoRow, standIns := [], harness := (true, "eaacb49e37206468e585e4739738b6d4558eee5b1031375a36bb2efdb5ba73e0"), looks := true }, kinds := [], alts := [], laidByText := true, laidKinds := [.data], laidTests := true, laidLooks := .later }
def FnKeyInUptoCardSaid : Prop := Claim7.holds Tryd.pinned (.plain (OpenSpec.upto fnKeyInSpec)) fnKeyInUptoCard

/-- THE SECOND FORM's CARD OF 'laws.FnExactKeyBack'. -/
def fnExactKeyBackUptoCard : Claim7 := { stood := { row := fnExactKeyBackUptoRow, standIns := [], harness := (true, "eaacb49e37206468e585e4739738b6d4558eee5b1031375a36bb2efdb5ba73e0"), looks := true }, kinds := [], alts := [], laidByText := true, laidKinds := [.data], laidTests := true, laidLooks := .later }
def FnExactKeyBackUptoCardSaid : Prop := Claim7.holds Tryd.pinned (.plain (OpenSpec.upto fnExactKeyBackSpec)) fnExactKeyBackUptoCard

/-- THE SECOND FORM's CARD OF 'laws.FnBackNot'. -/
def fnBackNotUptoCard : Claim7 := { stood := { row := fnBackNotUptoRow, standIns := [], harness := (true, "eaacb49e37206468e585e4739738b6d4558eee5b1031375a36bb2efdb5ba73e0"), looks := true }, kinds := [], alts := [], laidByText := true, laidKinds := [.data], laidTests := true, laidLooks := .later }
def FnBackNotUptoCardSaid : Prop := Claim7.holds Tryd.pinned (.plain (OpenSpec.upto fnBackNotSpec)) fnBackNotUptoCard

/-- THE SECOND FORM's CARD OF 'laws.FnBackTwice'. -/
def fnBackTwiceUptoCard : Claim7 := { stood := { row := fnBackTwiceUptoRow, standIns := [], harness := (true, "eaacb49e37206468e585e4739738b6d4558eee5b1031375a36bb2efdb5ba73e0"), looks := true }, kinds := [], alts := [], laidByText := true, laidKinds := [.data], laidTests := true, laidLooks := .later }
def FnBackTwiceUptoCardSaid : Prop := Claim7.holds Tryd.pinned (.plain (OpenSpec.upto fnBackTwiceSpec)) fnBackTwiceUptoCard

/-- THE SECOND FORM's CARD OF 'laws.FnKeyBack'. -/
def fnKeyBackUptoCard : Claim7 := { stood := { row := fnKeyBackUptoRow, standIns := [], harness := (true, "eaacb49e37206468e585e4739738b6d4558eee5b1031375a36bb2efdb5ba73e0"), looks := true }, kinds := [], alts := [], laidByText := true, laidKinds := [.data], laidTests := true, laidLooks := .later }
def FnKeyBackUptoCardSaid : Prop := Claim7.holds Tryd.pinned (.plain (OpenSpec.upto fnKeyBackSpec)) fnKeyBackUptoCard

/-- THE SECOND FORM's CARD OF 'laws.FnDoWhere'. -/
def fnDoWhereUptoCard : Claim7 := { stood := { row := fnDoWhereUptoRow, standIns := [], harness := (true, "eaacb49e37206468e585e4739738b6d4558eee5b1031375a36bb2efdb5ba73e0"), looks := true }, kinds := [], alts := [], laidByText := true, laidKinds := [.data], laidTests := true, laidLooks := .later }
def FnDoWhereUptoCardSaid : Prop := Claim7.holds Tryd.pinned (.plain (OpenSpec.upto fnDoWhereSpec)) fnDoWhereUptoCard

/-- THE SECOND FORM's CARD OF 'laws.FnWhereText'. -/
def fnWhereTextUptoCard : Claim7 := { stood := { row := fnWhereTextUptoRow, standIns := [], harness := (true, "eaacb49e37206468e585e4739738b6d4558eee5b1031375a36bb2efdb5ba73e0"), looks := true }, kinds := [], alts := [], laidByText := true, laidKinds := [.data], laidTests := true, laidLooks := .later }
def FnWhereTextUptoCardSaid : Prop := Claim7.holds Tryd.pinned (.plain (OpenSpec.upto fnWhereTextSpec)) fnWhereTextUptoCard
end Rows
end Go.Proofs.YtlkheeegkifblaaDoor
