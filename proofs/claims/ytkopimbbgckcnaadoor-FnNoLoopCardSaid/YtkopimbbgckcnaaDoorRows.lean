/-
  NARROWER THAN 'FOR EVERY INPUT', by the rows' own cells (each row's printed sentence says how): FnExactOpDo: laid · FnDoTwice: laid · FnMoveTwo: laid · FnRootsStay: laid · FnTextTwo: laid · FnDoTexts: laid · FnMakeMove: laid · FnTextOnly: laid · FnDoOk: laid · FnMakeOnce: laid · FnNoLoop: laid · FnMoveAll: laid.
  DERIVED. THE GIVEN ROWS OF THIS SEAT. 12 by the template 'for every input the law returns true; each argument reads behind the call as it read before'; 0 by the template 'total and deterministic' (their statements: YtkopimbbgckcnaaDoorTotals.lean).
  GIVEN WITH THE SEED: the statements are not yours to turn. If you find one false, say at which input.
  Laid BY PROGRAM, IN A SANDBOX (cutbox-rows.mjs): the forced cells as the released guide's own fill.sh prints them over the translation 81b43819794ca592… (all of the seat's roots in one cut). By AI agents, Wed Nov 11 2026. No macro, syntax, notation, axiom, sorry.
-/
import Derived.Test.YtkopimbbgckcnaaDoorChecked
import GoSem.Claim
import GoSem.ClaimJoined
import GoSem.ClaimMapViews
import Derived.JoinedTies
import Derived.KernelRfl
namespace Go.Proofs.YtkopimbbgckcnaaDoor
/- THE CELL 'sum', in the pinned program and in every row, IS THE sha256 OF THE DUMP (.gsa) THAT YtkopimbbgckcnaaDoorProg.lean LOADS. Nothing in Lean hashes anything: it is a label: what it is worth is what the hold of that sum in a sandbox is worth. -/
noncomputable def Tryd.pinned : Pinned := { name := "ytkopimbbgckcnaadoor", sum := "81b43819794ca5924d2efa41628a1d74526531eb6f6549481102e299624678d1", checked := Tryd.checked }
namespace Rows
def none {H : Type} : Left H := { results := [], args := [] }

/- WHAT THE LISTED PACKAGE-LEVEL VARIABLES READ AS WHEN THE CALL BEGINS. Each datum BY PROGRAM (the guide's laid-datum.mjs) off the statement by which the dump's own 'gosem.cut.vars' lays the variable. In a bare row this is a premise. The card (YtkopimbbgckcnaaDoorCards.lean) ties it to the program's text. -/
def laid_loop_example_plashet_impl_rowOwners {H : Type} : DataW H := .agg [.lit (.int .i64 0), .lit (.int .i64 1), .lit (.int .i64 1), .lit (.int .i64 1), .lit (.int .i64 0), .lit (.int .i64 0), .lit (.int .i64 0), .lit (.int .i64 0), .lit (.int .i64 0), .lit (.int .i64 0), .lit (.int .i64 0), .lit (.int .i64 2), .lit (.int .i64 2), .lit (.int .i64 2), .lit (.int .i64 2), .lit (.int .i64 2), .lit (.int .i64 2), .lit (.int .i64 0), .lit (.int .i64 0), .lit (.int .i64 0), .lit (.int .i64 0), .lit (.int .i64 3), .lit (.int .i64 3), .lit (.int .i64 3), .lit (.int .i64 3), .lit (.int .i64 3), .lit (.int .i64 3), .lit (.int .i64 0), .lit (.int .i64 0), .lit (.int .i64 0), .lit (.int .i64 0), .lit (.int .i64 4), .lit (.int .i64 4), .lit (.int .i64 4), .lit (.int .i64 4), .lit (.int .i64 4), .lit (.int .i64 4)]

/-- 'laws.FnExactOpDo': WHATEVER THE INPUT: true; the input reads as it did. -/
def fnExactOpDoSpec : ChangeSpec := { name := "fnExactOpDo", vars := ["loop.example/plashet/impl.rowOwners"], fn := fun _ => fun
  | [d1, d2, g1] => { results := [.lit (.bool true)], args := [d1, d2], vars := [g1] }
  | _ => none }
def fnExactOpDoRow : OpenClaim := { program := "ytkopimbbgckcnaadoor", sum := "81b43819794ca5924d2efa41628a1d74526531eb6f6549481102e299624678d1", func := "loop.example/plashet/laws.FnExactOpDo", spec := "fnExactOpDo", unfollowed := true, recurses := true, named := ["loop.example/plashet/impl.rowOwners"], apart := false, laid := [("loop.example/plashet/impl.rowOwners", laid_loop_example_plashet_impl_rowOwners)] }
def FnExactOpDoSaid : Prop := fnExactOpDoRow.holds Tryd.pinned (OpenSpec.ofChange fnExactOpDoSpec)

/-- ITS FALSE NEIGHBOUR: 'it returns false'. Refute it at one input. -/
def fnExactOpDoWrong : ChangeSpec := { name := "fnExactOpDo", vars := ["loop.example/plashet/impl.rowOwners"], fn := fun _ => fun
  | [d1, d2, g1] => { results := [.lit (.bool false)], args := [d1, d2], vars := [g1] }
  | _ => none }
def FnExactOpDoWrongFalsely : Prop := fnExactOpDoRow.holds Tryd.pinned (OpenSpec.ofChange fnExactOpDoWrong)

/-- 'laws.FnDoTwice': WHATEVER THE INPUT: true; the input reads as it did. -/
def fnDoTwiceSpec : ChangeSpec := { name := "fnDoTwice", vars := ["loop.example/plashet/impl.rowOwners"], fn := fun _ => fun
  | [d, g1] => { results := [.lit (.bool true)], args := [d], vars := [g1] }
  | _ => none }
def fnDoTwiceRow : OpenClaim := { program := "ytkopimbbgckcnaadoor", sum := "81b43819794ca5924d2efa41628a1d74526531eb6f6549481102e299624678d1", func := "loop.example/plashet/laws.FnDoTwice", spec := "fnDoTwice", unfollowed := true, recurses := true, named := ["loop.example/plashet/impl.rowOwners"], apart := false, laid := [("loop.example/plashet/impl.rowOwners", laid_loop_example_plashet_impl_rowOwners)] }
def FnDoTwiceSaid : Prop := fnDoTwiceRow.holds Tryd.pinned (OpenSpec.ofChange fnDoTwiceSpec)

/-- ITS FALSE NEIGHBOUR: 'it returns false'. Refute it at one input. -/
def fnDoTwiceWrong : ChangeSpec := { name := "fnDoTwice", vars := ["loop.example/plashet/impl.rowOwners"], fn := fun _ => fun
  | [d, g1] => { results := [.lit (.bool false)], args := [d], vars := [g1] }
  | _ => none }
def FnDoTwiceWrongFalsely : Prop := fnDoTwiceRow.holds Tryd.pinned (OpenSpec.ofChange fnDoTwiceWrong)

/-- 'laws.FnMoveTwo': WHATEVER THE INPUT: true; the input reads as it did. -/
def fnMoveTwoSpec : ChangeSpec := { name := "fnMoveTwo", vars := ["loop.example/plashet/impl.rowOwners"], fn := fun _ => fun
  | [d1, d2, g1] => { results := [.lit (.bool true)], args := [d1, d2], vars := [g1] }
  | _ => none }
def fnMoveTwoRow : OpenClaim := { program := "ytkopimbbgckcnaadoor", sum := "81b43819794ca5924d2efa41628a1d74526531eb6f6549481102e299624678d1", func := "loop.example/plashet/laws.FnMoveTwo", spec := "fnMoveTwo", unfollowed := true, recurses := true, named := ["loop.example/plashet/impl.rowOwners"], apart := false, laid := [("loop.example/plashet/impl.rowOwners", laid_loop_example_plashet_impl_rowOwners)] }
def FnMoveTwoSaid : Prop := fnMoveTwoRow.holds Tryd.pinned (OpenSpec.ofChange fnMoveTwoSpec)

/-- ITS FALSE NEIGHBOUR: 'it returns false'. Refute it at one input. -/
def fnMoveTwoWrong : ChangeSpec := { name := "fnMoveTwo", vars := ["loop.example/plashet/impl.rowOwners"], fn := fun _ => fun
  | [d1, d2, g1] => { results := [.lit (.bool false)], args := [d1, d2], vars := [g1] }
  | _ => none }
def FnMoveTwoWrongFalsely : Prop := fnMoveTwoRow.holds Tryd.pinned (OpenSpec.ofChange fnMoveTwoWrong)

/-- 'laws.FnRootsStay': WHATEVER THE INPUT: true; the input reads as it did. -/
def fnRootsStaySpec : ChangeSpec := { name := "fnRootsStay", vars := ["loop.example/plashet/impl.rowOwners"], fn := fun _ => fun
  | [d, g1] => { results := [.lit (.bool true)], args := [d], vars := [g1] }
  | _ => none }
def fnRootsStayRow : OpenClaim := { program := "ytkopimbbgckcnaadoor", sum := "81b43819794ca5924d2efa41628a1d74526531eb6f6549481102e299624678d1", func := "loop.example/plashet/laws.FnRootsStay", spec := "fnRootsStay", unfollowed := true, recurses := true, named := ["loop.example/plashet/impl.rowOwners"], apart := false, laid := [("loop.example/plashet/impl.rowOwners", laid_loop_example_plashet_impl_rowOwners)] }
def FnRootsStaySaid : Prop := fnRootsStayRow.holds Tryd.pinned (OpenSpec.ofChange fnRootsStaySpec)

/-- ITS FALSE NEIGHBOUR: 'it returns false'. Refute it at one input. -/
def fnRootsStayWrong : ChangeSpec := { name := "fnRootsStay", vars := ["loop.example/plashet/impl.rowOwners"], fn := fun _ => fun
  | [d, g1] => { results := [.lit (.bool false)], args := [d], vars := [g1] }
  | _ => none }
def FnRootsStayWrongFalsely : Prop := fnRootsStayRow.holds Tryd.pinned (OpenSpec.ofChange fnRootsStayWrong)

/-- 'laws.FnTextTwo': WHATEVER THE INPUT: true; the input reads as it did. -/
def fnTextTwoSpec : ChangeSpec := { name := "fnTextTwo", vars := ["loop.example/plashet/impl.rowOwners"], fn := fun _ => fun
  | [d1, d2, g1] => { results := [.lit (.bool true)], args := [d1, d2], vars := [g1] }
  | _ => none }
def fnTextTwoRow : OpenClaim := { program := "ytkopimbbgckcnaadoor", sum := "81b43819794ca5924d2efa41628a1d74526531eb6f6549481102e299624678d1", func := "loop.example/plashet/laws.FnTextTwo", spec := "fnTextTwo", unfollowed := true, recurses := true, named := ["loop.example/plashet/impl.rowOwners"], apart := false, laid := [("loop.example/plashet/impl.rowOwners", laid_loop_example_plashet_impl_rowOwners)] }
def FnTextTwoSaid : Prop := fnTextTwoRow.holds Tryd.pinned (OpenSpec.ofChange fnTextTwoSpec)

/-- ITS FALSE NEIGHBOUR: 'it returns false'. Refute it at one input. -/
def fnTextTwoWrong : ChangeSpec := { name := "fnTextTwo", vars := ["loop.example/plashet/impl.rowOwners"], fn := fun _ => fun
  | [d1, d2, g1] => { results := [.lit (.bool false)], args := [d1, d2], vars := [g1] }
  | _ => none }
def FnTextTwoWrongFalsely : Prop := fnTextTwoRow.holds Tryd.pinned (OpenSpec.ofChange fnTextTwoWrong)

/-- 'laws.FnDoTexts': WHATEVER THE INPUT: true; the input reads as it did. -/
def fnDoTextsSpec : ChangeSpec := { name := "fnDoTexts", vars := ["loop.example/plashet/impl.rowOwners"], fn := fun _ => fun
  | [d1, d2, g1] => { results := [.lit (.bool true)], args := [d1, d2], vars := [g1] }
  | _ => none }
def fnDoTextsRow : OpenClaim := { program := "ytkopimbbgckcnaadoor", sum := "81b43819794ca5924d2efa41628a1d74526531eb6f6549481102e299624678d1", func := "loop.example/plashet/laws.FnDoTexts", spec := "fnDoTexts", unfollowed := true, recurses := true, named := ["loop.example/plashet/impl.rowOwners"], apart := false, laid := [("loop.example/plashet/impl.rowOwners", laid_loop_example_plashet_impl_rowOwners)] }
def FnDoTextsSaid : Prop := fnDoTextsRow.holds Tryd.pinned (OpenSpec.ofChange fnDoTextsSpec)

/-- ITS FALSE NEIGHBOUR: 'it returns false'. Refute it at one input. -/
def fnDoTextsWrong : ChangeSpec := { name := "fnDoTexts", vars := ["loop.example/plashet/impl.rowOwners"], fn := fun _ => fun
  | [d1, d2, g1] => { results := [.lit (.bool false)], args := [d1, d2], vars := [g1] }
  | _ => none }
def FnDoTextsWrongFalsely : Prop := fnDoTextsRow.holds Tryd.pinned (OpenSpec.ofChange fnDoTextsWrong)

/-- 'laws.FnMakeMove': WHATEVER THE INPUT: true; the input reads as it did. -/
def fnMakeMoveSpec : ChangeSpec := { name := "fnMakeMove", vars := ["loop.example/plashet/impl.rowOwners"], fn := fun _ => fun
  | [d1, d2, g1] => { results := [.lit (.bool true)], args := [d1, d2], vars := [g1] }
  | _ => none }
def fnMakeMoveRow : OpenClaim := { program := "ytkopimbbgckcnaadoor", sum := "81b43819794ca5924d2efa41628a1d74526531eb6f6549481102e299624678d1", func := "loop.example/plashet/laws.FnMakeMove", spec := "fnMakeMove", unfollowed := true, recurses := true, named := ["loop.example/plashet/impl.rowOwners"], apart := false, laid := [("loop.example/plashet/impl.rowOwners", laid_loop_example_plashet_impl_rowOwners)] }
def FnMakeMoveSaid : Prop := fnMakeMoveRow.holds Tryd.pinned (OpenSpec.ofChange fnMakeMoveSpec)

/-- ITS FALSE NEIGHBOUR: 'it returns false'. Refute it at one input. -/
def fnMakeMoveWrong : ChangeSpec := { name := "fnMakeMove", vars := ["loop.example/plashet/impl.rowOwners"], fn := fun _ => fun
  | [d1, d2, g1] => { results := [.lit (.bool false)], args := [d1, d2], vars := [g1] }
  | _ => none }
def FnMakeMoveWrongFalsely : Prop := fnMakeMoveRow.holds Tryd.pinned (OpenSpec.ofChange fnMakeMoveWrong)

/-- 'laws.FnTextOnly': WHATEVER THE INPUT: true; the input reads as it did. -/
def fnTextOnlySpec : ChangeSpec := { name := "fnTextOnly", vars := ["loop.example/plashet/impl.rowOwners"], fn := fun _ => fun
  | [d, g1] => { results := [.lit (.bool true)], args := [d], vars := [g1] }
  | _ => none }
def fnTextOnlyRow : OpenClaim := { program := "ytkopimbbgckcnaadoor", sum := "81b43819794ca5924d2efa41628a1d74526531eb6f6549481102e299624678d1", func := "loop.example/plashet/laws.FnTextOnly", spec := "fnTextOnly", unfollowed := true, recurses := true, named := ["loop.example/plashet/impl.rowOwners"], apart := false, laid := [("loop.example/plashet/impl.rowOwners", laid_loop_example_plashet_impl_rowOwners)] }
def FnTextOnlySaid : Prop := fnTextOnlyRow.holds Tryd.pinned (OpenSpec.ofChange fnTextOnlySpec)

/-- ITS FALSE NEIGHBOUR: 'it returns false'. Refute it at one input. -/
def fnTextOnlyWrong : ChangeSpec := { name := "fnTextOnly", vars := ["loop.example/plashet/impl.rowOwners"], fn := fun _ => fun
  | [d, g1] => { results := [.lit (.bool false)], args := [d], vars := [g1] }
  | _ => none }
def FnTextOnlyWrongFalsely : Prop := fnTextOnlyRow.holds Tryd.pinned (OpenSpec.ofChange fnTextOnlyWrong)

/-- 'laws.FnDoOk': WHATEVER THE INPUT: true; the input reads as it did. -/
def fnDoOkSpec : ChangeSpec := { name := "fnDoOk", vars := ["loop.example/plashet/impl.rowOwners"], fn := fun _ => fun
  | [d, g1] => { results := [.lit (.bool true)], args := [d], vars := [g1] }
  | _ => none }
def fnDoOkRow : OpenClaim := { program := "ytkopimbbgckcnaadoor", sum := "81b43819794ca5924d2efa41628a1d74526531eb6f6549481102e299624678d1", func := "loop.example/plashet/laws.FnDoOk", spec := "fnDoOk", unfollowed := true, recurses := true, named := ["loop.example/plashet/impl.rowOwners"], apart := false, laid := [("loop.example/plashet/impl.rowOwners", laid_loop_example_plashet_impl_rowOwners)] }
def FnDoOkSaid : Prop := fnDoOkRow.holds Tryd.pinned (OpenSpec.ofChange fnDoOkSpec)

/-- ITS FALSE NEIGHBOUR: 'it returns false'. Refute it at one input. -/
def fnDoOkWrong : ChangeSpec := { name := "fnDoOk", vars := ["loop.example/plashet/impl.rowOwners"], fn := fun _ => fun
  | [d, g1] => { results := [.lit (.bool false)], args := [d], vars := [g1] }
  | _ => none }
def FnDoOkWrongFalsely : Prop := fnDoOkRow.holds Tryd.pinned (OpenSpec.ofChange fnDoOkWrong)

/-- 'laws.FnMakeOnce': WHATEVER THE INPUT: true; the input reads as it did. -/
def fnMakeOnceSpec : ChangeSpec := { name := "fnMakeOnce", vars := ["loop.example/plashet/impl.rowOwners"], fn := fun _ => fun
  | [d, g1] => { results := [.lit (.bool true)], args := [d], vars := [g1] }
  | _ => none }
def fnMakeOnceRow : OpenClaim := { program := "ytkopimbbgckcnaadoor", sum := "81b43819794ca5924d2efa41628a1d74526531eb6f6549481102e299624678d1", func := "loop.example/plashet/laws.FnMakeOnce", spec := "fnMakeOnce", unfollowed := true, recurses := true, named := ["loop.example/plashet/impl.rowOwners"], apart := false, laid := [("loop.example/plashet/impl.rowOwners", laid_loop_example_plashet_impl_rowOwners)] }
def FnMakeOnceSaid : Prop := fnMakeOnceRow.holds Tryd.pinned (OpenSpec.ofChange fnMakeOnceSpec)

/-- ITS FALSE NEIGHBOUR: 'it returns false'. Refute it at one input. -/
def fnMakeOnceWrong : ChangeSpec := { name := "fnMakeOnce", vars := ["loop.example/plashet/impl.rowOwners"], fn := fun _ => fun
  | [d, g1] => { results := [.lit (.bool false)], args := [d], vars := [g1] }
  | _ => none }
def FnMakeOnceWrongFalsely : Prop := fnMakeOnceRow.holds Tryd.pinned (OpenSpec.ofChange fnMakeOnceWrong)

/-- 'laws.FnNoLoop': WHATEVER THE INPUT: true; the input reads as it did. -/
def fnNoLoopSpec : ChangeSpec := { name := "fnNoLoop", vars := ["loop.example/plashet/impl.rowOwners"], fn := fun _ => fun
  | [d, g1] => { results := [.lit (.bool true)], args := [d], vars := [g1] }
  | _ => none }
def fnNoLoopRow : OpenClaim := { program := "ytkopimbbgckcnaadoor", sum := "81b43819794ca5924d2efa41628a1d74526531eb6f6549481102e299624678d1", func := "loop.example/plashet/laws.FnNoLoop", spec := "fnNoLoop", unfollowed := true, recurses := true, named := ["loop.example/plashet/impl.rowOwners"], apart := false, laid := [("loop.example/plashet/impl.rowOwners", laid_loop_example_plashet_impl_rowOwners)] }
def FnNoLoopSaid : Prop := fnNoLoopRow.holds Tryd.pinned (OpenSpec.ofChange fnNoLoopSpec)

/-- ITS FALSE NEIGHBOUR: 'it returns false'. Refute it at one input. -/
def fnNoLoopWrong : ChangeSpec := { name := "fnNoLoop", vars := ["loop.example/plashet/impl.rowOwners"], fn := fun _ => fun
  | [d, g1] => { results := [.lit (.bool false)], args := [d], vars := [g1] }
  | _ => none }
def FnNoLoopWrongFalsely : Prop := fnNoLoopRow.holds Tryd.pinned (OpenSpec.ofChange fnNoLoopWrong)

/-- 'laws.FnMoveAll': WHATEVER THE INPUT: true; the input reads as it did. -/
def fnMoveAllSpec : ChangeSpec := { name := "fnMoveAll", vars := ["loop.example/plashet/impl.rowOwners"], fn := fun _ => fun
  | [d, g1] => { results := [.lit (.bool true)], args := [d], vars := [g1] }
  | _ => none }
def fnMoveAllRow : OpenClaim := { program := "ytkopimbbgckcnaadoor", sum := "81b43819794ca5924d2efa41628a1d74526531eb6f6549481102e299624678d1", func := "loop.example/plashet/laws.FnMoveAll", spec := "fnMoveAll", unfollowed := true, recurses := true, named := ["loop.example/plashet/impl.rowOwners"], apart := false, laid := [("loop.example/plashet/impl.rowOwners", laid_loop_example_plashet_impl_rowOwners)] }
def FnMoveAllSaid : Prop := fnMoveAllRow.holds Tryd.pinned (OpenSpec.ofChange fnMoveAllSpec)

/-- ITS FALSE NEIGHBOUR: 'it returns false'. Refute it at one input. -/
def fnMoveAllWrong : ChangeSpec := { name := "fnMoveAll", vars := ["loop.example/plashet/impl.rowOwners"], fn := fun _ => fun
  | [d, g1] => { results := [.lit (.bool false)], args := [d], vars := [g1] }
  | _ => none }
def FnMoveAllWrongFalsely : Prop := fnMoveAllRow.holds Tryd.pinned (OpenSpec.ofChange fnMoveAllWrong)

/- THE SECOND FORM. 'bulk': how many values and letters a reading holds, each counted each time it is reached (what is shared counts as often as it is met; a slice's spare places count too). A statement '..UptoSaid' is the law's where the arguments, and the package variables that the reading takes, are together of bulk at most 1048576: NARROWER than '..Said'. Prove '..Said' where nothing that the law and all that it calls make is longer than what came in: it says more and counts as full. Else prove '..UptoSaid'. A law counts once. -/
mutual
def uptoBulk {H : Type} : DataW H → Nat
  | .lit (.string bytes) => bytes.length + 1
  | .lit _ => 1
  | .nil => 1
  | .ptr d => uptoBulk d + 1
  | .slice elems spare => uptoBulkAll elems + uptoBulkAll spare + 1
  | .agg parts => uptoBulkAll parts + 1
  | .iface _ d => uptoBulk d + 1
  | .map entries => uptoBulkEntries entries + 1
  | .held _ => 1
def uptoBulkAll {H : Type} : List (DataW H) → Nat
  | [] => 0
  | d :: r => uptoBulk d + uptoBulkAll r
def uptoBulkEntries {H : Type} : List (Lit × DataW H) → Nat
  | [] => 0
  | x :: r => uptoBulkEntry x + uptoBulkEntries r
def uptoBulkEntry {H : Type} : Lit × DataW H → Nat
  | (.string bytes, d) => bytes.length + uptoBulk d + 1
  | (_, d) => uptoBulk d + 1
 end
def uptoSmall : (H : Type) → List (DataW H) → Bool := fun _ ds => decide (uptoBulkAll ds ≤ 1048576)
def OpenSpec.upto (s : _root_.Go.ChangeSpec) : _root_.Go.OpenSpec := { _root_.Go.OpenSpec.ofChange s with cond := some uptoSmall }

/-- 'laws.FnExactOpDo', WHERE WHAT IT READS IS OF BULK AT MOST 1048576: true; the input reads as it did. -/
def fnExactOpDoUptoRow : OpenClaim := { program := "ytkopimbbgckcnaadoor", sum := "81b43819794ca5924d2efa41628a1d74526531eb6f6549481102e299624678d1", func := "loop.example/plashet/laws.FnExactOpDo", spec := "fnExactOpDo", unfollowed := true, recurses := true, named := ["loop.example/plashet/impl.rowOwners"], apart := false, laid := [("loop.example/plashet/impl.rowOwners", laid_loop_example_plashet_impl_rowOwners)], narrowed := true }
def FnExactOpDoUptoSaid : Prop := fnExactOpDoUptoRow.holds Tryd.pinned (OpenSpec.upto fnExactOpDoSpec)

/-- 'laws.FnDoTwice', WHERE WHAT IT READS IS OF BULK AT MOST 1048576: true; the input reads as it did. -/
def fnDoTwiceUptoRow : OpenClaim := { program := "ytkopimbbgckcnaadoor", sum := "81b43819794ca5924d2efa41628a1d74526531eb6f6549481102e299624678d1", func := "loop.example/plashet/laws.FnDoTwice", spec := "fnDoTwice", unfollowed := true, recurses := true, named := ["loop.example/plashet/impl.rowOwners"], apart := false, laid := [("loop.example/plashet/impl.rowOwners", laid_loop_example_plashet_impl_rowOwners)], narrowed := true }
def FnDoTwiceUptoSaid : Prop := fnDoTwiceUptoRow.holds Tryd.pinned (OpenSpec.upto fnDoTwiceSpec)

/-- 'laws.FnMoveTwo', WHERE WHAT IT READS IS OF BULK AT MOST 1048576: true; the input reads as it did. -/
def fnMoveTwoUptoRow : OpenClaim := { program := "ytkopimbbgckcnaadoor", sum := "81b43819794ca5924d2efa41628a1d74526531eb6f6549481102e299624678d1", func := "loop.example/plashet/laws.FnMoveTwo", spec := "fnMoveTwo", unfollowed := true, recurses := true, named := ["loop.example/plashet/impl.rowOwners"], apart := false, laid := [("loop.example/plashet/impl.rowOwners", laid_loop_example_plashet_impl_rowOwners)], narrowed := true }
def FnMoveTwoUptoSaid : Prop := fnMoveTwoUptoRow.holds Tryd.pinned (OpenSpec.upto fnMoveTwoSpec)

/-- 'laws.FnRootsStay', WHERE WHAT IT READS IS OF BULK AT MOST 1048576: true; the input reads as it did. -/
def fnRootsStayUptoRow : OpenClaim := { program := "ytkopimbbgckcnaadoor", sum := "81b43819794ca5924d2efa41628a1d74526531eb6f6549481102e299624678d1", func := "loop.example/plashet/laws.FnRootsStay", spec := "fnRootsStay", unfollowed := true, recurses := true, named := ["loop.example/plashet/impl.rowOwners"], apart := false, laid := [("loop.example/plashet/impl.rowOwners", laid_loop_example_plashet_impl_rowOwners)], narrowed := true }
def FnRootsStayUptoSaid : Prop := fnRootsStayUptoRow.holds Tryd.pinned (OpenSpec.upto fnRootsStaySpec)

/-- 'laws.FnTextTwo', WHERE WHAT IT READS IS OF BULK AT MOST 1048576: true; the input reads as it did. -/
def fnTextTwoUptoRow : OpenClaim := { program := "ytkopimbbgckcnaadoor", sum := "81b43819794ca5924d2efa41628a1d74526531eb6f6549481102e299624678d1", func := "loop.example/plashet/laws.FnTextTwo", spec := "fnTextTwo", unfollowed := true, recurses := true, named := ["loop.example/plashet/impl.rowOwners"], apart := false, laid := [("loop.example/plashet/impl.rowOwners", laid_loop_example_plashet_impl_rowOwners)], narrowed := true }
def FnTextTwoUptoSaid : Prop := fnTextTwoUptoRow.holds Tryd.pinned (OpenSpec.upto fnTextTwoSpec)

/-- 'laws.FnDoTexts', WHERE WHAT IT READS IS OF BULK AT MOST 1048576: true; the input reads as it did. -/
def fnDoTextsUptoRow : OpenClaim := { program := "ytkopimbbgckcnaadoor", sum := "81b43819794ca5924d2efa41628a1d74526531eb6f6549481102e299624678d1", func := "loop.example/plashet/laws.FnDoTexts", spec := "fnDoTexts", unfollowed := true, recurses := true, named := ["loop.example/plashet/impl.rowOwners"], apart := false, laid := [("loop.example/plashet/impl.rowOwners", laid_loop_example_plashet_impl_rowOwners)], narrowed := true }
def FnDoTextsUptoSaid : Prop := fnDoTextsUptoRow.holds Tryd.pinned (OpenSpec.upto fnDoTextsSpec)

/-- 'laws.FnMakeMove', WHERE WHAT IT READS IS OF BULK AT MOST 1048576: true; the input reads as it did. -/
def fnMakeMoveUptoRow : OpenClaim := { program := "ytkopimbbgckcnaadoor", sum := "81b43819794ca5924d2efa41628a1d74526531eb6f6549481102e299624678d1", func := "loop.example/plashet/laws.FnMakeMove", spec := "fnMakeMove", unfollowed := true, recurses := true, named := ["loop.example/plashet/impl.rowOwners"], apart := false, laid := [("loop.example/plashet/impl.rowOwners", laid_loop_example_plashet_impl_rowOwners)], narrowed := true }
def FnMakeMoveUptoSaid : Prop := fnMakeMoveUptoRow.holds Tryd.pinned (OpenSpec.upto fnMakeMoveSpec)

/-- 'laws.FnTextOnly', WHERE WHAT IT READS IS OF BULK AT MOST 1048576: true; the input reads as it did. -/
def fnTextOnlyUptoRow : OpenClaim := { program := "ytkopimbbgckcnaadoor", sum := "81b43819794ca5924d2efa41628a1d74526531eb6f6549481102e299624678d1", func := "loop.example/plashet/laws.FnTextOnly", spec := "fnTextOnly", unfollowed := true, recurses := true, named := ["loop.example/plashet/impl.rowOwners"], apart := false, laid := [("loop.example/plashet/impl.rowOwners", laid_loop_example_plashet_impl_rowOwners)], narrowed := true }
def FnTextOnlyUptoSaid : Prop := fnTextOnlyUptoRow.holds Tryd.pinned (OpenSpec.upto fnTextOnlySpec)

/-- 'laws.FnDoOk', WHERE WHAT IT READS IS OF BULK AT MOST 1048576: true; the input reads as it did. -/
def fnDoOkUptoRow : OpenClaim := { program := "ytkopimbbgckcnaadoor", sum := "81b43819794ca5924d2efa41628a1d74526531eb6f6549481102e299624678d1", func := "loop.example/plashet/laws.FnDoOk", spec := "fnDoOk", unfollowed := true, recurses := true, named := ["loop.example/plashet/impl.rowOwners"], apart := false, laid := [("loop.example/plashet/impl.rowOwners", laid_loop_example_plashet_impl_rowOwners)], narrowed := true }
def FnDoOkUptoSaid : Prop := fnDoOkUptoRow.holds Tryd.pinned (OpenSpec.upto fnDoOkSpec)

/-- 'laws.FnMakeOnce', WHERE WHAT IT READS IS OF BULK AT MOST 1048576: true; the input reads as it did. -/
def fnMakeOnceUptoRow : OpenClaim := { program := "ytkopimbbgckcnaadoor", sum := "81b43819794ca5924d2efa41628a1d74526531eb6f6549481102e299624678d1", func := "loop.example/plashet/laws.FnMakeOnce", spec := "fnMakeOnce", unfollowed := true, recurses := true, named := ["loop.example/plashet/impl.rowOwners"], apart := false, laid := [("loop.example/plashet/impl.rowOwners", laid_loop_example_plashet_impl_rowOwners)], narrowed := true }
def FnMakeOnceUptoSaid : Prop := fnMakeOnceUptoRow.holds Tryd.pinned (OpenSpec.upto fnMakeOnceSpec)

/-- 'laws.FnNoLoop', WHERE WHAT IT READS IS OF BULK AT MOST 1048576: true; the input reads as it did. -/
def fnNoLoopUptoRow : OpenClaim := { program := "ytkopimbbgckcnaadoor", sum := "81b43819794ca5924d2efa41628a1d74526531eb6f6549481102e299624678d1", func := "loop.example/plashet/laws.FnNoLoop", spec := "fnNoLoop", unfollowed := true, recurses := true, named := ["loop.example/plashet/impl.rowOwners"], apart := false, laid := [("loop.example/plashet/impl.rowOwners", laid_loop_example_plashet_impl_rowOwners)], narrowed := true }
def FnNoLoopUptoSaid : Prop := fnNoLoopUptoRow.holds Tryd.pinned (OpenSpec.upto fnNoLoopSpec)

/-- 'laws.FnMoveAll', WHERE WHAT IT READS IS OF BULK AT MOST 1048576: true; the input reads as it did. -/
def fnMoveAllUptoRow : OpenClaim := { program := "ytkopimbbgckcnaadoor", sum := "81b43819794ca5924d2efa41628a1d74526531eb6f6549481102e299624678d1", func := "loop.example/plashet/laws.FnMoveAll", spec := "fnMoveAll", unfollowed := true, recurses := true, named := ["loop.example/plashet/impl.rowOwners"], apart := false, laid := [("loop.example/plashet/impl.rowOwners", laid_loop_example_plashet_impl_rowOwners)], narrowed := true }
def FnMoveAllUptoSaid : Prop := fnMoveAllUptoRow.holds Tryd.pinned (OpenSpec.upto fnMoveAllSpec)

end Rows
end Go.Proofs.YtkopimbbgckcnaaDoor
