/-
  NARROWER THAN 'FOR EVERY INPUT', by the rows' own cells (each row's printed sentence says how): FnKeyGone: laid · FnInDepth: laid · FnInOut: laid · FnGoneBack: laid · FnKeyOut: laid · FnOutIn: laid · FnKeyIn: laid · FnExactKeyBack: laid · FnBackNot: laid · FnBackTwice: laid · FnKeyBack: laid · FnDoWhere: laid · FnWhereText: laid.
  DERIVED. THE GIVEN ROWS OF THIS SEAT. 13 by the template 'for every input the law returns true; each argument reads behind the call as it read before'; 0 by the template 'total and deterministic' (their statements: YtlkheeegkifblaaDoorTotals.lean).
  GIVEN WITH THE SEED: the statements are not yours to turn. If you find one false, say at which input.
  Laid BY PROGRAM, IN A SANDBOX (cutbox-rows.mjs): the forced cells as the released guide's own fill.sh prints them over the translation 73fcc4a24df7991d… (all of the seat's roots in one cut). By AI agents, Wed Nov 11 2026. No macro, syntax, notation, axiom, sorry.
-/
import Derived.Test.YtlkheeegkifblaaDoorChecked
import GoSem.Claim
import GoSem.ClaimJoined
import GoSem.ClaimMapViews
import Derived.JoinedTies
import Derived.KernelRfl
namespace Go.Proofs.YtlkheeegkifblaaDoor
/- THE CELL 'sum', in the pinned program and in every row, IS THE sha256 OF THE DUMP (.gsa) THAT YtlkheeegkifblaaDoorProg.lean LOADS. Nothing in Lean hashes anything: it is a label: what it is worth is what the hold of that sum in a sandbox is worth. -/
noncomputable def Tryd.pinned : Pinned := { name := "ytlkheeegkifblaadoor", sum := "73fcc4a24df7991dae13a54c405e827a3a938d81f58cf4a2d9d9572c27a099ee", checked := Tryd.checked }
namespace Rows
def none {H : Type} : Left H := { results := [], args := [] }

/- WHAT THE LISTED PACKAGE-LEVEL VARIABLES READ AS WHEN THE CALL BEGINS. Each datum BY PROGRAM (the guide's laid-datum.mjs) off the statement by which the dump's own 'gosem.cut.vars' lays the variable. In a bare row this is a premise. The card (YtlkheeegkifblaaDoorCards.lean) ties it to the program's text. -/
def laid_loop_example_plashet_impl_rowOwners {H : Type} : DataW H := .agg [.lit (.int .i64 0), .lit (.int .i64 1), .lit (.int .i64 1), .lit (.int .i64 1), .lit (.int .i64 0), .lit (.int .i64 0), .lit (.int .i64 0), .lit (.int .i64 0), .lit (.int .i64 0), .lit (.int .i64 0), .lit (.int .i64 0), .lit (.int .i64 2), .lit (.int .i64 2), .lit (.int .i64 2), .lit (.int .i64 2), .lit (.int .i64 2), .lit (.int .i64 2), .lit (.int .i64 0), .lit (.int .i64 0), .lit (.int .i64 0), .lit (.int .i64 0), .lit (.int .i64 3), .lit (.int .i64 3), .lit (.int .i64 3), .lit (.int .i64 3), .lit (.int .i64 3), .lit (.int .i64 3), .lit (.int .i64 0), .lit (.int .i64 0), .lit (.int .i64 0), .lit (.int .i64 0), .lit (.int .i64 4), .lit (.int .i64 4), .lit (.int .i64 4), .lit (.int .i64 4), .lit (.int .i64 4), .lit (.int .i64 4)]

/-- 'laws.FnKeyGone': WHATEVER THE INPUT: true; the input reads as it did. -/
def fnKeyGoneSpec : ChangeSpec := { name := "fnKeyGone", vars := ["loop.example/plashet/impl.rowOwners"], fn := fun _ => fun
  | [d, g1] => { results := [.lit (.bool true)], args := [d], vars := [g1] }
  | _ => none }
def fnKeyGoneRow : OpenClaim := { program := "ytlkheeegkifblaadoor", sum := "73fcc4a24df7991dae13a54c405e827a3a938d81f58cf4a2d9d9572c27a099ee", func := "loop.example/plashet/laws.FnKeyGone", spec := "fnKeyGone", unfollowed := true, recurses := true, named := ["loop.example/plashet/impl.rowOwners"], apart := false, laid := [("loop.example/plashet/impl.rowOwners", laid_loop_example_plashet_impl_rowOwners)] }
def FnKeyGoneSaid : Prop := fnKeyGoneRow.holds Tryd.pinned (OpenSpec.ofChange fnKeyGoneSpec)

/-- ITS FALSE NEIGHBOUR: 'it returns false'. Refute it at one input. -/
def fnKeyGoneWrong : ChangeSpec := { name := "fnKeyGone", vars := ["loop.example/plashet/impl.rowOwners"], fn := fun _ => fun
  | [d, g1] => { results := [.lit (.bool false)], args := [d], vars := [g1] }
  | _ => none }
def FnKeyGoneWrongFalsely : Prop := fnKeyGoneRow.holds Tryd.pinned (OpenSpec.ofChange fnKeyGoneWrong)

/-- 'laws.FnInDepth': WHATEVER THE INPUT: true; the input reads as it did. -/
def fnInDepthSpec : ChangeSpec := { name := "fnInDepth", vars := ["loop.example/plashet/impl.rowOwners"], fn := fun _ => fun
  | [d, g1] => { results := [.lit (.bool true)], args := [d], vars := [g1] }
  | _ => none }
def fnInDepthRow : OpenClaim := { program := "ytlkheeegkifblaadoor", sum := "73fcc4a24df7991dae13a54c405e827a3a938d81f58cf4a2d9d9572c27a099ee", func := "loop.example/plashet/laws.FnInDepth", spec := "fnInDepth", unfollowed := true, recurses := true, named := ["loop.example/plashet/impl.rowOwners"], apart := false, laid := [("loop.example/plashet/impl.rowOwners", laid_loop_example_plashet_impl_rowOwners)] }
def FnInDepthSaid : Prop := fnInDepthRow.holds Tryd.pinned (OpenSpec.ofChange fnInDepthSpec)

/-- ITS FALSE NEIGHBOUR: 'it returns false'. Refute it at one input. -/
def fnInDepthWrong : ChangeSpec := { name := "fnInDepth", vars := ["loop.example/plashet/impl.rowOwners"], fn := fun _ => fun
  | [d, g1] => { results := [.lit (.bool false)], args := [d], vars := [g1] }
  | _ => none }
def FnInDepthWrongFalsely : Prop := fnInDepthRow.holds Tryd.pinned (OpenSpec.ofChange fnInDepthWrong)

/-- 'laws.FnInOut': WHATEVER THE INPUT: true; the input reads as it did. -/
def fnInOutSpec : ChangeSpec := { name := "fnInOut", vars := ["loop.example/plashet/impl.rowOwners"], fn := fun _ => fun
  | [d, g1] => { results := [.lit (.bool true)], args := [d], vars := [g1] }
  | _ => none }
def fnInOutRow : OpenClaim := { program := "ytlkheeegkifblaadoor", sum := "73fcc4a24df7991dae13a54c405e827a3a938d81f58cf4a2d9d9572c27a099ee", func := "loop.example/plashet/laws.FnInOut", spec := "fnInOut", unfollowed := true, recurses := true, named := ["loop.example/plashet/impl.rowOwners"], apart := false, laid := [("loop.example/plashet/impl.rowOwners", laid_loop_example_plashet_impl_rowOwners)] }
def FnInOutSaid : Prop := fnInOutRow.holds Tryd.pinned (OpenSpec.ofChange fnInOutSpec)

/-- ITS FALSE NEIGHBOUR: 'it returns false'. Refute it at one input. -/
def fnInOutWrong : ChangeSpec := { name := "fnInOut", vars := ["loop.example/plashet/impl.rowOwners"], fn := fun _ => fun
  | [d, g1] => { results := [.lit (.bool false)], args := [d], vars := [g1] }
  | _ => none }
def FnInOutWrongFalsely : Prop := fnInOutRow.holds Tryd.pinned (OpenSpec.ofChange fnInOutWrong)

/-- 'laws.FnGoneBack': WHATEVER THE INPUT: true; the input reads as it did. -/
def fnGoneBackSpec : ChangeSpec := { name := "fnGoneBack", vars := ["loop.example/plashet/impl.rowOwners"], fn := fun _ => fun
  | [d, g1] => { results := [.lit (.bool true)], args := [d], vars := [g1] }
  | _ => none }
def fnGoneBackRow : OpenClaim := { program := "ytlkheeegkifblaadoor", sum := "73fcc4a24df7991dae13a54c405e827a3a938d81f58cf4a2d9d9572c27a099ee", func := "loop.example/plashet/laws.FnGoneBack", spec := "fnGoneBack", unfollowed := true, recurses := true, named := ["loop.example/plashet/impl.rowOwners"], apart := false, laid := [("loop.example/plashet/impl.rowOwners", laid_loop_example_plashet_impl_rowOwners)] }
def FnGoneBackSaid : Prop := fnGoneBackRow.holds Tryd.pinned (OpenSpec.ofChange fnGoneBackSpec)

/-- ITS FALSE NEIGHBOUR: 'it returns false'. Refute it at one input. -/
def fnGoneBackWrong : ChangeSpec := { name := "fnGoneBack", vars := ["loop.example/plashet/impl.rowOwners"], fn := fun _ => fun
  | [d, g1] => { results := [.lit (.bool false)], args := [d], vars := [g1] }
  | _ => none }
def FnGoneBackWrongFalsely : Prop := fnGoneBackRow.holds Tryd.pinned (OpenSpec.ofChange fnGoneBackWrong)

/-- 'laws.FnKeyOut': WHATEVER THE INPUT: true; the input reads as it did. -/
def fnKeyOutSpec : ChangeSpec := { name := "fnKeyOut", vars := ["loop.example/plashet/impl.rowOwners"], fn := fun _ => fun
  | [d, g1] => { results := [.lit (.bool true)], args := [d], vars := [g1] }
  | _ => none }
def fnKeyOutRow : OpenClaim := { program := "ytlkheeegkifblaadoor", sum := "73fcc4a24df7991dae13a54c405e827a3a938d81f58cf4a2d9d9572c27a099ee", func := "loop.example/plashet/laws.FnKeyOut", spec := "fnKeyOut", unfollowed := true, recurses := true, named := ["loop.example/plashet/impl.rowOwners"], apart := false, laid := [("loop.example/plashet/impl.rowOwners", laid_loop_example_plashet_impl_rowOwners)] }
def FnKeyOutSaid : Prop := fnKeyOutRow.holds Tryd.pinned (OpenSpec.ofChange fnKeyOutSpec)

/-- ITS FALSE NEIGHBOUR: 'it returns false'. Refute it at one input. -/
def fnKeyOutWrong : ChangeSpec := { name := "fnKeyOut", vars := ["loop.example/plashet/impl.rowOwners"], fn := fun _ => fun
  | [d, g1] => { results := [.lit (.bool false)], args := [d], vars := [g1] }
  | _ => none }
def FnKeyOutWrongFalsely : Prop := fnKeyOutRow.holds Tryd.pinned (OpenSpec.ofChange fnKeyOutWrong)

/-- 'laws.FnOutIn': WHATEVER THE INPUT: true; the input reads as it did. -/
def fnOutInSpec : ChangeSpec := { name := "fnOutIn", vars := ["loop.example/plashet/impl.rowOwners"], fn := fun _ => fun
  | [d, g1] => { results := [.lit (.bool true)], args := [d], vars := [g1] }
  | _ => none }
def fnOutInRow : OpenClaim := { program := "ytlkheeegkifblaadoor", sum := "73fcc4a24df7991dae13a54c405e827a3a938d81f58cf4a2d9d9572c27a099ee", func := "loop.example/plashet/laws.FnOutIn", spec := "fnOutIn", unfollowed := true, recurses := true, named := ["loop.example/plashet/impl.rowOwners"], apart := false, laid := [("loop.example/plashet/impl.rowOwners", laid_loop_example_plashet_impl_rowOwners)] }
def FnOutInSaid : Prop := fnOutInRow.holds Tryd.pinned (OpenSpec.ofChange fnOutInSpec)

/-- ITS FALSE NEIGHBOUR: 'it returns false'. Refute it at one input. -/
def fnOutInWrong : ChangeSpec := { name := "fnOutIn", vars := ["loop.example/plashet/impl.rowOwners"], fn := fun _ => fun
  | [d, g1] => { results := [.lit (.bool false)], args := [d], vars := [g1] }
  | _ => none }
def FnOutInWrongFalsely : Prop := fnOutInRow.holds Tryd.pinned (OpenSpec.ofChange fnOutInWrong)

/-- 'laws.FnKeyIn': WHATEVER THE INPUT: true; the input reads as it did. -/
def fnKeyInSpec : ChangeSpec := { name := "fnKeyIn", vars := ["loop.example/plashet/impl.rowOwners"], fn := fun _ => fun
  | [d, g1] => { results := [.lit (.bool true)], args := [d], vars := [g1] }
  | _ => none }
def fnKeyInRow : OpenClaim := { program := "ytlkheeegkifblaadoor", sum := "73fcc4a24df7991dae13a54c405e827a3a938d81f58cf4a2d9d9572c27a099ee", func := "loop.example/plashet/laws.FnKeyIn", spec := "fnKeyIn", unfollowed := true, recurses := true, named := ["loop.example/plashet/impl.rowOwners"], apart := false, laid := [("loop.example/plashet/impl.rowOwners", laid_loop_example_plashet_impl_rowOwners)] }
def FnKeyInSaid : Prop := fnKeyInRow.holds Tryd.pinned (OpenSpec.ofChange fnKeyInSpec)

/-- ITS FALSE NEIGHBOUR: 'it returns false'. Refute it at one input. -/
def fnKeyInWrong : ChangeSpec := { name := "fnKeyIn", vars := ["loop.example/plashet/impl.rowOwners"], fn := fun _ => fun
  | [d, g1] => { results := [.lit (.bool false)], args := [d], vars := [g1] }
  | _ => none }
def FnKeyInWrongFalsely : Prop := fnKeyInRow.holds Tryd.pinned (OpenSpec.ofChange fnKeyInWrong)

/-- 'laws.FnExactKeyBack': WHATEVER THE INPUT: true; the input reads as it did. -/
def fnExactKeyBackSpec : ChangeSpec := { name := "fnExactKeyBack", vars := ["loop.example/plashet/impl.rowOwners"], fn := fun _ => fun
  | [d1, d2, g1] => { results := [.lit (.bool true)], args := [d1, d2], vars := [g1] }
  | _ => none }
def fnExactKeyBackRow : OpenClaim := { program := "ytlkheeegkifblaadoor", sum := "73fcc4a24df7991dae13a54c405e827a3a938d81f58cf4a2d9d9572c27a099ee", func := "loop.example/plashet/laws.FnExactKeyBack", spec := "fnExactKeyBack", unfollowed := true, recurses := true, named := ["loop.example/plashet/impl.rowOwners"], apart := false, laid := [("loop.example/plashet/impl.rowOwners", laid_loop_example_plashet_impl_rowOwners)] }
def FnExactKeyBackSaid : Prop := fnExactKeyBackRow.holds Tryd.pinned (OpenSpec.ofChange fnExactKeyBackSpec)

/-- ITS FALSE NEIGHBOUR: 'it returns false'. Refute it at one input. -/
def fnExactKeyBackWrong : ChangeSpec := { name := "fnExactKeyBack", vars := ["loop.example/plashet/impl.rowOwners"], fn := fun _ => fun
  | [d1, d2, g1] => { results := [.lit (.bool false)], args := [d1, d2], vars := [g1] }
  | _ => none }
def FnExactKeyBackWrongFalsely : Prop := fnExactKeyBackRow.holds Tryd.pinned (OpenSpec.ofChange fnExactKeyBackWrong)

/-- 'laws.FnBackNot': WHATEVER THE INPUT: true; the input reads as it did. -/
def fnBackNotSpec : ChangeSpec := { name := "fnBackNot", vars := ["loop.example/plashet/impl.rowOwners"], fn := fun _ => fun
  | [d, g1] => { results := [.lit (.bool true)], args := [d], vars := [g1] }
  | _ => none }
def fnBackNotRow : OpenClaim := { program := "ytlkheeegkifblaadoor", sum := "73fcc4a24df7991dae13a54c405e827a3a938d81f58cf4a2d9d9572c27a099ee", func := "loop.example/plashet/laws.FnBackNot", spec := "fnBackNot", unfollowed := true, recurses := true, named := ["loop.example/plashet/impl.rowOwners"], apart := false, laid := [("loop.example/plashet/impl.rowOwners", laid_loop_example_plashet_impl_rowOwners)] }
def FnBackNotSaid : Prop := fnBackNotRow.holds Tryd.pinned (OpenSpec.ofChange fnBackNotSpec)

/-- ITS FALSE NEIGHBOUR: 'it returns false'. Refute it at one input. -/
def fnBackNotWrong : ChangeSpec := { name := "fnBackNot", vars := ["loop.example/plashet/impl.rowOwners"], fn := fun _ => fun
  | [d, g1] => { results := [.lit (.bool false)], args := [d], vars := [g1] }
  | _ => none }
def FnBackNotWrongFalsely : Prop := fnBackNotRow.holds Tryd.pinned (OpenSpec.ofChange fnBackNotWrong)

/-- 'laws.FnBackTwice': WHATEVER THE INPUT: true; the input reads as it did. -/
def fnBackTwiceSpec : ChangeSpec := { name := "fnBackTwice", vars := ["loop.example/plashet/impl.rowOwners"], fn := fun _ => fun
  | [d, g1] => { results := [.lit (.bool true)], args := [d], vars := [g1] }
  | _ => none }
def fnBackTwiceRow : OpenClaim := { program := "ytlkheeegkifblaadoor", sum := "73fcc4a24df7991dae13a54c405e827a3a938d81f58cf4a2d9d9572c27a099ee", func := "loop.example/plashet/laws.FnBackTwice", spec := "fnBackTwice", unfollowed := true, recurses := true, named := ["loop.example/plashet/impl.rowOwners"], apart := false, laid := [("loop.example/plashet/impl.rowOwners", laid_loop_example_plashet_impl_rowOwners)] }
def FnBackTwiceSaid : Prop := fnBackTwiceRow.holds Tryd.pinned (OpenSpec.ofChange fnBackTwiceSpec)

/-- ITS FALSE NEIGHBOUR: 'it returns false'. Refute it at one input. -/
def fnBackTwiceWrong : ChangeSpec := { name := "fnBackTwice", vars := ["loop.example/plashet/impl.rowOwners"], fn := fun _ => fun
  | [d, g1] => { results := [.lit (.bool false)], args := [d], vars := [g1] }
  | _ => none }
def FnBackTwiceWrongFalsely : Prop := fnBackTwiceRow.holds Tryd.pinned (OpenSpec.ofChange fnBackTwiceWrong)

/-- 'laws.FnKeyBack': WHATEVER THE INPUT: true; the input reads as it did. -/
def fnKeyBackSpec : ChangeSpec := { name := "fnKeyBack", vars := ["loop.example/plashet/impl.rowOwners"], fn := fun _ => fun
  | [d, g1] => { results := [.lit (.bool true)], args := [d], vars := [g1] }
  | _ => none }
def fnKeyBackRow : OpenClaim := { program := "ytlkheeegkifblaadoor", sum := "73fcc4a24df7991dae13a54c405e827a3a938d81f58cf4a2d9d9572c27a099ee", func := "loop.example/plashet/laws.FnKeyBack", spec := "fnKeyBack", unfollowed := true, recurses := true, named := ["loop.example/plashet/impl.rowOwners"], apart := false, laid := [("loop.example/plashet/impl.rowOwners", laid_loop_example_plashet_impl_rowOwners)] }
def FnKeyBackSaid : Prop := fnKeyBackRow.holds Tryd.pinned (OpenSpec.ofChange fnKeyBackSpec)

/-- ITS FALSE NEIGHBOUR: 'it returns false'. Refute it at one input. -/
def fnKeyBackWrong : ChangeSpec := { name := "fnKeyBack", vars := ["loop.example/plashet/impl.rowOwners"], fn := fun _ => fun
  | [d, g1] => { results := [.lit (.bool false)], args := [d], vars := [g1] }
  | _ => none }
def FnKeyBackWrongFalsely : Prop := fnKeyBackRow.holds Tryd.pinned (OpenSpec.ofChange fnKeyBackWrong)

/-- 'laws.FnDoWhere': WHATEVER THE INPUT: true; the input reads as it did. -/
def fnDoWhereSpec : ChangeSpec := { name := "fnDoWhere", vars := ["loop.example/plashet/impl.rowOwners"], fn := fun _ => fun
  | [d, g1] => { results := [.lit (.bool true)], args := [d], vars := [g1] }
  | _ => none }
def fnDoWhereRow : OpenClaim := { program := "ytlkheeegkifblaadoor", sum := "73fcc4a24df7991dae13a54c405e827a3a938d81f58cf4a2d9d9572c27a099ee", func := "loop.example/plashet/laws.FnDoWhere", spec := "fnDoWhere", unfollowed := true, recurses := true, named := ["loop.example/plashet/impl.rowOwners"], apart := false, laid := [("loop.example/plashet/impl.rowOwners", laid_loop_example_plashet_impl_rowOwners)] }
def FnDoWhereSaid : Prop := fnDoWhereRow.holds Tryd.pinned (OpenSpec.ofChange fnDoWhereSpec)

/-- ITS FALSE NEIGHBOUR: 'it returns false'. Refute it at one input. -/
def fnDoWhereWrong : ChangeSpec := { name := "fnDoWhere", vars := ["loop.example/plashet/impl.rowOwners"], fn := fun _ => fun
  | [d, g1] => { results := [.lit (.bool false)], args := [d], vars := [g1] }
  | _ => none }
def FnDoWhereWrongFalsely : Prop := fnDoWhereRow.holds Tryd.pinned (OpenSpec.ofChange fnDoWhereWrong)

/-- 'laws.FnWhereText': WHATEVER THE INPUT: true; the input reads as it did. -/
def fnWhereTextSpec : ChangeSpec := { name := "fnWhereText", vars := ["loop.example/plashet/impl.rowOwners"], fn := fun _ => fun
  | [d1, d2, g1] => { results := [.lit (.bool true)], args := [d1, d2], vars := [g1] }
  | _ => none }
def fnWhereTextRow : OpenClaim := { program := "ytlkheeegkifblaadoor", sum := "73fcc4a24df7991dae13a54c405e827a3a938d81f58cf4a2d9d9572c27a099ee", func := "loop.example/plashet/laws.FnWhereText", spec := "fnWhereText", unfollowed := true, recurses := true, named := ["loop.example/plashet/impl.rowOwners"], apart := false, laid := [("loop.example/plashet/impl.rowOwners", laid_loop_example_plashet_impl_rowOwners)] }
def FnWhereTextSaid : Prop := fnWhereTextRow.holds Tryd.pinned (OpenSpec.ofChange fnWhereTextSpec)

/-- ITS FALSE NEIGHBOUR: 'it returns false'. Refute it at one input. -/
def fnWhereTextWrong : ChangeSpec := { name := "fnWhereText", vars := ["loop.example/plashet/impl.rowOwners"], fn := fun _ => fun
  | [d1, d2, g1] => { results := [.lit (.bool false)], args := [d1, d2], vars := [g1] }
  | _ => none }
def FnWhereTextWrongFalsely : Prop := fnWhereTextRow.holds Tryd.pinned (OpenSpec.ofChange fnWhereTextWrong)

/- THE SECOND FORM. 'bulk': how many values and letters a reading holds, each counted each time it is reached (what is shared counts as often as it is met; a slice's spare places count too). A statement '..UptoSaid' is the law's where the arguments, and the package variables that the reading takes, are together of bulk at most 1048576: NARROWER than '..Said'. Prove '..Said' where nothing that the law and all that it calls make is longer than what came in: it says more and counts as full. Else prove '..UptoSaid'. A law counts once. -/
mutual
def uptoBulk {H : Type} : DataW H → Nat
  | .lit (.string bytes) => bytes.length + 1
  | .lit _ => 1
  | .nil => 1
  | .ptr d => uptoBulk d + 1
  | .slice elems spare => uptoBulkAll elems + uptoBulkAll spare + 1
  | .agg parts => uptoBulkAll parts + 1
  | .iface _ d => uptoBulk d + 1
  | .map entries => uptoBulkEntries entries + 1
  | .held _ => 1
def uptoBulkAll {H : Type} : List (DataW H) → Nat
  | [] => 0
  | d :: r => uptoBulk d + uptoBulkAll r
def uptoBulkEntries {H : Type} : List (Lit × DataW H) → Nat
  | [] => 0
  | x :: r => uptoBulkEntry x + uptoBulkEntries r
def uptoBulkEntry {H : Type} : Lit × DataW H → Nat
  | (.string bytes, d) => bytes.length + uptoBulk d + 1
  | (_, d) => uptoBulk d + 1
 end
def uptoSmall : (H : Type) → List (DataW H) → Bool := fun _ ds => decide (uptoBulkAll ds ≤ 1048576)
def OpenSpec.upto (s : _root_.Go.ChangeSpec) : _root_.Go.OpenSpec := { _root_.Go.OpenSpec.ofChange s with cond := some uptoSmall }

/-- 'laws.FnKeyGone', WHERE WHAT IT READS IS OF BULK AT MOST 1048576: true; the input reads as it did. -/
def fnKeyGoneUptoRow : OpenClaim := { program := "ytlkheeegkifblaadoor", sum := "73fcc4a24df7991dae13a54c405e827a3a938d81f58cf4a2d9d9572c27a099ee", func := "loop.example/plashet/laws.FnKeyGone", spec := "fnKeyGone", unfollowed := true, recurses := true, named := ["loop.example/plashet/impl.rowOwners"], apart := false, laid := [("loop.example/plashet/impl.rowOwners", laid_loop_example_plashet_impl_rowOwners)], narrowed := true }
def FnKeyGoneUptoSaid : Prop := fnKeyGoneUptoRow.holds Tryd.pinned (OpenSpec.upto fnKeyGoneSpec)

/-- 'laws.FnInDepth', WHERE WHAT IT READS IS OF BULK AT MOST 1048576: true; the input reads as it did. -/
def fnInDepthUptoRow : OpenClaim := { program := "ytlkheeegkifblaadoor", sum := "73fcc4a24df7991dae13a54c405e827a3a938d81f58cf4a2d9d9572c27a099ee", func := "loop.example/plashet/laws.FnInDepth", spec := "fnInDepth", unfollowed := true, recurses := true, named := ["loop.example/plashet/impl.rowOwners"], apart := false, laid := [("loop.example/plashet/impl.rowOwners", laid_loop_example_plashet_impl_rowOwners)], narrowed := true }
def FnInDepthUptoSaid : Prop := fnInDepthUptoRow.holds Tryd.pinned (OpenSpec.upto fnInDepthSpec)

/-- 'laws.FnInOut', WHERE WHAT IT READS IS OF BULK AT MOST 1048576: true; the input reads as it did. -/
def fnInOutUptoRow : OpenClaim := { program := "ytlkheeegkifblaadoor", sum := "73fcc4a24df7991dae13a54c405e827a3a938d81f58cf4a2d9d9572c27a099ee", func := "loop.example/plashet/laws.FnInOut", spec := "fnInOut", unfollowed := true, recurses := true, named := ["loop.example/plashet/impl.rowOwners"], apart := false, laid := [("loop.example/plashet/impl.rowOwners", laid_loop_example_plashet_impl_rowOwners)], narrowed := true }
def FnInOutUptoSaid : Prop := fnInOutUptoRow.holds Tryd.pinned (OpenSpec.upto fnInOutSpec)

/-- 'laws.FnGoneBack', WHERE WHAT IT READS IS OF BULK AT MOST 1048576: true; the input reads as it did. -/
def fnGoneBackUptoRow : OpenClaim := { program := "ytlkheeegkifblaadoor", sum := "73fcc4a24df7991dae13a54c405e827a3a938d81f58cf4a2d9d9572c27a099ee", func := "loop.example/plashet/laws.FnGoneBack", spec := "fnGoneBack", unfollowed := true, recurses := true, named := ["loop.example/plashet/impl.rowOwners"], apart := false, laid := [("loop.example/plashet/impl.rowOwners", laid_loop_example_plashet_impl_rowOwners)], narrowed := true }
def FnGoneBackUptoSaid : Prop := fnGoneBackUptoRow.holds Tryd.pinned (OpenSpec.upto fnGoneBackSpec)

/-- 'laws.FnKeyOut', WHERE WHAT IT READS IS OF BULK AT MOST 1048576: true; the input reads as it did. -/
def fnKeyOutUptoRow : OpenClaim := { program := "ytlkheeegkifblaadoor", sum := "73fcc4a24df7991dae13a54c405e827a3a938d81f58cf4a2d9d9572c27a099ee", func := "loop.example/plashet/laws.FnKeyOut", spec := "fnKeyOut", unfollowed := true, recurses := true, named := ["loop.example/plashet/impl.rowOwners"], apart := false, laid := [("loop.example/plashet/impl.rowOwners", laid_loop_example_plashet_impl_rowOwners)], narrowed := true }
def FnKeyOutUptoSaid : Prop := fnKeyOutUptoRow.holds Tryd.pinned (OpenSpec.upto fnKeyOutSpec)

/-- 'laws.FnOutIn', WHERE WHAT IT READS IS OF BULK AT MOST 1048576: true; the input reads as it did. -/
def fnOutInUptoRow : OpenClaim := { program := "ytlkheeegkifblaadoor", sum := "73fcc4a24df7991dae13a54c405e827a3a938d81f58cf4a2d9d9572c27a099ee", func := "loop.example/plashet/laws.FnOutIn", spec := "fnOutIn", unfollowed := true, recurses := true, named := ["loop.example/plashet/impl.rowOwners"], apart := false, laid := [("loop.example/plashet/impl.rowOwners", laid_loop_example_plashet_impl_rowOwners)], narrowed := true }
def FnOutInUptoSaid : Prop := fnOutInUptoRow.holds Tryd.pinned (OpenSpec.upto fnOutInSpec)

/-- 'laws.FnKeyIn', WHERE WHAT IT READS IS OF BULK AT MOST 1048576: true; the input reads as it did. -/
def fnKeyInUptoRow : OpenClaim := { program := "ytlkheeegkifblaadoor", sum := "73fcc4a24df7991dae13a54c405e827a3a938d81f58cf4a2d9d9572c27a099ee", func := "loop.example/plashet/laws.FnKeyIn", spec := "fnKeyIn", unfollowed := true, recurses := true, named := ["loop.example/plashet/impl.rowOwners"], apart := false, laid := [("loop.example/plashet/impl.rowOwners", laid_loop_example_plashet_impl_rowOwners)], narrowed := true }
def FnKeyInUptoSaid : Prop := fnKeyInUptoRow.holds Tryd.pinned (OpenSpec.upto fnKeyInSpec)

/-- 'laws.FnExactKeyBack', WHERE WHAT IT READS IS OF BULK AT MOST 1048576: true; the input reads as it did. -/
def fnExactKeyBackUptoRow : OpenClaim := { program := "ytlkheeegkifblaadoor", sum := "73fcc4a24df7991dae13a54c405e827a3a938d81f58cf4a2d9d9572c27a099ee", func := "loop.example/plashet/laws.FnExactKeyBack", spec := "fnExactKeyBack", unfollowed := true, recurses := true, named := ["loop.example/plashet/impl.rowOwners"], apart := false, laid := [("loop.example/plashet/impl.rowOwners", laid_loop_example_plashet_impl_rowOwners)], narrowed := true }
def FnExactKeyBackUptoSaid : Prop := fnExactKeyBackUptoRow.holds Tryd.pinned (OpenSpec.upto fnExactKeyBackSpec)

/-- 'laws.FnBackNot', WHERE WHAT IT READS IS OF BULK AT MOST 1048576: true; the input reads as it did. -/
def fnBackNotUptoRow : OpenClaim := { program := "ytlkheeegkifblaadoor", sum := "73fcc4a24df7991dae13a54c405e827a3a938d81f58cf4a2d9d9572c27a099ee", func := "loop.example/plashet/laws.FnBackNot", spec := "fnBackNot", unfollowed := true, recurses := true, named := ["loop.example/plashet/impl.rowOwners"], apart := false, laid := [("loop.example/plashet/impl.rowOwners", laid_loop_example_plashet_impl_rowOwners)], narrowed := true }
def FnBackNotUptoSaid : Prop := fnBackNotUptoRow.holds Tryd.pinned (OpenSpec.upto fnBackNotSpec)

/-- 'laws.FnBackTwice', WHERE WHAT IT READS IS OF BULK AT MOST 1048576: true; the input reads as it did. -/
def fnBackTwiceUptoRow : OpenClaim := { program := "ytlkheeegkifblaadoor", sum := "73fcc4a24df7991dae13a54c405e827a3a938d81f58cf4a2d9d9572c27a099ee", func := "loop.example/plashet/laws.FnBackTwice", spec := "fnBackTwice", unfollowed := true, recurses := true, named := ["loop.example/plashet/impl.rowOwners"], apart := false, laid := [("loop.example/plashet/impl.rowOwners", laid_loop_example_plashet_impl_rowOwners)], narrowed := true }
def FnBackTwiceUptoSaid : Prop := fnBackTwiceUptoRow.holds Tryd.pinned (OpenSpec.upto fnBackTwiceSpec)

/-- 'laws.FnKeyBack', WHERE WHAT IT READS IS OF BULK AT MOST 1048576: true; the input reads as it did. -/
def fnKeyBackUptoRow : OpenClaim := { program := "ytlkheeegkifblaadoor", sum := "73fcc4a24df7991dae13a54c405e827a3a938d81f58cf4a2d9d9572c27a099ee", func := "loop.example/plashet/laws.FnKeyBack", spec := "fnKeyBack", unfollowed := true, recurses := true, named := ["loop.example/plashet/impl.rowOwners"], apart := false, laid := [("loop.example/plashet/impl.rowOwners", laid_loop_example_plashet_impl_rowOwners)], narrowed := true }
def FnKeyBackUptoSaid : Prop := fnKeyBackUptoRow.holds Tryd.pinned (OpenSpec.upto fnKeyBackSpec)

/-- 'laws.FnDoWhere', WHERE WHAT IT READS IS OF BULK AT MOST 1048576: true; the input reads as it did. -/
def fnDoWhereUptoRow : OpenClaim := { program := "ytlkheeegkifblaadoor", sum := "73fcc4a24df7991dae13a54c405e827a3a938d81f58cf4a2d9d9572c27a099ee", func := "loop.example/plashet/laws.FnDoWhere", spec := "fnDoWhere", unfollowed := true, recurses := true, named := ["loop.example/plashet/impl.rowOwners"], apart := false, laid := [("loop.example/plashet/impl.rowOwners", laid_loop_example_plashet_impl_rowOwners)], narrowed := true }
def FnDoWhereUptoSaid : Prop := fnDoWhereUptoRow.holds Tryd.pinned (OpenSpec.upto fnDoWhereSpec)

/-- 'laws.FnWhereText', WHERE WHAT IT READS IS OF BULK AT MOST 1048576: true; the input reads as it did. -/
def fnWhereTextUptoRow : OpenClaim := { program := "ytlkheeegkifblaadoor", sum := "73fcc4a24df7991dae13a54c405e827a3a938d81f58cf4a2d9d9572c27a099ee", func := "loop.example/plashet/laws.FnWhereText", spec := "fnWhereText", unfollowed := true, recurses := true, named := ["loop.example/plashet/impl.rowOwners"], apart := false, laid := [("loop.example/plashet/impl.rowOwners", laid_loop_example_plashet_impl_rowOwners)], narrowed := true }
def FnWhereTextUptoSaid : Prop := fnWhereTextUptoRow.holds Tryd.pinned (OpenSpec.upto fnWhereTextSpec)

end Rows
end Go.Proofs.YtlkheeegkifblaaDoor
