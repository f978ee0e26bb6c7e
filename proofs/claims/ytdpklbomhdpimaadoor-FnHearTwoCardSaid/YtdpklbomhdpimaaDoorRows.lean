/-
  NARROWER THAN 'FOR EVERY INPUT', by the rows' own cells (each row's printed sentence says how): FnServerForm: laid · FnExactServerHear: laid · FnHear: laid · FnHearTwo: laid · FnHearAgain: laid · FnTreeMore: laid · FnLogCut: laid · FnLogTree: laid · FnExactLogTree: laid · FnClientNew: laid · FnExactClientOk: laid · FnExactClientDo: laid.
  DERIVED. THE GIVEN ROWS OF THIS SEAT. 12 by the template 'for every input the law returns true; each argument reads behind the call as it read before'; 0 by the template 'total and deterministic' (their statements: YtdpklbomhdpimaaDoorTotals.lean).
  GIVEN WITH THE SEED: the statements are not yours to turn. If you find one false, say at which input.
  Laid BY PROGRAM, IN A SANDBOX (cutbox-rows.mjs): the forced cells as the released guide's own fill.sh prints them over the translation 5fafccd9ffc51d58… (all of the seat's roots in one cut). By AI agents, Wed Nov 11 2026. No macro, syntax, notation, axiom, sorry.
-/
import Derived.Test.YtdpklbomhdpimaaDoorChecked
import GoSem.Claim
import GoSem.ClaimJoined
import GoSem.ClaimMapViews
import Derived.JoinedTies
import Derived.KernelRfl
namespace Go.Proofs.YtdpklbomhdpimaaDoor
/- THE CELL 'sum', in the pinned program and in every row, IS THE sha256 OF THE DUMP (.gsa) THAT YtdpklbomhdpimaaDoorProg.lean LOADS. Nothing in Lean hashes anything: it is a label: what it is worth is what the hold of that sum in a sandbox is worth. -/
noncomputable def Tryd.pinned : Pinned := { name := "ytdpklbomhdpimaadoor", sum := "5fafccd9ffc51d587a7390ba5cb044d63ae3377a339a282d559302eed00328a6", checked := Tryd.checked }
namespace Rows
def none {H : Type} : Left H := { results := [], args := [] }

/- WHAT THE LISTED PACKAGE-LEVEL VARIABLES READ AS WHEN THE CALL BEGINS. Each datum BY PROGRAM (the guide's laid-datum.mjs) off the statement by which the dump's own 'gosem.cut.vars' lays the variable. In a bare row this is a premise. The card (YtdpklbomhdpimaaDoorCards.lean) ties it to the program's text. -/
def laid_loop_example_plashet_impl_rowOwners {H : Type} : DataW H := .agg [.lit (.int .i64 0), .lit (.int .i64 1), .lit (.int .i64 1), .lit (.int .i64 1), .lit (.int .i64 0), .lit (.int .i64 0), .lit (.int .i64 0), .lit (.int .i64 0), .lit (.int .i64 0), .lit (.int .i64 0), .lit (.int .i64 0), .lit (.int .i64 2), .lit (.int .i64 2), .lit (.int .i64 2), .lit (.int .i64 2), .lit (.int .i64 2), .lit (.int .i64 2), .lit (.int .i64 0), .lit (.int .i64 0), .lit (.int .i64 0), .lit (.int .i64 0), .lit (.int .i64 3), .lit (.int .i64 3), .lit (.int .i64 3), .lit (.int .i64 3), .lit (.int .i64 3), .lit (.int .i64 3), .lit (.int .i64 0), .lit (.int .i64 0), .lit (.int .i64 0), .lit (.int .i64 0), .lit (.int .i64 4), .lit (.int .i64 4), .lit (.int .i64 4), .lit (.int .i64 4), .lit (.int .i64 4), .lit (.int .i64 4)]

/-- 'laws.FnServerForm': WHATEVER THE INPUT: true; the input reads as it did. -/
def fnServerFormSpec : ChangeSpec := { name := "fnServerForm", vars := ["loop.example/plashet/impl.rowOwners"], fn := fun _ => fun
  | [d, g1] => { results := [.lit (.bool true)], args := [d], vars := [g1] }
  | _ => none }
def fnServerFormRow : OpenClaim := { program := "ytdpklbomhdpimaadoor", sum := "5fafccd9ffc51d587a7390ba5cb044d63ae3377a339a282d559302eed00328a6", func := "loop.example/plashet/laws.FnServerForm", spec := "fnServerForm", named := ["loop.example/plashet/impl.rowOwners"], apart := false, laid := [("loop.example/plashet/impl.rowOwners", laid_loop_example_plashet_impl_rowOwners)] }
def FnServerFormSaid : Prop := fnServerFormRow.holds Tryd.pinned (OpenSpec.ofChange fnServerFormSpec)

/-- ITS FALSE NEIGHBOUR: 'it returns false'. Refute it at one input. -/
def fnServerFormWrong : ChangeSpec := { name := "fnServerForm", vars := ["loop.example/plashet/impl.rowOwners"], fn := fun _ => fun
  | [d, g1] => { results := [.lit (.bool false)], args := [d], vars := [g1] }
  | _ => none }
def FnServerFormWrongFalsely : Prop := fnServerFormRow.holds Tryd.pinned (OpenSpec.ofChange fnServerFormWrong)

/-- 'laws.FnExactServerHear': WHATEVER THE INPUT: true; the input reads as it did. -/
def fnExactServerHearSpec : ChangeSpec := { name := "fnExactServerHear", vars := ["loop.example/plashet/impl.rowOwners"], fn := fun _ => fun
  | [d1, d2, g1] => { results := [.lit (.bool true)], args := [d1, d2], vars := [g1] }
  | _ => none }
def fnExactServerHearRow : OpenClaim := { program := "ytdpklbomhdpimaadoor", sum := "5fafccd9ffc51d587a7390ba5cb044d63ae3377a339a282d559302eed00328a6", func := "loop.example/plashet/laws.FnExactServerHear", spec := "fnExactServerHear", named := ["loop.example/plashet/impl.rowOwners"], apart := false, laid := [("loop.example/plashet/impl.rowOwners", laid_loop_example_plashet_impl_rowOwners)] }
def FnExactServerHearSaid : Prop := fnExactServerHearRow.holds Tryd.pinned (OpenSpec.ofChange fnExactServerHearSpec)

/-- ITS FALSE NEIGHBOUR: 'it returns false'. Refute it at one input. -/
def fnExactServerHearWrong : ChangeSpec := { name := "fnExactServerHear", vars := ["loop.example/plashet/impl.rowOwners"], fn := fun _ => fun
  | [d1, d2, g1] => { results := [.lit (.bool false)], args := [d1, d2], vars := [g1] }
  | _ => none }
def FnExactServerHearWrongFalsely : Prop := fnExactServerHearRow.holds Tryd.pinned (OpenSpec.ofChange fnExactServerHearWrong)

/-- 'laws.FnHear': WHATEVER THE INPUT: true; the input reads as it did. -/
def fnHearSpec : ChangeSpec := { name := "fnHear", vars := ["loop.example/plashet/impl.rowOwners"], fn := fun _ => fun
  | [d, g1] => { results := [.lit (.bool true)], args := [d], vars := [g1] }
  | _ => none }
def fnHearRow : OpenClaim := { program := "ytdpklbomhdpimaadoor", sum := "5fafccd9ffc51d587a7390ba5cb044d63ae3377a339a282d559302eed00328a6", func := "loop.example/plashet/laws.FnHear", spec := "fnHear", named := ["loop.example/plashet/impl.rowOwners"], apart := false, laid := [("loop.example/plashet/impl.rowOwners", laid_loop_example_plashet_impl_rowOwners)] }
def FnHearSaid : Prop := fnHearRow.holds Tryd.pinned (OpenSpec.ofChange fnHearSpec)

/-- ITS FALSE NEIGHBOUR: 'it returns false'. Refute it at one input. -/
def fnHearWrong : ChangeSpec := { name := "fnHear", vars := ["loop.example/plashet/impl.rowOwners"], fn := fun _ => fun
  | [d, g1] => { results := [.lit (.bool false)], args := [d], vars := [g1] }
  | _ => none }
def FnHearWrongFalsely : Prop := fnHearRow.holds Tryd.pinned (OpenSpec.ofChange fnHearWrong)

/-- 'laws.FnHearTwo': WHATEVER THE INPUT: true; the input reads as it did. -/
def fnHearTwoSpec : ChangeSpec := { name := "fnHearTwo", vars := ["loop.example/plashet/impl.rowOwners"], fn := fun _ => fun
  | [d1, d2, g1] => { results := [.lit (.bool true)], args := [d1, d2], vars := [g1] }
  | _ => none }
def fnHearTwoRow : OpenClaim := { program := "ytdpklbomhdpimaadoor", sum := "5fafccd9ffc51d587a7390ba5cb044d63ae3377a339a282d559302eed00328a6", func := "loop.example/plashet/laws.FnHearTwo", spec := "fnHearTwo", named := ["loop.example/plashet/impl.rowOwners"], apart := false, laid := [("loop.example/plashet/impl.rowOwners", laid_loop_example_plashet_impl_rowOwners)] }
def FnHearTwoSaid : Prop := fnHearTwoRow.holds Tryd.pinned (OpenSpec.ofChange fnHearTwoSpec)

/-- ITS FALSE NEIGHBOUR: 'it returns false'. Refute it at one input. -/
def fnHearTwoWrong : ChangeSpec := { name := "fnHearTwo", vars := ["loop.example/plashet/impl.rowOwners"], fn := fun _ => fun
  | [d1, d2, g1] => { results := [.lit (.bool false)], args := [d1, d2], vars := [g1] }
  | _ => none }
def FnHearTwoWrongFalsely : Prop := fnHearTwoRow.holds Tryd.pinned (OpenSpec.ofChange fnHearTwoWrong)

/-- 'laws.FnHearAgain': WHATEVER THE INPUT: true; the input reads as it did. -/
def fnHearAgainSpec : ChangeSpec := { name := "fnHearAgain", vars := ["loop.example/plashet/impl.rowOwners"], fn := fun _ => fun
  | [d, g1] => { results := [.lit (.bool true)], args := [d], vars := [g1] }
  | _ => none }
def fnHearAgainRow : OpenClaim := { program := "ytdpklbomhdpimaadoor", sum := "5fafccd9ffc51d587a7390ba5cb044d63ae3377a339a282d559302eed00328a6", func := "loop.example/plashet/laws.FnHearAgain", spec := "fnHearAgain", named := ["loop.example/plashet/impl.rowOwners"], apart := false, laid := [("loop.example/plashet/impl.rowOwners", laid_loop_example_plashet_impl_rowOwners)] }
def FnHearAgainSaid : Prop := fnHearAgainRow.holds Tryd.pinned (OpenSpec.ofChange fnHearAgainSpec)

/-- ITS FALSE NEIGHBOUR: 'it returns false'. Refute it at one input. -/
def fnHearAgainWrong : ChangeSpec := { name := "fnHearAgain", vars := ["loop.example/plashet/impl.rowOwners"], fn := fun _ => fun
  | [d, g1] => { results := [.lit (.bool false)], args := [d], vars := [g1] }
  | _ => none }
def FnHearAgainWrongFalsely : Prop := fnHearAgainRow.holds Tryd.pinned (OpenSpec.ofChange fnHearAgainWrong)

/-- 'laws.FnTreeMore': WHATEVER THE INPUT: true; the input reads as it did. -/
def fnTreeMoreSpec : ChangeSpec := { name := "fnTreeMore", vars := ["loop.example/plashet/impl.rowOwners"], fn := fun _ => fun
  | [d, g1] => { results := [.lit (.bool true)], args := [d], vars := [g1] }
  | _ => none }
def fnTreeMoreRow : OpenClaim := { program := "ytdpklbomhdpimaadoor", sum := "5fafccd9ffc51d587a7390ba5cb044d63ae3377a339a282d559302eed00328a6", func := "loop.example/plashet/laws.FnTreeMore", spec := "fnTreeMore", unfollowed := true, recurses := true, named := ["loop.example/plashet/impl.rowOwners"], apart := false, laid := [("loop.example/plashet/impl.rowOwners", laid_loop_example_plashet_impl_rowOwners)] }
def FnTreeMoreSaid : Prop := fnTreeMoreRow.holds Tryd.pinned (OpenSpec.ofChange fnTreeMoreSpec)

/-- ITS FALSE NEIGHBOUR: 'it returns false'. Refute it at one input. -/
def fnTreeMoreWrong : ChangeSpec := { name := "fnTreeMore", vars := ["loop.example/plashet/impl.rowOwners"], fn := fun _ => fun
  | [d, g1] => { results := [.lit (.bool false)], args := [d], vars := [g1] }
  | _ => none }
def FnTreeMoreWrongFalsely : Prop := fnTreeMoreRow.holds Tryd.pinned (OpenSpec.ofChange fnTreeMoreWrong)

/-- 'laws.FnLogCut': WHATEVER THE INPUT: true; the input reads as it did. -/
def fnLogCutSpec : ChangeSpec := { name := "fnLogCut", vars := ["loop.example/plashet/impl.rowOwners"], fn := fun _ => fun
  | [d1, d2, g1] => { results := [.lit (.bool true)], args := [d1, d2], vars := [g1] }
  | _ => none }
def fnLogCutRow : OpenClaim := { program := "ytdpklbomhdpimaadoor", sum := "5fafccd9ffc51d587a7390ba5cb044d63ae3377a339a282d559302eed00328a6", func := "loop.example/plashet/laws.FnLogCut", spec := "fnLogCut", unfollowed := true, recurses := true, named := ["loop.example/plashet/impl.rowOwners"], apart := false, laid := [("loop.example/plashet/impl.rowOwners", laid_loop_example_plashet_impl_rowOwners)] }
def FnLogCutSaid : Prop := fnLogCutRow.holds Tryd.pinned (OpenSpec.ofChange fnLogCutSpec)

/-- ITS FALSE NEIGHBOUR: 'it returns false'. Refute it at one input. -/
def fnLogCutWrong : ChangeSpec := { name := "fnLogCut", vars := ["loop.example/plashet/impl.rowOwners"], fn := fun _ => fun
  | [d1, d2, g1] => { results := [.lit (.bool false)], args := [d1, d2], vars := [g1] }
  | _ => none }
def FnLogCutWrongFalsely : Prop := fnLogCutRow.holds Tryd.pinned (OpenSpec.ofChange fnLogCutWrong)

/-- 'laws.FnLogTree': WHATEVER THE INPUT: true; the input reads as it did. -/
def fnLogTreeSpec : ChangeSpec := { name := "fnLogTree", vars := ["loop.example/plashet/impl.rowOwners"], fn := fun _ => fun
  | [d, g1] => { results := [.lit (.bool true)], args := [d], vars := [g1] }
  | _ => none }
def fnLogTreeRow : OpenClaim := { program := "ytdpklbomhdpimaadoor", sum := "5fafccd9ffc51d587a7390ba5cb044d63ae3377a339a282d559302eed00328a6", func := "loop.example/plashet/laws.FnLogTree", spec := "fnLogTree", unfollowed := true, recurses := true, named := ["loop.example/plashet/impl.rowOwners"], apart := false, laid := [("loop.example/plashet/impl.rowOwners", laid_loop_example_plashet_impl_rowOwners)] }
def FnLogTreeSaid : Prop := fnLogTreeRow.holds Tryd.pinned (OpenSpec.ofChange fnLogTreeSpec)

/-- ITS FALSE NEIGHBOUR: 'it returns false'. Refute it at one input. -/
def fnLogTreeWrong : ChangeSpec := { name := "fnLogTree", vars := ["loop.example/plashet/impl.rowOwners"], fn := fun _ => fun
  | [d, g1] => { results := [.lit (.bool false)], args := [d], vars := [g1] }
  | _ => none }
def FnLogTreeWrongFalsely : Prop := fnLogTreeRow.holds Tryd.pinned (OpenSpec.ofChange fnLogTreeWrong)

/-- 'laws.FnExactLogTree': WHATEVER THE INPUT: true; the input reads as it did. -/
def fnExactLogTreeSpec : ChangeSpec := { name := "fnExactLogTree", vars := ["loop.example/plashet/impl.rowOwners"], fn := fun _ => fun
  | [d, g1] => { results := [.lit (.bool true)], args := [d], vars := [g1] }
  | _ => none }
def fnExactLogTreeRow : OpenClaim := { program := "ytdpklbomhdpimaadoor", sum := "5fafccd9ffc51d587a7390ba5cb044d63ae3377a339a282d559302eed00328a6", func := "loop.example/plashet/laws.FnExactLogTree", spec := "fnExactLogTree", unfollowed := true, recurses := true, named := ["loop.example/plashet/impl.rowOwners"], apart := false, laid := [("loop.example/plashet/impl.rowOwners", laid_loop_example_plashet_impl_rowOwners)] }
def FnExactLogTreeSaid : Prop := fnExactLogTreeRow.holds Tryd.pinned (OpenSpec.ofChange fnExactLogTreeSpec)

/-- ITS FALSE NEIGHBOUR: 'it returns false'. Refute it at one input. -/
def fnExactLogTreeWrong : ChangeSpec := { name := "fnExactLogTree", vars := ["loop.example/plashet/impl.rowOwners"], fn := fun _ => fun
  | [d, g1] => { results := [.lit (.bool false)], args := [d], vars := [g1] }
  | _ => none }
def FnExactLogTreeWrongFalsely : Prop := fnExactLogTreeRow.holds Tryd.pinned (OpenSpec.ofChange fnExactLogTreeWrong)

/-- 'laws.FnClientNew': WHATEVER THE INPUT: true; the input reads as it did. -/
def fnClientNewSpec : ChangeSpec := { name := "fnClientNew", vars := ["loop.example/plashet/impl.rowOwners"], fn := fun _ => fun
  | [d, g1] => { results := [.lit (.bool true)], args := [d], vars := [g1] }
  | _ => none }
def fnClientNewRow : OpenClaim := { program := "ytdpklbomhdpimaadoor", sum := "5fafccd9ffc51d587a7390ba5cb044d63ae3377a339a282d559302eed00328a6", func := "loop.example/plashet/laws.FnClientNew", spec := "fnClientNew", unfollowed := true, recurses := true, named := ["loop.example/plashet/impl.rowOwners"], apart := false, laid := [("loop.example/plashet/impl.rowOwners", laid_loop_example_plashet_impl_rowOwners)] }
def FnClientNewSaid : Prop := fnClientNewRow.holds Tryd.pinned (OpenSpec.ofChange fnClientNewSpec)

/-- ITS FALSE NEIGHBOUR: 'it returns false'. Refute it at one input. -/
def fnClientNewWrong : ChangeSpec := { name := "fnClientNew", vars := ["loop.example/plashet/impl.rowOwners"], fn := fun _ => fun
  | [d, g1] => { results := [.lit (.bool false)], args := [d], vars := [g1] }
  | _ => none }
def FnClientNewWrongFalsely : Prop := fnClientNewRow.holds Tryd.pinned (OpenSpec.ofChange fnClientNewWrong)

/-- 'laws.FnExactClientOk': WHATEVER THE INPUT: true; the input reads as it did. -/
def fnExactClientOkSpec : ChangeSpec := { name := "fnExactClientOk", vars := ["loop.example/plashet/impl.rowOwners"], fn := fun _ => fun
  | [d, g1] => { results := [.lit (.bool true)], args := [d], vars := [g1] }
  | _ => none }
def fnExactClientOkRow : OpenClaim := { program := "ytdpklbomhdpimaadoor", sum := "5fafccd9ffc51d587a7390ba5cb044d63ae3377a339a282d559302eed00328a6", func := "loop.example/plashet/laws.FnExactClientOk", spec := "fnExactClientOk", named := ["loop.example/plashet/impl.rowOwners"], apart := false, laid := [("loop.example/plashet/impl.rowOwners", laid_loop_example_plashet_impl_rowOwners)] }
def FnExactClientOkSaid : Prop := fnExactClientOkRow.holds Tryd.pinned (OpenSpec.ofChange fnExactClientOkSpec)

/-- ITS FALSE NEIGHBOUR: 'it returns false'. Refute it at one input. -/
def fnExactClientOkWrong : ChangeSpec := { name := "fnExactClientOk", vars := ["loop.example/plashet/impl.rowOwners"], fn := fun _ => fun
  | [d, g1] => { results := [.lit (.bool false)], args := [d], vars := [g1] }
  | _ => none }
def FnExactClientOkWrongFalsely : Prop := fnExactClientOkRow.holds Tryd.pinned (OpenSpec.ofChange fnExactClientOkWrong)

/-- 'laws.FnExactClientDo': WHATEVER THE INPUT: true; the input reads as it did. -/
def fnExactClientDoSpec : ChangeSpec := { name := "fnExactClientDo", vars := ["loop.example/plashet/impl.rowOwners"], fn := fun _ => fun
  | [d1, d2, g1] => { results := [.lit (.bool true)], args := [d1, d2], vars := [g1] }
  | _ => none }
def fnExactClientDoRow : OpenClaim := { program := "ytdpklbomhdpimaadoor", sum := "5fafccd9ffc51d587a7390ba5cb044d63ae3377a339a282d559302eed00328a6", func := "loop.example/plashet/laws.FnExactClientDo", spec := "fnExactClientDo", named := ["loop.example/plashet/impl.rowOwners"], apart := false, laid := [("loop.example/plashet/impl.rowOwners", laid_loop_example_plashet_impl_rowOwners)] }
def FnExactClientDoSaid : Prop := fnExactClientDoRow.holds Tryd.pinned (OpenSpec.ofChange fnExactClientDoSpec)

/-- ITS FALSE NEIGHBOUR: 'it returns false'. Refute it at one input. -/
def fnExactClientDoWrong : ChangeSpec := { name := "fnExactClientDo", vars := ["loop.example/plashet/impl.rowOwners"], fn := fun _ => fun
  | [d1, d2, g1] => { results := [.lit (.bool false)], args := [d1, d2], vars := [g1] }
  | _ => none }
def FnExactClientDoWrongFalsely : Prop := fnExactClientDoRow.holds Tryd.pinned (OpenSpec.ofChange fnExactClientDoWrong)

/- THE SECOND FORM. 'bulk': how many values and letters a reading holds, each counted each time it is reached (what is shared counts as often as it is met; a slice's spare places count too). A statement '..UptoSaid' is the law's where the arguments, and the package variables that the reading takes, are together of bulk at most 1048576: NARROWER than '..Said'. Prove '..Said' where nothing that the law and all that it calls make is longer than what came in: it says more and counts as full. Else prove '..UptoSaid'. A law counts once. -/
mutual
def uptoBulk {H : Type} : DataW H → Nat
  | .lit (.string bytes) => bytes.length + 1
  | .lit _ => 1
  | .nil => 1
  | .ptr d => uptoBulk d + 1
  | .slice elems spare => uptoBulkAll elems + uptoBulkAll spare + 1
  | .agg parts => uptoBulkAll parts + 1
  | .iface _ d => uptoBulk d + 1
  | .map entries => uptoBulkEntries entries + 1
  | .held _ => 1
def uptoBulkAll {H : Type} : List (DataW H) → Nat
  | [] => 0
  | d :: r => uptoBulk d + uptoBulkAll r
def uptoBulkEntries {H : Type} : List (Lit × DataW H) → Nat
  | [] => 0
  | x :: r => uptoBulkEntry x + uptoBulkEntries r
def uptoBulkEntry {H : Type} : Lit × DataW H → Nat
  | (.string bytes, d) => bytes.length + uptoBulk d + 1
  | (_, d) => uptoBulk d + 1
 end
def uptoSmall : (H : Type) → List (DataW H) → Bool := fun _ ds => decide (uptoBulkAll ds ≤ 1048576)
def OpenSpec.upto (s : _root_.Go.ChangeSpec) : _root_.Go.OpenSpec := { _root_.Go.OpenSpec.ofChange s with cond := some uptoSmall }

/-- 'laws.FnServerForm', WHERE WHAT IT READS IS OF BULK AT MOST 1048576: true; the input reads as it did. -/
def fnServerFormUptoRow : OpenClaim := { program := "ytdpklbomhdpimaadoor", sum := "5fafccd9ffc51d587a7390ba5cb044d63ae3377a339a282d559302eed00328a6", func := "loop.example/plashet/laws.FnServerForm", spec := "fnServerForm", named := ["loop.example/plashet/impl.rowOwners"], apart := false, laid := [("loop.example/plashet/impl.rowOwners", laid_loop_example_plashet_impl_rowOwners)], narrowed := true }
def FnServerFormUptoSaid : Prop := fnServerFormUptoRow.holds Tryd.pinned (OpenSpec.upto fnServerFormSpec)

/-- 'laws.FnExactServerHear', WHERE WHAT IT READS IS OF BULK AT MOST 1048576: true; the input reads as it did. -/
def fnExactServerHearUptoRow : OpenClaim := { program := "ytdpklbomhdpimaadoor", sum := "5fafccd9ffc51d587a7390ba5cb044d63ae3377a339a282d559302eed00328a6", func := "loop.example/plashet/laws.FnExactServerHear", spec := "fnExactServerHear", named := ["loop.example/plashet/impl.rowOwners"], apart := false, laid := [("loop.example/plashet/impl.rowOwners", laid_loop_example_plashet_impl_rowOwners)], narrowed := true }
def FnExactServerHearUptoSaid : Prop := fnExactServerHearUptoRow.holds Tryd.pinned (OpenSpec.upto fnExactServerHearSpec)

/-- 'laws.FnHear', WHERE WHAT IT READS IS OF BULK AT MOST 1048576: true; the input reads as it did. -/
def fnHearUptoRow : OpenClaim := { program := "ytdpklbomhdpimaadoor", sum := "5fafccd9ffc51d587a7390ba5cb044d63ae3377a339a282d559302eed00328a6", func := "loop.example/plashet/laws.FnHear", spec := "fnHear", named := ["loop.example/plashet/impl.rowOwners"], apart := false, laid := [("loop.example/plashet/impl.rowOwners", laid_loop_example_plashet_impl_rowOwners)], narrowed := true }
def FnHearUptoSaid : Prop := fnHearUptoRow.holds Tryd.pinned (OpenSpec.upto fnHearSpec)

/-- 'laws.FnHearTwo', WHERE WHAT IT READS IS OF BULK AT MOST 1048576: true; the input reads as it did. -/
def fnHearTwoUptoRow : OpenClaim := { program := "ytdpklbomhdpimaadoor", sum := "5fafccd9ffc51d587a7390ba5cb044d63ae3377a339a282d559302eed00328a6", func := "loop.example/plashet/laws.FnHearTwo", spec := "fnHearTwo", named := ["loop.example/plashet/impl.rowOwners"], apart := false, laid := [("loop.example/plashet/impl.rowOwners", laid_loop_example_plashet_impl_rowOwners)], narrowed := true }
def FnHearTwoUptoSaid : Prop := fnHearTwoUptoRow.holds Tryd.pinned (OpenSpec.upto fnHearTwoSpec)

/-- 'laws.FnHearAgain', WHERE WHAT IT READS IS OF BULK AT MOST 1048576: true; the input reads as it did. -/
def fnHearAgainUptoRow : OpenClaim := { program := "ytdpklbomhdpimaadoor", sum := "5fafccd9ffc51d587a7390ba5cb044d63ae3377a339a282d559302eed00328a6", func := "loop.example/plashet/laws.FnHearAgain", spec := "fnHearAgain", named := ["loop.example/plashet/impl.rowOwners"], apart := false, laid := [("loop.example/plashet/impl.rowOwners", laid_loop_example_plashet_impl_rowOwners)], narrowed := true }
def FnHearAgainUptoSaid : Prop := fnHearAgainUptoRow.holds Tryd.pinned (OpenSpec.upto fnHearAgainSpec)

/-- 'laws.FnTreeMore', WHERE WHAT IT READS IS OF BULK AT MOST 1048576: true; the input reads as it did. -/
def fnTreeMoreUptoRow : OpenClaim := { program := "ytdpklbomhdpimaadoor", sum := "5fafccd9ffc51d587a7390ba5cb044d63ae3377a339a282d559302eed00328a6", func := "loop.example/plashet/laws.FnTreeMore", spec := "fnTreeMore", unfollowed := true, recurses := true, named := ["loop.example/plashet/impl.rowOwners"], apart := false, laid := [("loop.example/plashet/impl.rowOwners", laid_loop_example_plashet_impl_rowOwners)], narrowed := true }
def FnTreeMoreUptoSaid : Prop := fnTreeMoreUptoRow.holds Tryd.pinned (OpenSpec.upto fnTreeMoreSpec)

/-- 'laws.FnLogCut', WHERE WHAT IT READS IS OF BULK AT MOST 1048576: true; the input reads as it did. -/
def fnLogCutUptoRow : OpenClaim := { program := "ytdpklbomhdpimaadoor", sum := "5fafccd9ffc51d587a7390ba5cb044d63ae3377a339a282d559302eed00328a6", func := "loop.example/plashet/laws.FnLogCut", spec := "fnLogCut", unfollowed := true, recurses := true, named := ["loop.example/plashet/impl.rowOwners"], apart := false, laid := [("loop.example/plashet/impl.rowOwners", laid_loop_example_plashet_impl_rowOwners)], narrowed := true }
def FnLogCutUptoSaid : Prop := fnLogCutUptoRow.holds Tryd.pinned (OpenSpec.upto fnLogCutSpec)

/-- 'laws.FnLogTree', WHERE WHAT IT READS IS OF BULK AT MOST 1048576: true; the input reads as it did. -/
def fnLogTreeUptoRow : OpenClaim := { program := "ytdpklbomhdpimaadoor", sum := "5fafccd9ffc51d587a7390ba5cb044d63ae3377a339a282d559302eed00328a6", func := "loop.example/plashet/laws.FnLogTree", spec := "fnLogTree", unfollowed := true, recurses := true, named := ["loop.example/plashet/impl.rowOwners"], apart := false, laid := [("loop.example/plashet/impl.rowOwners", laid_loop_example_plashet_impl_rowOwners)], narrowed := true }
def FnLogTreeUptoSaid : Prop := fnLogTreeUptoRow.holds Tryd.pinned (OpenSpec.upto fnLogTreeSpec)

/-- 'laws.FnExactLogTree', WHERE WHAT IT READS IS OF BULK AT MOST 1048576: true; the input reads as it did. -/
def fnExactLogTreeUptoRow : OpenClaim := { program := "ytdpklbomhdpimaadoor", sum := "5fafccd9ffc51d587a7390ba5cb044d63ae3377a339a282d559302eed00328a6", func := "loop.example/plashet/laws.FnExactLogTree", spec := "fnExactLogTree", unfollowed := true, recurses := true, named := ["loop.example/plashet/impl.rowOwners"], apart := false, laid := [("loop.example/plashet/impl.rowOwners", laid_loop_example_plashet_impl_rowOwners)], narrowed := true }
def FnExactLogTreeUptoSaid : Prop := fnExactLogTreeUptoRow.holds Tryd.pinned (OpenSpec.upto fnExactLogTreeSpec)

/-- 'laws.FnClientNew', WHERE WHAT IT READS IS OF BULK AT MOST 1048576: true; the input reads as it did. -/
def fnClientNewUptoRow : OpenClaim := { program := "ytdpklbomhdpimaadoor", sum := "5fafccd9ffc51d587a7390ba5cb044d63ae3377a339a282d559302eed00328a6", func := "loop.example/plashet/laws.FnClientNew", spec := "fnClientNew", unfollowed := true, recurses := true, named := ["loop.example/plashet/impl.rowOwners"], apart := false, laid := [("loop.example/plashet/impl.rowOwners", laid_loop_example_plashet_impl_rowOwners)], narrowed := true }
def FnClientNewUptoSaid : Prop := fnClientNewUptoRow.holds Tryd.pinned (OpenSpec.upto fnClientNewSpec)

/-- 'laws.FnExactClientOk', WHERE WHAT IT READS IS OF BULK AT MOST 1048576: true; the input reads as it did. -/
def fnExactClientOkUptoRow : OpenClaim := { program := "ytdpklbomhdpimaadoor", sum := "5fafccd9ffc51d587a7390ba5cb044d63ae3377a339a282d559302eed00328a6", func := "loop.example/plashet/laws.FnExactClientOk", spec := "fnExactClientOk", named := ["loop.example/plashet/impl.rowOwners"], apart := false, laid := [("loop.example/plashet/impl.rowOwners", laid_loop_example_plashet_impl_rowOwners)], narrowed := true }
def FnExactClientOkUptoSaid : Prop := fnExactClientOkUptoRow.holds Tryd.pinned (OpenSpec.upto fnExactClientOkSpec)

/-- 'laws.FnExactClientDo', WHERE WHAT IT READS IS OF BULK AT MOST 1048576: true; the input reads as it did. -/
def fnExactClientDoUptoRow : OpenClaim := { program := "ytdpklbomhdpimaadoor", sum := "5fafccd9ffc51d587a7390ba5cb044d63ae3377a339a282d559302eed00328a6", func := "loop.example/plashet/laws.FnExactClientDo", spec := "fnExactClientDo", named := ["loop.example/plashet/impl.rowOwners"], apart := false, laid := [("loop.example/plashet/impl.rowOwners", laid_loop_example_plashet_impl_rowOwners)], narrowed := true }
def FnExactClientDoUptoSaid : Prop := fnExactClientDoUptoRow.holds Tryd.pinned (OpenSpec.upto fnExactClientDoSpec)

end Rows
end Go.Proofs.YtdpklbomhdpimaaDoor
