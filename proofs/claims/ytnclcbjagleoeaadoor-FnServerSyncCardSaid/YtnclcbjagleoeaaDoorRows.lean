/-
  NARROWER THAN 'FOR EVERY INPUT', by the rows' own cells (each row's printed sentence says how): FnExactServerNews: laid · FnServerForm: laid · FnExactServerFall: laid · FnExactServerSync: laid · FnNews: laid · FnServerFall: laid · FnFallNews: laid · FnServerSync: laid · FnSyncNews: laid · FnExactServerHear: laid · FnHear: laid · FnHearTwo: laid · FnHearAgain: laid.
  DERIVED. THE GIVEN ROWS OF THIS SEAT. 13 by the template 'for every input the law returns true; each argument reads behind the call as it read before'; 0 by the template 'total and deterministic' (their statements: YtnclcbjagleoeaaDoorTotals.lean).
  GIVEN WITH THE SEED: the statements are not yours to turn. If you find one false, say at which input.
  Laid BY PROGRAM, IN A SANDBOX (cutbox-rows.mjs): the forced cells as the released guide's own fill.sh prints them over the translation 10fbfa5f1bb9f489… (all of the seat's roots in one cut). By AI agents, Wed Nov 11 2026. No macro, syntax, notation, axiom, sorry.
-/
import Derived.Test.YtnclcbjagleoeaaDoorChecked
import GoSem.Claim
import GoSem.ClaimJoined
import GoSem.ClaimMapViews
import Derived.JoinedTies
import Derived.KernelRfl
namespace Go.Proofs.YtnclcbjagleoeaaDoor
/- THE CELL 'sum', in the pinned program and in every row, IS THE sha256 OF THE DUMP (.gsa) THAT YtnclcbjagleoeaaDoorProg.lean LOADS. Nothing in Lean hashes anything: it is a label: what it is worth is what the hold of that sum in a sandbox is worth. -/
noncomputable def Tryd.pinned : Pinned := { name := "ytnclcbjagleoeaadoor", sum := "10fbfa5f1bb9f48954a74cc64a8d1bd3c27c78a946ece03ce5bd0dd3bbe3d6b5", checked := Tryd.checked }
namespace Rows
def none {H : Type} : Left H := { results := [], args := [] }

/- WHAT THE LISTED PACKAGE-LEVEL VARIABLES READ AS WHEN THE CALL BEGINS. Each datum BY PROGRAM (the guide's laid-datum.mjs) off the statement by which the dump's own 'gosem.cut.vars' lays the variable. In a bare row this is a premise. The card (YtnclcbjagleoeaaDoorCards.lean) ties it to the program's text. -/
def laid_loop_example_plashet_impl_rowOwners {H : Type} : DataW H := .agg [.lit (.int .i64 0), .lit (.int .i64 1), .lit (.int .i64 1), .lit (.int .i64 1), .lit (.int .i64 0), .lit (.int .i64 0), .lit (.int .i64 0), .lit (.int .i64 0), .lit (.int .i64 0), .lit (.int .i64 0), .lit (.int .i64 0), .lit (.int .i64 2), .lit (.int .i64 2), .lit (.int .i64 2), .lit (.int .i64 2), .lit (.int .i64 2), .lit (.int .i64 2), .lit (.int .i64 0), .lit (.int .i64 0), .lit (.int .i64 0), .lit (.int .i64 0), .lit (.int .i64 3), .lit (.int .i64 3), .lit (.int .i64 3), .lit (.int .i64 3), .lit (.int .i64 3), .lit (.int .i64 3), .lit (.int .i64 0), .lit (.int .i64 0), .lit (.int .i64 0), .lit (.int .i64 0), .lit (.int .i64 4), .lit (.int .i64 4), .lit (.int .i64 4), .lit (.int .i64 4), .lit (.int .i64 4), .lit (.int .i64 4)]

/-- 'laws.FnExactServerNews': WHATEVER THE INPUT: true; the input reads as it did. -/
def fnExactServerNewsSpec : ChangeSpec := { name := "fnExactServerNews", vars := ["loop.example/plashet/impl.rowOwners"], fn := fun _ => fun
  | [d1, d2, g1] => { results := [.lit (.bool true)], args := [d1, d2], vars := [g1] }
  | _ => none }
def fnExactServerNewsRow : OpenClaim := { program := "ytnclcbjagleoeaadoor", sum := "10fbfa5f1bb9f48954a74cc64a8d1bd3c27c78a946ece03ce5bd0dd3bbe3d6b5", func := "loop.example/plashet/laws.FnExactServerNews", spec := "fnExactServerNews", named := ["loop.example/plashet/impl.rowOwners"], apart := false, laid := [("loop.example/plashet/impl.rowOwners", laid_loop_example_plashet_impl_rowOwners)] }
def FnExactServerNewsSaid : Prop := fnExactServerNewsRow.holds Tryd.pinned (OpenSpec.ofChange fnExactServerNewsSpec)

/-- ITS FALSE NEIGHBOUR: 'it returns false'. Refute it at one input. -/
def fnExactServerNewsWrong : ChangeSpec := { name := "fnExactServerNews", vars := ["loop.example/plashet/impl.rowOwners"], fn := fun _ => fun
  | [d1, d2, g1] => { results := [.lit (.bool false)], args := [d1, d2], vars := [g1] }
  | _ => none }
def FnExactServerNewsWrongFalsely : Prop := fnExactServerNewsRow.holds Tryd.pinned (OpenSpec.ofChange fnExactServerNewsWrong)

/-- 'laws.FnServerForm': WHATEVER THE INPUT: true; the input reads as it did. -/
def fnServerFormSpec : ChangeSpec := { name := "fnServerForm", vars := ["loop.example/plashet/impl.rowOwners"], fn := fun _ => fun
  | [d, g1] => { results := [.lit (.bool true)], args := [d], vars := [g1] }
  | _ => none }
def fnServerFormRow : OpenClaim := { program := "ytnclcbjagleoeaadoor", sum := "10fbfa5f1bb9f48954a74cc64a8d1bd3c27c78a946ece03ce5bd0dd3bbe3d6b5", func := "loop.example/plashet/laws.FnServerForm", spec := "fnServerForm", named := ["loop.example/plashet/impl.rowOwners"], apart := false, laid := [("loop.example/plashet/impl.rowOwners", laid_loop_example_plashet_impl_rowOwners)] }
def FnServerFormSaid : Prop := fnServerFormRow.holds Tryd.pinned (OpenSpec.ofChange fnServerFormSpec)

/-- ITS FALSE NEIGHBOUR: 'it returns false'. Refute it at one input. -/
def fnServerFormWrong : ChangeSpec := { name := "fnServerForm", vars := ["loop.example/plashet/impl.rowOwners"], fn := fun _ => fun
  | [d, g1] => { results := [.lit (.bool false)], args := [d], vars := [g1] }
  | _ => none }
def FnServerFormWrongFalsely : Prop := fnServerFormRow.holds Tryd.pinned (OpenSpec.ofChange fnServerFormWrong)

/-- 'laws.FnExactServerFall': WHATEVER THE INPUT: true; the input reads as it did. -/
def fnExactServerFallSpec : ChangeSpec := { name := "fnExactServerFall", vars := ["loop.example/plashet/impl.rowOwners"], fn := fun _ => fun
  | [d1, d2, g1] => { results := [.lit (.bool true)], args := [d1, d2], vars := [g1] }
  | _ => none }
def fnExactServerFallRow : OpenClaim := { program := "ytnclcbjagleoeaadoor", sum := "10fbfa5f1bb9f48954a74cc64a8d1bd3c27c78a946ece03ce5bd0dd3bbe3d6b5", func := "loop.example/plashet/laws.FnExactServerFall", spec := "fnExactServerFall", named := ["loop.example/plashet/impl.rowOwners"], apart := false, laid := [("loop.example/plashet/impl.rowOwners", laid_loop_example_plashet_impl_rowOwners)] }
def FnExactServerFallSaid : Prop := fnExactServerFallRow.holds Tryd.pinned (OpenSpec.ofChange fnExactServerFallSpec)

/-- ITS FALSE NEIGHBOUR: 'it returns false'. Refute it at one input. -/
def fnExactServerFallWrong : ChangeSpec := { name := "fnExactServerFall", vars := ["loop.example/plashet/impl.rowOwners"], fn := fun _ => fun
  | [d1, d2, g1] => { results := [.lit (.bool false)], args := [d1, d2], vars := [g1] }
  | _ => none }
def FnExactServerFallWrongFalsely : Prop := fnExactServerFallRow.holds Tryd.pinned (OpenSpec.ofChange fnExactServerFallWrong)

/-- 'laws.FnExactServerSync': WHATEVER THE INPUT: true; the input reads as it did. -/
def fnExactServerSyncSpec : ChangeSpec := { name := "fnExactServerSync", vars := ["loop.example/plashet/impl.rowOwners"], fn := fun _ => fun
  | [d, g1] => { results := [.lit (.bool true)], args := [d], vars := [g1] }
  | _ => none }
def fnExactServerSyncRow : OpenClaim := { program := "ytnclcbjagleoeaadoor", sum := "10fbfa5f1bb9f48954a74cc64a8d1bd3c27c78a946ece03ce5bd0dd3bbe3d6b5", func := "loop.example/plashet/laws.FnExactServerSync", spec := "fnExactServerSync", named := ["loop.example/plashet/impl.rowOwners"], apart := false, laid := [("loop.example/plashet/impl.rowOwners", laid_loop_example_plashet_impl_rowOwners)] }
def FnExactServerSyncSaid : Prop := fnExactServerSyncRow.holds Tryd.pinned (OpenSpec.ofChange fnExactServerSyncSpec)

/-- ITS FALSE NEIGHBOUR: 'it returns false'. Refute it at one input. -/
def fnExactServerSyncWrong : ChangeSpec := { name := "fnExactServerSync", vars := ["loop.example/plashet/impl.rowOwners"], fn := fun _ => fun
  | [d, g1] => { results := [.lit (.bool false)], args := [d], vars := [g1] }
  | _ => none }
def FnExactServerSyncWrongFalsely : Prop := fnExactServerSyncRow.holds Tryd.pinned (OpenSpec.ofChange fnExactServerSyncWrong)

/-- 'laws.FnNews': WHATEVER THE INPUT: true; the input reads as it did. -/
def fnNewsSpec : ChangeSpec := { name := "fnNews", vars := ["loop.example/plashet/impl.rowOwners"], fn := fun _ => fun
  | [d1, d2, g1] => { results := [.lit (.bool true)], args := [d1, d2], vars := [g1] }
  | _ => none }
def fnNewsRow : OpenClaim := { program := "ytnclcbjagleoeaadoor", sum := "10fbfa5f1bb9f48954a74cc64a8d1bd3c27c78a946ece03ce5bd0dd3bbe3d6b5", func := "loop.example/plashet/laws.FnNews", spec := "fnNews", named := ["loop.example/plashet/impl.rowOwners"], apart := false, laid := [("loop.example/plashet/impl.rowOwners", laid_loop_example_plashet_impl_rowOwners)] }
def FnNewsSaid : Prop := fnNewsRow.holds Tryd.pinned (OpenSpec.ofChange fnNewsSpec)

/-- ITS FALSE NEIGHBOUR: 'it returns false'. Refute it at one input. -/
def fnNewsWrong : ChangeSpec := { name := "fnNews", vars := ["loop.example/plashet/impl.rowOwners"], fn := fun _ => fun
  | [d1, d2, g1] => { results := [.lit (.bool false)], args := [d1, d2], vars := [g1] }
  | _ => none }
def FnNewsWrongFalsely : Prop := fnNewsRow.holds Tryd.pinned (OpenSpec.ofChange fnNewsWrong)

/-- 'laws.FnServerFall': WHATEVER THE INPUT: true; the input reads as it did. -/
def fnServerFallSpec : ChangeSpec := { name := "fnServerFall", vars := ["loop.example/plashet/impl.rowOwners"], fn := fun _ => fun
  | [d, g1] => { results := [.lit (.bool true)], args := [d], vars := [g1] }
  | _ => none }
def fnServerFallRow : OpenClaim := { program := "ytnclcbjagleoeaadoor", sum := "10fbfa5f1bb9f48954a74cc64a8d1bd3c27c78a946ece03ce5bd0dd3bbe3d6b5", func := "loop.example/plashet/laws.FnServerFall", spec := "fnServerFall", named := ["loop.example/plashet/impl.rowOwners"], apart := false, laid := [("loop.example/plashet/impl.rowOwners", laid_loop_example_plashet_impl_rowOwners)] }
def FnServerFallSaid : Prop := fnServerFallRow.holds Tryd.pinned (OpenSpec.ofChange fnServerFallSpec)

/-- ITS FALSE NEIGHBOUR: 'it returns false'. Refute it at one input. -/
def fnServerFallWrong : ChangeSpec := { name := "fnServerFall", vars := ["loop.example/plashet/impl.rowOwners"], fn := fun _ => fun
  | [d, g1] => { results := [.lit (.bool false)], args := [d], vars := [g1] }
  | _ => none }
def FnServerFallWrongFalsely : Prop := fnServerFallRow.holds Tryd.pinned (OpenSpec.ofChange fnServerFallWrong)

/-- 'laws.FnFallNews': WHATEVER THE INPUT: true; the input reads as it did. -/
def fnFallNewsSpec : ChangeSpec := { name := "fnFallNews", vars := ["loop.example/plashet/impl.rowOwners"], fn := fun _ => fun
  | [d1, d2, g1] => { results := [.lit (.bool true)], args := [d1, d2], vars := [g1] }
  | _ => none }
def fnFallNewsRow : OpenClaim := { program := "ytnclcbjagleoeaadoor", sum := "10fbfa5f1bb9f48954a74cc64a8d1bd3c27c78a946ece03ce5bd0dd3bbe3d6b5", func := "loop.example/plashet/laws.FnFallNews", spec := "fnFallNews", named := ["loop.example/plashet/impl.rowOwners"], apart := false, laid := [("loop.example/plashet/impl.rowOwners", laid_loop_example_plashet_impl_rowOwners)] }
def FnFallNewsSaid : Prop := fnFallNewsRow.holds Tryd.pinned (OpenSpec.ofChange fnFallNewsSpec)

/-- ITS FALSE NEIGHBOUR: 'it returns false'. Refute it at one input. -/
def fnFallNewsWrong : ChangeSpec := { name := "fnFallNews", vars := ["loop.example/plashet/impl.rowOwners"], fn := fun _ => fun
  | [d1, d2, g1] => { results := [.lit (.bool false)], args := [d1, d2], vars := [g1] }
  | _ => none }
def FnFallNewsWrongFalsely : Prop := fnFallNewsRow.holds Tryd.pinned (OpenSpec.ofChange fnFallNewsWrong)

/-- 'laws.FnServerSync': WHATEVER THE INPUT: true; the input reads as it did. -/
def fnServerSyncSpec : ChangeSpec := { name := "fnServerSync", vars := ["loop.example/plashet/impl.rowOwners"], fn := fun _ => fun
  | [d, g1] => { results := [.lit (.bool true)], args := [d], vars := [g1] }
  | _ => none }
def fnServerSyncRow : OpenClaim := { program := "ytnclcbjagleoeaadoor", sum := "10fbfa5f1bb9f48954a74cc64a8d1bd3c27c78a946ece03ce5bd0dd3bbe3d6b5", func := "loop.example/plashet/laws.FnServerSync", spec := "fnServerSync", named := ["loop.example/plashet/impl.rowOwners"], apart := false, laid := [("loop.example/plashet/impl.rowOwners", laid_loop_example_plashet_impl_rowOwners)] }
def FnServerSyncSaid : Prop := fnServerSyncRow.holds Tryd.pinned (OpenSpec.ofChange fnServerSyncSpec)

/-- ITS FALSE NEIGHBOUR: 'it returns false'. Refute it at one input. -/
def fnServerSyncWrong : ChangeSpec := { name := "fnServerSync", vars := ["loop.example/plashet/impl.rowOwners"], fn := fun _ => fun
  | [d, g1] => { results := [.lit (.bool false)], args := [d], vars := [g1] }
  | _ => none }
def FnServerSyncWrongFalsely : Prop := fnServerSyncRow.holds Tryd.pinned (OpenSpec.ofChange fnServerSyncWrong)

/-- 'laws.FnSyncNews': WHATEVER THE INPUT: true; the input reads as it did. -/
def fnSyncNewsSpec : ChangeSpec := { name := "fnSyncNews", vars := ["loop.example/plashet/impl.rowOwners"], fn := fun _ => fun
  | [d, g1] => { results := [.lit (.bool true)], args := [d], vars := [g1] }
  | _ => none }
def fnSyncNewsRow : OpenClaim := { program := "ytnclcbjagleoeaadoor", sum := "10fbfa5f1bb9f48954a74cc64a8d1bd3c27c78a946ece03ce5bd0dd3bbe3d6b5", func := "loop.example/plashet/laws.FnSyncNews", spec := "fnSyncNews", named := ["loop.example/plashet/impl.rowOwners"], apart := false, laid := [("loop.example/plashet/impl.rowOwners", laid_loop_example_plashet_impl_rowOwners)] }
def FnSyncNewsSaid : Prop := fnSyncNewsRow.holds Tryd.pinned (OpenSpec.ofChange fnSyncNewsSpec)

/-- ITS FALSE NEIGHBOUR: 'it returns false'. Refute it at one input. -/
def fnSyncNewsWrong : ChangeSpec := { name := "fnSyncNews", vars := ["loop.example/plashet/impl.rowOwners"], fn := fun _ => fun
  | [d, g1] => { results := [.lit (.bool false)], args := [d], vars := [g1] }
  | _ => none }
def FnSyncNewsWrongFalsely : Prop := fnSyncNewsRow.holds Tryd.pinned (OpenSpec.ofChange fnSyncNewsWrong)

/-- 'laws.FnExactServerHear': WHATEVER THE INPUT: true; the input reads as it did. -/
def fnExactServerHearSpec : ChangeSpec := { name := "fnExactServerHear", vars := ["loop.example/plashet/impl.rowOwners"], fn := fun _ => fun
  | [d1, d2, g1] => { results := [.lit (.bool true)], args := [d1, d2], vars := [g1] }
  | _ => none }
def fnExactServerHearRow : OpenClaim := { program := "ytnclcbjagleoeaadoor", sum := "10fbfa5f1bb9f48954a74cc64a8d1bd3c27c78a946ece03ce5bd0dd3bbe3d6b5", func := "loop.example/plashet/laws.FnExactServerHear", spec := "fnExactServerHear", named := ["loop.example/plashet/impl.rowOwners"], apart := false, laid := [("loop.example/plashet/impl.rowOwners", laid_loop_example_plashet_impl_rowOwners)] }
def FnExactServerHearSaid : Prop := fnExactServerHearRow.holds Tryd.pinned (OpenSpec.ofChange fnExactServerHearSpec)

/-- ITS FALSE NEIGHBOUR: 'it returns false'. Refute it at one input. -/
def fnExactServerHearWrong : ChangeSpec := { name := "fnExactServerHear", vars := ["loop.example/plashet/impl.rowOwners"], fn := fun _ => fun
  | [d1, d2, g1] => { results := [.lit (.bool false)], args := [d1, d2], vars := [g1] }
  | _ => none }
def FnExactServerHearWrongFalsely : Prop := fnExactServerHearRow.holds Tryd.pinned (OpenSpec.ofChange fnExactServerHearWrong)

/-- 'laws.FnHear': WHATEVER THE INPUT: true; the input reads as it did. -/
def fnHearSpec : ChangeSpec := { name := "fnHear", vars := ["loop.example/plashet/impl.rowOwners"], fn := fun _ => fun
  | [d, g1] => { results := [.lit (.bool true)], args := [d], vars := [g1] }
  | _ => none }
def fnHearRow : OpenClaim := { program := "ytnclcbjagleoeaadoor", sum := "10fbfa5f1bb9f48954a74cc64a8d1bd3c27c78a946ece03ce5bd0dd3bbe3d6b5", func := "loop.example/plashet/laws.FnHear", spec := "fnHear", named := ["loop.example/plashet/impl.rowOwners"], apart := false, laid := [("loop.example/plashet/impl.rowOwners", laid_loop_example_plashet_impl_rowOwners)] }
def FnHearSaid : Prop := fnHearRow.holds Tryd.pinned (OpenSpec.ofChange fnHearSpec)

/-- ITS FALSE NEIGHBOUR: 'it returns false'. Refute it at one input. -/
def fnHearWrong : ChangeSpec := { name := "fnHear", vars := ["loop.example/plashet/impl.rowOwners"], fn := fun _ => fun
  | [d, g1] => { results := [.lit (.bool false)], args := [d], vars := [g1] }
  | _ => none }
def FnHearWrongFalsely : Prop := fnHearRow.holds Tryd.pinned (OpenSpec.ofChange fnHearWrong)

/-- 'laws.FnHearTwo': WHATEVER THE INPUT: true; the input reads as it did. -/
def fnHearTwoSpec : ChangeSpec := { name := "fnHearTwo", vars := ["loop.example/plashet/impl.rowOwners"], fn := fun _ => fun
  | [d1, d2, g1] => { results := [.lit (.bool true)], args := [d1, d2], vars := [g1] }
  | _ => none }
def fnHearTwoRow : OpenClaim := { program := "ytnclcbjagleoeaadoor", sum := "10fbfa5f1bb9f48954a74cc64a8d1bd3c27c78a946ece03ce5bd0dd3bbe3d6b5", func := "loop.example/plashet/laws.FnHearTwo", spec := "fnHearTwo", named := ["loop.example/plashet/impl.rowOwners"], apart := false, laid := [("loop.example/plashet/impl.rowOwners", laid_loop_example_plashet_impl_rowOwners)] }
def FnHearTwoSaid : Prop := fnHearTwoRow.holds Tryd.pinned (OpenSpec.ofChange fnHearTwoSpec)

/-- ITS FALSE NEIGHBOUR: 'it returns false'. Refute it at one input. -/
def fnHearTwoWrong : ChangeSpec := { name := "fnHearTwo", vars := ["loop.example/plashet/impl.rowOwners"], fn := fun _ => fun
  | [d1, d2, g1] => { results := [.lit (.bool false)], args := [d1, d2], vars := [g1] }
  | _ => none }
def FnHearTwoWrongFalsely : Prop := fnHearTwoRow.holds Tryd.pinned (OpenSpec.ofChange fnHearTwoWrong)

/-- 'laws.FnHearAgain': WHATEVER THE INPUT: true; the input reads as it did. -/
def fnHearAgainSpec : ChangeSpec := { name := "fnHearAgain", vars := ["loop.example/plashet/impl.rowOwners"], fn := fun _ => fun
  | [d, g1] => { results := [.lit (.bool true)], args := [d], vars := [g1] }
  | _ => none }
def fnHearAgainRow : OpenClaim := { program := "ytnclcbjagleoeaadoor", sum := "10fbfa5f1bb9f48954a74cc64a8d1bd3c27c78a946ece03ce5bd0dd3bbe3d6b5", func := "loop.example/plashet/laws.FnHearAgain", spec := "fnHearAgain", named := ["loop.example/plashet/impl.rowOwners"], apart := false, laid := [("loop.example/plashet/impl.rowOwners", laid_loop_example_plashet_impl_rowOwners)] }
def FnHearAgainSaid : Prop := fnHearAgainRow.holds Tryd.pinned (OpenSpec.ofChange fnHearAgainSpec)

/-- ITS FALSE NEIGHBOUR: 'it returns false'. Refute it at one input. -/
def fnHearAgainWrong : ChangeSpec := { name := "fnHearAgain", vars := ["loop.example/plashet/impl.rowOwners"], fn := fun _ => fun
  | [d, g1] => { results := [.lit (.bool false)], args := [d], vars := [g1] }
  | _ => none }
def FnHearAgainWrongFalsely : Prop := fnHearAgainRow.holds Tryd.pinned (OpenSpec.ofChange fnHearAgainWrong)

/- THE SECOND FORM. 'bulk': how many values and letters a reading holds, each counted each time it is reached (what is shared counts as often as it is met; a slice's spare places count too). A statement '..UptoSaid' is the law's where the arguments, and the package variables that the reading takes, are together of bulk at most 1048576: NARROWER than '..Said'. Prove '..Said' where nothing that the law and all that it calls make is longer than what came in: it says more and counts as full. Else prove '..UptoSaid'. A law counts once. -/
mutual
def uptoBulk {H : Type} : DataW H → Nat
  | .lit (.string bytes) => bytes.length + 1
  | .lit _ => 1
  | .nil => 1
  | .ptr d => uptoBulk d + 1
  | .slice elems spare => uptoBulkAll elems + uptoBulkAll spare + 1
  | .agg parts => uptoBulkAll parts + 1
  | .iface _ d => uptoBulk d + 1
  | .map entries => uptoBulkEntries entries + 1
  | .held _ => 1
def uptoBulkAll {H : Type} : List (DataW H) → Nat
  | [] => 0
  | d :: r => uptoBulk d + uptoBulkAll r
def uptoBulkEntries {H : Type} : List (Lit × DataW H) → Nat
  | [] => 0
  | x :: r => uptoBulkEntry x + uptoBulkEntries r
def uptoBulkEntry {H : Type} : Lit × DataW H → Nat
  | (.string bytes, d) => bytes.length + uptoBulk d + 1
  | (_, d) => uptoBulk d + 1
 end
def uptoSmall : (H : Type) → List (DataW H) → Bool := fun _ ds => decide (uptoBulkAll ds ≤ 1048576)
def OpenSpec.upto (s : _root_.Go.ChangeSpec) : _root_.Go.OpenSpec := { _root_.Go.OpenSpec.ofChange s with cond := some uptoSmall }

/-- 'laws.FnExactServerNews', WHERE WHAT IT READS IS OF BULK AT MOST 1048576: true; the input reads as it did. -/
def fnExactServerNewsUptoRow : OpenClaim := { program := "ytnclcbjagleoeaadoor", sum := "10fbfa5f1bb9f48954a74cc64a8d1bd3c27c78a946ece03ce5bd0dd3bbe3d6b5", func := "loop.example/plashet/laws.FnExactServerNews", spec := "fnExactServerNews", named := ["loop.example/plashet/impl.rowOwners"], apart := false, laid := [("loop.example/plashet/impl.rowOwners", laid_loop_example_plashet_impl_rowOwners)], narrowed := true }
def FnExactServerNewsUptoSaid : Prop := fnExactServerNewsUptoRow.holds Tryd.pinned (OpenSpec.upto fnExactServerNewsSpec)

/-- 'laws.FnServerForm', WHERE WHAT IT READS IS OF BULK AT MOST 1048576: true; the input reads as it did. -/
def fnServerFormUptoRow : OpenClaim := { program := "ytnclcbjagleoeaadoor", sum := "10fbfa5f1bb9f48954a74cc64a8d1bd3c27c78a946ece03ce5bd0dd3bbe3d6b5", func := "loop.example/plashet/laws.FnServerForm", spec := "fnServerForm", named := ["loop.example/plashet/impl.rowOwners"], apart := false, laid := [("loop.example/plashet/impl.rowOwners", laid_loop_example_plashet_impl_rowOwners)], narrowed := true }
def FnServerFormUptoSaid : Prop := fnServerFormUptoRow.holds Tryd.pinned (OpenSpec.upto fnServerFormSpec)

/-- 'laws.FnExactServerFall', WHERE WHAT IT READS IS OF BULK AT MOST 1048576: true; the input reads as it did. -/
def fnExactServerFallUptoRow : OpenClaim := { program := "ytnclcbjagleoeaadoor", sum := "10fbfa5f1bb9f48954a74cc64a8d1bd3c27c78a946ece03ce5bd0dd3bbe3d6b5", func := "loop.example/plashet/laws.FnExactServerFall", spec := "fnExactServerFall", named := ["loop.example/plashet/impl.rowOwners"], apart := false, laid := [("loop.example/plashet/impl.rowOwners", laid_loop_example_plashet_impl_rowOwners)], narrowed := true }
def FnExactServerFallUptoSaid : Prop := fnExactServerFallUptoRow.holds Tryd.pinned (OpenSpec.upto fnExactServerFallSpec)

/-- 'laws.FnExactServerSync', WHERE WHAT IT READS IS OF BULK AT MOST 1048576: true; the input reads as it did. -/
def fnExactServerSyncUptoRow : OpenClaim := { program := "ytnclcbjagleoeaadoor", sum := "10fbfa5f1bb9f48954a74cc64a8d1bd3c27c78a946ece03ce5bd0dd3bbe3d6b5", func := "loop.example/plashet/laws.FnExactServerSync", spec := "fnExactServerSync", named := ["loop.example/plashet/impl.rowOwners"], apart := false, laid := [("loop.example/plashet/impl.rowOwners", laid_loop_example_plashet_impl_rowOwners)], narrowed := true }
def FnExactServerSyncUptoSaid : Prop := fnExactServerSyncUptoRow.holds Tryd.pinned (OpenSpec.upto fnExactServerSyncSpec)

/-- 'laws.FnNews', WHERE WHAT IT READS IS OF BULK AT MOST 1048576: true; the input reads as it did. -/
def fnNewsUptoRow : OpenClaim := { program := "ytnclcbjagleoeaadoor", sum := "10fbfa5f1bb9f48954a74cc64a8d1bd3c27c78a946ece03ce5bd0dd3bbe3d6b5", func := "loop.example/plashet/laws.FnNews", spec := "fnNews", named := ["loop.example/plashet/impl.rowOwners"], apart := false, laid := [("loop.example/plashet/impl.rowOwners", laid_loop_example_plashet_impl_rowOwners)], narrowed := true }
def FnNewsUptoSaid : Prop := fnNewsUptoRow.holds Tryd.pinned (OpenSpec.upto fnNewsSpec)

/-- 'laws.FnServerFall', WHERE WHAT IT READS IS OF BULK AT MOST 1048576: true; the input reads as it did. -/
def fnServerFallUptoRow : OpenClaim := { program := "ytnclcbjagleoeaadoor", sum := "10fbfa5f1bb9f48954a74cc64a8d1bd3c27c78a946ece03ce5bd0dd3bbe3d6b5", func := "loop.example/plashet/laws.FnServerFall", spec := "fnServerFall", named := ["loop.example/plashet/impl.rowOwners"], apart := false, laid := [("loop.example/plashet/impl.rowOwners", laid_loop_example_plashet_impl_rowOwners)], narrowed := true }
def FnServerFallUptoSaid : Prop := fnServerFallUptoRow.holds Tryd.pinned (OpenSpec.upto fnServerFallSpec)

/-- 'laws.FnFallNews', WHERE WHAT IT READS IS OF BULK AT MOST 1048576: true; the input reads as it did. -/
def fnFallNewsUptoRow : OpenClaim := { program := "ytnclcbjagleoeaadoor", sum := "10fbfa5f1bb9f48954a74cc64a8d1bd3c27c78a946ece03ce5bd0dd3bbe3d6b5", func := "loop.example/plashet/laws.FnFallNews", spec := "fnFallNews", named := ["loop.example/plashet/impl.rowOwners"], apart := false, laid := [("loop.example/plashet/impl.rowOwners", laid_loop_example_plashet_impl_rowOwners)], narrowed := true }
def FnFallNewsUptoSaid : Prop := fnFallNewsUptoRow.holds Tryd.pinned (OpenSpec.upto fnFallNewsSpec)

/-- 'laws.FnServerSync', WHERE WHAT IT READS IS OF BULK AT MOST 1048576: true; the input reads as it did. -/
def fnServerSyncUptoRow : OpenClaim := { program := "ytnclcbjagleoeaadoor", sum := "10fbfa5f1bb9f48954a74cc64a8d1bd3c27c78a946ece03ce5bd0dd3bbe3d6b5", func := "loop.example/plashet/laws.FnServerSync", spec := "fnServerSync", named := ["loop.example/plashet/impl.rowOwners"], apart := false, laid := [("loop.example/plashet/impl.rowOwners", laid_loop_example_plashet_impl_rowOwners)], narrowed := true }
def FnServerSyncUptoSaid : Prop := fnServerSyncUptoRow.holds Tryd.pinned (OpenSpec.upto fnServerSyncSpec)

/-- 'laws.FnSyncNews', WHERE WHAT IT READS IS OF BULK AT MOST 1048576: true; the input reads as it did. -/
def fnSyncNewsUptoRow : OpenClaim := { program := "ytnclcbjagleoeaadoor", sum := "10fbfa5f1bb9f48954a74cc64a8d1bd3c27c78a946ece03ce5bd0dd3bbe3d6b5", func := "loop.example/plashet/laws.FnSyncNews", spec := "fnSyncNews", named := ["loop.example/plashet/impl.rowOwners"], apart := false, laid := [("loop.example/plashet/impl.rowOwners", laid_loop_example_plashet_impl_rowOwners)], narrowed := true }
def FnSyncNewsUptoSaid : Prop := fnSyncNewsUptoRow.holds Tryd.pinned (OpenSpec.upto fnSyncNewsSpec)

/-- 'laws.FnExactServerHear', WHERE WHAT IT READS IS OF BULK AT MOST 1048576: true; the input reads as it did. -/
def fnExactServerHearUptoRow : OpenClaim := { program := "ytnclcbjagleoeaadoor", sum := "10fbfa5f1bb9f48954a74cc64a8d1bd3c27c78a946ece03ce5bd0dd3bbe3d6b5", func := "loop.example/plashet/laws.FnExactServerHear", spec := "fnExactServerHear", named := ["loop.example/plashet/impl.rowOwners"], apart := false, laid := [("loop.example/plashet/impl.rowOwners", laid_loop_example_plashet_impl_rowOwners)], narrowed := true }
def FnExactServerHearUptoSaid : Prop := fnExactServerHearUptoRow.holds Tryd.pinned (OpenSpec.upto fnExactServerHearSpec)

/-- 'laws.FnHear', WHERE WHAT IT READS IS OF BULK AT MOST 1048576: true; the input reads as it did. -/
def fnHearUptoRow : OpenClaim := { program := "ytnclcbjagleoeaadoor", sum := "10fbfa5f1bb9f48954a74cc64a8d1bd3c27c78a946ece03ce5bd0dd3bbe3d6b5", func := "loop.example/plashet/laws.FnHear", spec := "fnHear", named := ["loop.example/plashet/impl.rowOwners"], apart := false, laid := [("loop.example/plashet/impl.rowOwners", laid_loop_example_plashet_impl_rowOwners)], narrowed := true }
def FnHearUptoSaid : Prop := fnHearUptoRow.holds Tryd.pinned (OpenSpec.upto fnHearSpec)

/-- 'laws.FnHearTwo', WHERE WHAT IT READS IS OF BULK AT MOST 1048576: true; the input reads as it did. -/
def fnHearTwoUptoRow : OpenClaim := { program := "ytnclcbjagleoeaadoor", sum := "10fbfa5f1bb9f48954a74cc64a8d1bd3c27c78a946ece03ce5bd0dd3bbe3d6b5", func := "loop.example/plashet/laws.FnHearTwo", spec := "fnHearTwo", named := ["loop.example/plashet/impl.rowOwners"], apart := false, laid := [("loop.example/plashet/impl.rowOwners", laid_loop_example_plashet_impl_rowOwners)], narrowed := true }
def FnHearTwoUptoSaid : Prop := fnHearTwoUptoRow.holds Tryd.pinned (OpenSpec.upto fnHearTwoSpec)

/-- 'laws.FnHearAgain', WHERE WHAT IT READS IS OF BULK AT MOST 1048576: true; the input reads as it did. -/
def fnHearAgainUptoRow : OpenClaim := { program := "ytnclcbjagleoeaadoor", sum := "10fbfa5f1bb9f48954a74cc64a8d1bd3c27c78a946ece03ce5bd0dd3bbe3d6b5", func := "loop.example/plashet/laws.FnHearAgain", spec := "fnHearAgain", named := ["loop.example/plashet/impl.rowOwners"], apart := false, laid := [("loop.example/plashet/impl.rowOwners", laid_loop_example_plashet_impl_rowOwners)], narrowed := true }
def FnHearAgainUptoSaid : Prop := fnHearAgainUptoRow.holds Tryd.pinned (OpenSpec.upto fnHearAgainSpec)

end Rows
end Go.Proofs.YtnclcbjagleoeaaDoor
