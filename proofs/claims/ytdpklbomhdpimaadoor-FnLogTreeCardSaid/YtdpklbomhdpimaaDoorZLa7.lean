/- Joined by a program (wip/shake.py): the declarations that 'YtdpklbomhdpimaaDoorCardFnLogTree' reaches. -/
import Derived.Test.YtdpklbomhdpimaaDoorZLa6
set_option linter.unusedVariables false
set_option linter.unusedSimpArgs false
set_option linter.unusedSectionVars false
namespace Go.Proofs.YtdpklbomhdpimaaDoor
theorem fnLogTree_holds : Rows.FnLogTreeSaid := fnLogTree.proved
end Go.Proofs.YtdpklbomhdpimaaDoor
namespace Go.Proofs.YtdpklbomhdpimaaDoor
open Go
theorem fnLogTreeCard_holds : Rows.FnLogTreeCardSaid :=
 Claim7.holds_tied_plain_at .later [] [.data] true (true, "7cf51d42195f9c9b62136c7a8c7100de8c719db44b2d768f6f24e257b781f613") true
  fnLogTree_holds (fun _ h => by cases h) (by kernel_rfl) (fun _ h => by cases h) fnLogTree_row_tie rfl ⟨rfl, rfl⟩ (by kernel_rfl) rfl
  (fun f fn hf hfn => by
   obtain rfl : f = 10 := Option.some.inj ((show Tryd.prog.funcNamed "loop.example/plashet/laws.FnLogTree" = some 10 by kernel_rfl).symm.trans hf) |>.symm
   obtain rfl : fn = Tryd.f10 := (Option.some.inj (Tryd.func10.symm.trans hfn)).symm
   exact ⟨by kernel_rfl, fun j t ht => by
    rw [Tryd.params10] at ht
    have hm : t ∈ [22] := by have := Array.mem_of_getElem? ht; simp at this; first | (subst this; simp; done) | (rcases this with h | h <;> simp [h]; done) | (rcases this with h | h | h <;> simp [h]; done)
    have hall : ([22].all fun u => !Tryd.prog.wantsStandIn u) = true := by kernel_rfl
    exact (show Tryd.prog.wantsStandIn t = false by simpa using List.all_eq_true.1 hall t hm)⟩)
  (by kernel_rfl)
#print axioms fnLogTreeCard_holds
end Go.Proofs.YtdpklbomhdpimaaDoor
