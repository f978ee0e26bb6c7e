/- Joined by a program (wip/shake.py): the declarations that 'YtnclcbjagleoeaaDoorCardFnServerFall' reaches. -/
import Derived.Test.YtnclcbjagleoeaaDoorZQ15
namespace Go.Proofs.YtnclcbjagleoeaaDoor
open Go
theorem fnServerFallCard_holds : Rows.FnServerFallCardSaid :=
  Claim7.holds_tied_plain_at .later [] [.data] true (true, "57cd4da34d3600158406d32b39c8655b8f1177fc2a013a7f45b784ef106e8989") false
    fnServerFall_holds (fun _ h => by cases h) (by kernel_rfl) (fun _ h => by cases h) fnServerFall_row_tie rfl ⟨rfl, rfl⟩ (by kernel_rfl) rfl
    (fun f fn hf hfn => by
      obtain rfl : f = 8 := Option.some.inj ((show Tryd.prog.funcNamed "loop.example/plashet/laws.FnServerFall" = some 8 by kernel_rfl).symm.trans hf) |>.symm
      obtain rfl : fn = Tryd.f8 := (Option.some.inj (Tryd.func8.symm.trans hfn)).symm
      exact ⟨by kernel_rfl, fun j t ht => by
        rw [Tryd.params8] at ht
        have hm : t ∈ [36] := by have := Array.mem_of_getElem? ht; simp at this; first | (subst this; simp; done) | (rcases this with h | h <;> simp [h]; done) | (rcases this with h | h | h <;> simp [h]; done)
        have hall : ([36].all fun u => !Tryd.prog.wantsStandIn u) = true := by kernel_rfl
        exact (show Tryd.prog.wantsStandIn t = false by simpa using List.all_eq_true.1 hall t hm)⟩)
    (by kernel_rfl)
#print axioms fnServerFallCard_holds
end Go.Proofs.YtnclcbjagleoeaaDoor
