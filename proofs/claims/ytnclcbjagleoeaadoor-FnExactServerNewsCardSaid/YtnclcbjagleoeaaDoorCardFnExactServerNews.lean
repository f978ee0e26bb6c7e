/- The card of 'FnExactServerNews': its row, tied to the program's text. -/
import Derived.Test.YtnclcbjagleoeaaDoorRowFnExactServerNews
import Derived.Test.YtnclcbjagleoeaaDoorTie
import Derived.Test.YtnclcbjagleoeaaDoorCards
import Derived.SevenTiedAt
namespace Go.Proofs.YtnclcbjagleoeaaDoor
open Go

theorem fnExactServerNewsCard_holds : Rows.FnExactServerNewsCardSaid :=
  Claim7.holds_tied_plain_at .later [] [.data] true (true, "57cd4da34d3600158406d32b39c8655b8f1177fc2a013a7f45b784ef106e8989") false
    fnExactServerNews_holds (fun _ h => by cases h) (by kernel_rfl) (fun _ h => by cases h) fnExactServerNews_row_tie rfl ⟨rfl, rfl⟩ (by kernel_rfl) rfl
    (fun f fn hf hfn => by
      obtain rfl : f = 3 := Option.some.inj ((show Tryd.prog.funcNamed "loop.example/plashet/laws.FnExactServerNews" = some 3 by kernel_rfl).symm.trans hf) |>.symm
      obtain rfl : fn = Tryd.f3 := (Option.some.inj (Tryd.func3.symm.trans hfn)).symm
      exact ⟨by kernel_rfl, fun j t ht => by
        rw [Tryd.params3] at ht
        have hm : t ∈ [3, 24] := by have := Array.mem_of_getElem? ht; simp at this; first | (subst this; simp; done) | (rcases this with h | h <;> simp [h]; done) | (rcases this with h | h | h <;> simp [h]; done)
        have hall : ([3, 24].all fun u => !Tryd.prog.wantsStandIn u) = true := by kernel_rfl
        exact (show Tryd.prog.wantsStandIn t = false by simpa using List.all_eq_true.1 hall t hm)⟩)
    (by kernel_rfl)
#print axioms fnExactServerNewsCard_holds
end Go.Proofs.YtnclcbjagleoeaaDoor
