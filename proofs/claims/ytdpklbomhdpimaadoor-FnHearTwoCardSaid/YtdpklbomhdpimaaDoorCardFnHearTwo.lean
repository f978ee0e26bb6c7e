/- The card of 'FnHearTwo': its row, tied to the program's text. -/
import Derived.Test.YtdpklbomhdpimaaDoorRowFnHearTwo
import Derived.Test.YtdpklbomhdpimaaDoorTie
import Derived.Test.YtdpklbomhdpimaaDoorCards
import Derived.SevenTiedAt
namespace Go.Proofs.YtdpklbomhdpimaaDoor
open Go

theorem fnHearTwoCard_holds : Rows.FnHearTwoCardSaid :=
  Claim7.holds_tied_plain_at .later [] [.data] true (true, "7cf51d42195f9c9b62136c7a8c7100de8c719db44b2d768f6f24e257b781f613") true
    fnHearTwo_holds (fun _ h => by cases h) (by kernel_rfl) (fun _ h => by cases h) fnHearTwo_row_tie rfl ⟨rfl, rfl⟩ (by kernel_rfl) rfl
    (fun f fn hf hfn => by
      obtain rfl : f = 6 := Option.some.inj ((show Tryd.prog.funcNamed "loop.example/plashet/laws.FnHearTwo" = some 6 by kernel_rfl).symm.trans hf) |>.symm
      obtain rfl : fn = Tryd.f6 := (Option.some.inj (Tryd.func6.symm.trans hfn)).symm
      exact ⟨by kernel_rfl, fun j t ht => by
        rw [Tryd.params6] at ht
        have hm : t ∈ [22] := by have := Array.mem_of_getElem? ht; simp at this; first | (subst this; simp; done) | (rcases this with h | h <;> simp [h]; done) | (rcases this with h | h | h <;> simp [h]; done)
        have hall : ([22].all fun u => !Tryd.prog.wantsStandIn u) = true := by kernel_rfl
        exact (show Tryd.prog.wantsStandIn t = false by simpa using List.all_eq_true.1 hall t hm)⟩)
    (by kernel_rfl)
#print axioms fnHearTwoCard_holds
end Go.Proofs.YtdpklbomhdpimaaDoor
