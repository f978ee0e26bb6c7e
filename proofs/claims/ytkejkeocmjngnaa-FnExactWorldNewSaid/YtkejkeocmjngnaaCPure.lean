/- What the reference's and the program's WorldNew, and the laws' functions on what they make, tell: reckoned out by the kernel. -/
import Derived.Test.YtkejkeocmjngnaaCLaw
import Derived.KernelRfl
set_option linter.unusedVariables false
set_option linter.unusedSimpArgs false
namespace Go.Proofs.Ytkejkeocmjngnaa.PL
open Go.RowKit Go.Proofs.Ytkejkeocmjngnaa.P Go.Proofs.YtkejkeocmjngnaaW.PrintWords Go.Proofs.YtkejkeocmjngnaaW.PrintLast

def rows0 : List S56 := [⟨1, 0, ⟨#[]⟩⟩, ⟨2, 0, ⟨#[]⟩⟩, ⟨3, 0, ⟨#[]⟩⟩]
def cls0 : List S36 := [⟨1, 0, rows0, [], 0, 0⟩, ⟨2, 0, rows0, [], 0, 0⟩, ⟨3, 0, rows0, [], 0, 0⟩]
def mk0 : Int × List S36 := (laws_markClientS.f 60 cls0 1).getD (0, [])
theorem spec_new : spec_WorldNew.f 60 = some ([], 0, true, cls0, []) := by kernel_rfl
theorem impl_new : impl_WorldNew.f 60 = some ([], 0, true, cls0, []) := by kernel_rfl
theorem eq_new : laws_eqWorld.f 60 [] 0 true cls0 [] [] 0 true cls0 [] = some true := by kernel_rfl
theorem mark_new : laws_markClientS.f 60 cls0 1 = some mk0 := by
  have h : (laws_markClientS.f 60 cls0 1).isSome = true := by kernel_rfl
  unfold mk0
  cases hq : laws_markClientS.f 60 cls0 1 with
  | none => rw [hq] at h; cases h
  | some p => rfl
theorem mark_c : mk0.1 = 40 := by kernel_rfl
theorem held_new : laws_heldWorld.f 60 [] 0 true mk0.2 [] 1 = some 40 := by kernel_rfl
theorem serv_new : laws_markServer.f 60 [] 0 true 1 = some (1, []) := by kernel_rfl
theorem wn : WN 60 [] [] cls0 cls0 [] mk0.2 40 := by
  refine ⟨spec_new, impl_new, eq_new, ?_, held_new, by decide⟩
  unfold laws_markWorld.f
  rw [serv_new]
  simp only [Option.bind_some]
  rw [mark_new]
  simp only [Option.bind_some]
  rw [mark_c]
end Go.Proofs.Ytkejkeocmjngnaa.PL
