/- RowWho answers by the table. Condition: the table reads as the program's text lays it. -/
import Derived.Test.YtnclcbjagleoeaaDoorGlob
import Derived.Test.YtnclcbjagleoeaaDoorV
namespace Go.Proofs.YtnclcbjagleoeaaDoor.P
open Go.RowKit Go.Proofs.YtnclcbjagleoeaaDoorW.PrintWords

def impl_RowWho.f (a0 : Int) : Option (Int × Bool) := some (if ownI a0 = 0 then (0, false) else (ownI a0 - 1, true))
set_option maxHeartbeats 800000 in
theorem impl_RowWho.calls (a0 : Int) (r1 : Int) (r2 : Bool) (w : World) (h : impl_RowWho.f a0 = some (r1, r2)) (hG : Glob w) :
    Calls Tryd.prog 79 #[.int .i64 a0] w fun e w' => e = .returned (.tuple #[.int .i64 r1, .bool r2]) ∧ Drawn0 w w' := by
  unfold impl_RowWho.f at h
  by_cases h0 : 0 ≤ a0
  · by_cases h1 : a0 < 37
    · have hc := hG.at_ a0 h0 h1
      have hr := ownI_range a0
      generalize ownI a0 = z at hc hr h
      by_cases hz : z = 0
      · subst hz
        simp only [if_true, Option.some.injEq, Prod.mk.injEq] at h
        obtain ⟨rfl, rfl⟩ := h
        clear hr hG
        go_enter Tryd.func79, Tryd.ntmps79
        go_wp2
        go_ret2
        exact ⟨rfl, Drawn0.refl _⟩
      · rw [if_neg hz] at h
        simp only [Option.some.injEq, Prod.mk.injEq] at h
        obtain ⟨rfl, rfl⟩ := h
        have hz1 : (z == 0) = false := beq_eq_false_iff_ne.2 hz
        have hr1 : 0 ≤ z := hr.1
        have hr2 : z ≤ 4 := hr.2
        clear hr hG
        go_enter Tryd.func79, Tryd.ntmps79
        go_wp2
        go_ret2
        exact ⟨rfl, Drawn0.refl _⟩
    · have e : ownI a0 = 0 := by rw [ownI, if_neg (by omega)]
      rw [if_pos e] at h
      simp only [Option.some.injEq, Prod.mk.injEq] at h
      obtain ⟨rfl, rfl⟩ := h
      clear e hG
      go_enter Tryd.func79, Tryd.ntmps79
      go_wp2
      go_ret2
      exact ⟨rfl, Drawn0.refl _⟩
  · have e : ownI a0 = 0 := by rw [ownI, if_neg (by omega)]
    rw [if_pos e] at h
    simp only [Option.some.injEq, Prod.mk.injEq] at h
    obtain ⟨rfl, rfl⟩ := h
    clear e hG
    have hlt : a0 < 0 := by omega
    go_enter Tryd.func79, Tryd.ntmps79
    go_wp2
    go_ret2
    exact ⟨rfl, Drawn0.refl _⟩
end Go.Proofs.YtnclcbjagleoeaaDoor.P
