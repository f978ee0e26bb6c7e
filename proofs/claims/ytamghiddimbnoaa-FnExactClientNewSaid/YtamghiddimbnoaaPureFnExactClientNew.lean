/- The program's ClientNew gives the same client as the reference's, for every number; what it made is its own memory, and a second call gives the same again. No condition. -/
import Derived.Test.YtamghiddimbnoaaMark
import Derived.Test.YtamghiddimbnoaaSame
namespace Go.Proofs.Ytamghiddimbnoaa.Pure
open Go.RowKit Go.Proofs.Ytamghiddimbnoaa.PFnExactClientNew Go.Proofs.YtamghiddimbnoaaW.PrintWords Go.Proofs.YtamghiddimbnoaaW.PrintLast

theorem new_same (a : Int) : impl_ClientNew.f a = spec_ClientNew.f a := by
  have h : impl_whoOk.f a = spec_l6In.f a 1 3 := rfl
  unfold impl_ClientNew.f spec_ClientNew.f
  rw [h]
  rfl
theorem new_is (a : Int) : ∃ w s b d m ok, ∃ t : List S38, spec_ClientNew.f a = some (w, s, t, ([] : List S44), d, m, ok) ∧ b = ok ∧ t.length ≤ 3 := by
  unfold spec_ClientNew.f spec_l6In.f spec_TreeNew.f
  by_cases h1 : a ≥ 1
  · rw [if_pos h1]
    simp only [Option.bind_some]
    by_cases h3 : a ≤ 3
    · rw [if_pos (decide_eq_true h3)]
      exact ⟨_, _, _, _, _, _, _, rfl, rfl, by simp⟩
    · rw [if_neg (by simpa using h3)]
      exact ⟨_, _, _, _, _, _, _, rfl, rfl, by simp⟩
  · rw [if_neg h1]
    exact ⟨_, _, _, _, _, _, _, rfl, rfl, by simp⟩
theorem eqC (a b d e : Int) (t : List S38) (l : List S44) (ht : t.length ≤ 3) (hl : l.length ≤ 3) : Ev (fun k => laws_eqClient.f k a b t l d e a b t l d e) true := by
  unfold laws_eqClient.f
  simp only [if_true]
  refine Ev.bind (Same.eqR t (by omega)) ?_
  simp only [if_true]
  refine Ev.bind (Same.eqE l (by omega)) ?_
  simp only [if_true]
  exact Ev.now _
theorem markC (a b d e : Int) (t : List S38) (ht : t.length ≤ 3) : Ev (fun k => laws_markClient.f k a b t [] d e 1) (1 + 3 * t.length, Mark.marksR 1 t.length, []) := by
  unfold laws_markClient.f
  refine Ev.bind (Mark.markR_f t 1 (by omega) (by omega) (by omega)) ?_
  have h := Mark.markE_f ([] : List S44) (1 + 3 * t.length) (by simp) (by omega) (by omega)
  refine Ev.bind h ?_
  simp only [List.length_nil, Mark.marksE]
  rw [show (1 : Int) + 3 * t.length + 7 * ((0 : Nat) : Int) = 1 + 3 * t.length by omega]
  exact Ev.now _
theorem heldC (a b d e : Int) (n : Nat) (hn : n ≤ 3) : Ev (fun k => laws_heldClient.f k a b (Mark.marksR 1 n) [] d e 1) (1 + 3 * n) := by
  unfold laws_heldClient.f
  refine Ev.bind (Mark.heldR_f n 1 (by omega) (by omega) (by omega)) ?_
  refine Same.ev_neg (by omega) ?_
  have h := Mark.heldE_f 0 (1 + 3 * n) (by omega) (by omega) (by omega)
  simp only [Mark.marksE] at h
  rw [show (1 : Int) + 3 * n + 7 * ((0 : Nat) : Int) = 1 + 3 * n by omega] at h
  refine Ev.bind h ?_
  rw [if_neg (by omega)]
  exact Ev.now _

theorem FnExactClientNew : laws_FnExactClientNew.Pure := by
  intro a _
  obtain ⟨w, s, b, d, m, ok, t, hs, _, ht⟩ := new_is a
  have hi := (new_same a).trans hs
  refine Ev.rounds ?_
  unfold laws_FnExactClientNew.f
  rw [hs, hi]
  simp only [Option.bind_some]
  refine Ev.bind (eqC _ _ _ _ t [] ht (by simp)) ?_
  simp only [if_true, bne_self_eq_false]
  refine Ev.step (fun k => by simp only [laws_FnExactClientNew.j0]; rfl) ?_
  simp only [Bool.false_eq_true, if_false]
  refine Ev.bind (markC _ _ _ _ t ht) ?_
  refine Ev.bind (heldC _ _ _ _ _ ht) ?_
  refine Same.ev_neg (by omega) ?_
  simp only [if_true]
  rw [hi]
  simp only [Option.bind_some]
  refine Ev.bind (eqC _ _ _ _ t [] ht (by simp)) ?_
  simp only [if_true, bne_self_eq_false]
  refine Ev.step (fun k => by simp only [laws_FnExactClientNew.j1]; rfl) ?_
  simp only [Bool.false_eq_true, if_false]
  refine Ev.bind (heldC _ _ _ _ _ ht) ?_
  refine Same.ev_neg (by omega) ?_
  simp only [if_true]
  exact Ev.now _
end Go.Proofs.Ytamghiddimbnoaa.Pure
