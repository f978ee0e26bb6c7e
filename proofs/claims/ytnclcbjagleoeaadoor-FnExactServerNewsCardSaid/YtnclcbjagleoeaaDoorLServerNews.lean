/- FnExactServerNews over lists: the program's ServerNews tells what the reference's tells, in memory of its own. Condition: numbers of 64 bits. -/
import Derived.Test.YtnclcbjagleoeaaDoorPSrv
import Derived.Test.YtnclcbjagleoeaaDoorPx12
set_option linter.unusedVariables false
set_option linter.unusedSimpArgs false
namespace Go.Proofs.YtnclcbjagleoeaaDoor.PL
open Go.RowKit Go.Proofs.YtnclcbjagleoeaaDoor.P Go.Proofs.YtnclcbjagleoeaaDoorW.PrintWords Go.Proofs.YtnclcbjagleoeaaDoorW.PrintLast

theorem ev_some {α : Type} {g : Nat → Option α} {r : α} (h : Ev g r) : ∃ k, g k = some r := by
  obtain ⟨K, h⟩ := h
  exact ⟨K, h K (Nat.le_refl K)⟩
theorem FnExactServerNews (l : List S51) (s : Int) (u : Bool) (a : Int) (hw : ∀ e ∈ l, wfX e) (hl : l.length ≤ 9223372036854775807) (_ha : I64 a) : ∃ k, laws_FnExactServerNews.f k l s u a = some true := by
  refine ev_some ?_
  obtain ⟨r, hr, hb⟩ := sz_f l s u hw hl
  unfold laws_FnExactServerNews.f
  refine Ev.bind hr ?_
  by_cases h0 : r < 0
  · refine ev_pos h0 (evnow _)
  · refine ev_neg h0 ?_
    have hlen := hb h0
    have hT := to_f l s u hlen
    have hW := wf_conv hw
    have hn := newsL_len (l.map conv) s u a
    have hcl : (l.map conv).length ≤ 1099511627776 := by rw [List.length_map]; omega
    have hn1 : (newsL (l.map conv) s u a).length ≤ 1099511627776 := by omega
    have hn2 : ¬ ((1 : Int) + 7 * ((newsL (l.map conv) s u a).length : Int) < 0) := by omega
    refine Ev.bind hT ?_
    refine Ev.bind (snews_f _ s u a hW (by rw [List.length_map]; omega)) ?_
    refine Ev.bind hT ?_
    refine Ev.bind (news_f _ s u a hW) ?_
    refine Ev.bind (eqE _ hn1) ?_
    refine ev_pos rfl ?_
    refine Ev.bind hT ?_
    refine Ev.bind (eqS_f _ s u hcl) ?_
    refine ev_pos rfl ?_
    refine Ev.bind (markS_f _ s u 1 hcl (by omega) (by omega)) ?_
    refine ev_neg (by rw [List.length_map]; omega) ?_
    refine Ev.bind (eqE _ hn1) ?_
    refine ev_pos rfl ?_
    refine Ev.bind (markE_f _ 1 hn1 (by omega) (by omega)) ?_
    refine Ev.bind (heldE_f _ 1 hn1 (by omega) (by omega)) ?_
    refine ev_neg hn2 ?_
    refine ev_pos rfl ?_
    refine Ev.bind hT ?_
    refine Ev.bind (news_f _ s u a hW) ?_
    refine Ev.bind (eqE _ hn1) ?_
    refine ev_pos rfl ?_
    refine Ev.bind (heldE_f _ 1 hn1 (by omega) (by omega)) ?_
    refine ev_neg hn2 ?_
    exact ev_pos rfl (evnow _)
end Go.Proofs.YtnclcbjagleoeaaDoor.PL
