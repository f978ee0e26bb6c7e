/- Servers: their size, the laws' conversion of them, when they are valid, what they tell. -/
import Derived.Test.YtnclcbjagleoeaaDoorPMark
import Derived.Test.YtnclcbjagleoeaaDoorPx2
import Derived.Test.YtnclcbjagleoeaaDoorPx5
import Derived.Test.YtnclcbjagleoeaaDoorPx9
import Derived.Test.YtnclcbjagleoeaaDoorPx10
import Derived.Test.YtnclcbjagleoeaaDoorPx8
import Derived.Test.YtnclcbjagleoeaaDoorPx5
import Derived.Test.YtnclcbjagleoeaaDoorPx9
import Derived.Test.YtnclcbjagleoeaaDoorPx5
set_option linter.unusedVariables false
set_option linter.unusedSimpArgs false
namespace Go.Proofs.YtnclcbjagleoeaaDoor.PL
open Go.RowKit Go.Proofs.YtnclcbjagleoeaaDoor.P Go.Proofs.YtnclcbjagleoeaaDoorW.PrintWords Go.Proofs.YtnclcbjagleoeaaDoorW.PrintLast

def conv (e : S51) : S56 := ⟨e.f0, e.f1, ⟨e.f2.f0, e.f2.f1, e.f2.f2, e.f2.f3, e.f2.f4⟩⟩
def wfX (e : S51) : Prop := I64 e.f0 ∧ I64 e.f1 ∧ I64 e.f2.f0 ∧ I64 e.f2.f1 ∧ I64 e.f2.f2 ∧ I64 e.f2.f3 ∧ e.f2.f4.size ≤ 9223372036854775807
theorem rdX_get (l : List S51) (i : Nat) (h : i < l.length) : rd_T51 l i = l[i] := by
  unfold rd_T51
  rw [List.getD_eq_getElem?_getD, show ((i : Int)).toNat = i from rfl, List.getElem?_eq_getElem h]
  rfl
theorem wf_conv {l : List S51} (h : ∀ e ∈ l, wfX e) : wfL (l.map conv) := by
  intro e he
  obtain ⟨x, hx, rfl⟩ := List.mem_map.1 he
  exact h x hx
/-! ### Sizes -/
theorem sz_l0 (l : List S51) (hw : ∀ e ∈ l, wfX e) (hl : l.length ≤ 1099511627776) : ∀ (n : Nat) (i : Nat) (b : Int), i + n = l.length → 0 ≤ b → b ≤ 1048576 → ∃ r : Int, Ev (fun k => laws_szEntryS.l0 k l b i) r
  | 0, i, b, h, h0, h1 => ⟨b, Ev.step (f := fun _ => some b) (fun k => by simp only [laws_szEntryS.l0]; rw [if_neg (by omega)]) (evnow _)⟩
  | n + 1, i, b, h, h0, h1 => by
    have hi : i < l.length := by omega
    obtain ⟨_, _, _, _, _, _, hs⟩ := hw _ (List.getElem_mem hi)
    have hww : wrap64 (b - (l[i].f2.f4.size : Int)) = b - l[i].f2.f4.size := by unfold wrap64; omega
    by_cases hb : b - (l[i].f2.f4.size : Int) < 0
    · refine ⟨-1, Ev.step (f := fun _ => some (-1)) (fun k => ?_) (evnow _)⟩
      simp only [laws_szEntryS.l0]
      rw [if_pos (by omega), if_pos (by omega), rdX_get l i hi]
      simp only [laws_szEntry.f, laws_szOp.f, hww]
      rw [if_pos hb]
      rfl
    · obtain ⟨r, hr⟩ := sz_l0 l hw hl n (i + 1) (b - l[i].f2.f4.size) (by omega) (by omega) (by omega)
      refine ⟨r, Ev.step (fun k => ?_) hr⟩
      simp only [laws_szEntryS.l0]
      rw [if_pos (by omega), if_pos (by omega), rdX_get l i hi]
      simp only [laws_szEntry.f, laws_szOp.f, hww]
      rw [if_neg hb]
      simp only [Option.bind_some]
      rw [if_neg hb]
      simp only [Option.bind_some]
      rw [if_neg hb, wrapS i (by omega) (by omega)]
      rfl
/-- The budget of a server; where it is not overdrawn, there are at most 2^20 entries. -/
theorem sz_f (l : List S51) (s : Int) (u : Bool) (hw : ∀ e ∈ l, wfX e) (hl : l.length ≤ 9223372036854775807) : ∃ r : Int, Ev (fun k => laws_szServer.f k l s u 1048576) r ∧ (¬ r < 0 → l.length ≤ 1048576) := by
  unfold laws_szServer.f laws_szEntryS.f
  have hww : wrap64 (1048576 - (l.length : Int)) = 1048576 - l.length := by unfold wrap64; omega
  rw [hww]
  by_cases hb : 1048576 - (l.length : Int) < 0
  · refine ⟨-1, ?_, fun h => absurd (by decide) h⟩
    simp only [hb, if_true, Option.bind_some]
    exact evnow _
  · obtain ⟨r, hr⟩ := sz_l0 l hw (by omega) l.length 0 (1048576 - l.length) (by omega) (by omega) (by omega)
    simp only [hb, if_false]
    by_cases h2 : r < 0
    · refine ⟨-1, Ev.bind hr ?_, fun h => absurd (by decide) h⟩
      simp only [h2, if_true]
      exact evnow _
    · refine ⟨r, Ev.bind hr ?_, fun _ => by omega⟩
      simp only [h2, if_false]
      exact evnow _
/-! ### Conversion -/
theorem to_l0 (l : List S51) (hl : l.length ≤ 1099511627776) : ∀ (n : Nat) (i : Nat) (x : List S56), i + n = l.length → x.length = l.length → x.take i = (l.take i).map conv → Ev (fun k => laws_toEntryS.l0 k l x i) (l.map conv)
  | 0, i, x, h, hx, ht => by
    refine Ev.step (f := fun _ => some x) (fun k => ?_) ?_
    · simp only [laws_toEntryS.l0]; rw [if_neg (by omega)]
    · rw [List.take_of_length_le (by omega), List.take_of_length_le (by omega)] at ht
      rw [ht]; exact evnow _
  | n + 1, i, x, h, hx, ht => by
    have hi : i < l.length := by omega
    refine Ev.step (fun k => ?_) (to_l0 l hl n (i + 1) (x.set i (conv l[i])) (by omega) (by rw [List.length_set]; exact hx) ?_)
    · simp only [laws_toEntryS.l0]
      rw [if_pos (by omega), if_pos (by omega), rdX_get l i hi]
      simp only [laws_toEntry.f, laws_toOp.f, Option.bind_some]
      rw [if_pos (by omega), wrapS i (by omega) (by omega)]
      rfl
    · have := take_set_next x (i : Int) (conv l[i]) (by omega) (by omega)
      simp only [Int.toNat_natCast] at this
      rw [show ((i : Int) + 1).toNat = i + 1 by omega] at this
      rw [this, ht, List.take_succ_eq_append_getElem hi, List.map_append]
      rfl
theorem to_f (l : List S51) (s : Int) (u : Bool) (hl : l.length ≤ 1048576) : Ev (fun k => laws_toServer.f k l s u) (l.map conv, s, u) := by
  unfold laws_toServer.f laws_toEntryS.f
  refine Ev.bind (a := l.map conv) ?_ (evnow _)
  refine ev_pos (by omega) (ev_pos (by omega) ?_)
  exact to_l0 l (by omega) l.length 0 _ (by omega) (by simp) (by simp)
/-! ### Valid servers -/
def srvB (l : List S56) (s : Int) : Bool := logB l && (decide (0 ≤ s) && decide (s ≤ (l.length : Int)))
theorem srv_f (l : List S56) (s : Int) (u : Bool) (h : wfL l) : Ev (fun k => impl_ServerOk.f k l s u) (srvB l s) := by
  unfold impl_ServerOk.f srvB
  refine Ev.bind (log_f l h) ?_
  cases logB l with
  | false => simp only [Bool.false_eq_true, if_false, Bool.false_and]; exact evnow _
  | true =>
    simp only [if_true, Bool.true_and]
    by_cases hs : s ≥ 0
    · have : decide (0 ≤ s) = true := decide_eq_true hs
      rw [if_pos hs, this, Bool.true_and]; exact evnow _
    · have : decide (0 ≤ s) = false := decide_eq_false hs
      rw [if_neg hs, this, Bool.false_and]; exact evnow _
theorem ssrv_f (l : List S56) (s : Int) (u : Bool) (h : wfL l) (hl : l.length ≤ 281474976710656) : Ev (fun k => spec_ServerOk.f k l s u) (srvB l s) := by
  unfold spec_ServerOk.f srvB
  refine Ev.bind (slog_f l h hl) ?_
  cases logB l with
  | false => simp only [Bool.false_eq_true, if_false, Bool.false_and]; exact evnow _
  | true =>
    simp only [if_true, Bool.true_and, in_f, Option.bind_some]
    exact evnow _
theorem srvB_true {l : List S56} {s : Int} (h : srvB l s = true) : l.length ≤ 40 ∧ 0 ≤ s ∧ s ≤ l.length := by
  unfold srvB at h
  simp only [Bool.and_eq_true, decide_eq_true_eq] at h
  exact ⟨logB_len h.1, h.2.1, h.2.2⟩
/-! ### What is told -/
def newsL (l : List S56) (s : Int) (u : Bool) (a : Int) : List S56 := if srvB l s = true ∧ u = true ∧ 0 ≤ a ∧ a ≤ s then (l.take s.toNat).drop a.toNat else []
theorem news_f (l : List S56) (s : Int) (u : Bool) (a : Int) (h : wfL l) : Ev (fun k => impl_ServerNews.f k l s u a) (newsL l s u a) := by
  unfold impl_ServerNews.f newsL
  refine Ev.bind (srv_f l s u h) ?_
  cases hs : srvB l s with
  | false => simp only [Bool.false_eq_true, if_false, false_and]; exact evnow _
  | true =>
    obtain ⟨hl, h0, h1⟩ := srvB_true hs
    simp only [if_true, true_and]
    cases u with
    | false => simp only [Bool.false_eq_true, if_false, false_and]; exact evnow _
    | true =>
      simp only [if_true, true_and]
      by_cases a1 : a < 0
      · simp only [a1, if_true]; rw [if_neg (by omega)]; exact evnow _
      · by_cases a2 : a > s
        · simp only [a1, if_false, a2, if_true]; rw [if_neg (by omega)]; exact evnow _
        · simp only [a1, if_false, a2]
          rw [if_pos (show 0 ≤ a ∧ a ≤ s by omega), if_pos (show 0 ≤ a by omega), if_pos (show a ≤ s by omega), if_pos h1]
          unfold impl_Entry_51.f
          rw [if_pos (by rw [List.length_drop, List.length_take]; omega)]
          exact evnow _
theorem snews_f (l : List S56) (s : Int) (u : Bool) (a : Int) (h : wfL l) (hl : l.length ≤ 281474976710656) : Ev (fun k => spec_ServerNews.f k l s u a) (newsL l s u a) := by
  unfold spec_ServerNews.f newsL
  refine Ev.bind (ssrv_f l s u h hl) ?_
  cases hs : srvB l s with
  | false => simp only [Bool.false_eq_true, if_false, false_and]; exact evnow _
  | true =>
    obtain ⟨hl, h0, h1⟩ := srvB_true hs
    simp only [if_true, true_and]
    cases u with
    | false => simp only [Bool.false_eq_true, if_false, false_and]; exact evnow _
    | true =>
      simp only [if_true, true_and, in_f, Option.bind_some]
      by_cases a1 : 0 ≤ a ∧ a ≤ s
      · have : (decide (0 ≤ a) && decide (a ≤ s)) = true := by simp [a1.1, a1.2]
        rw [this, if_pos rfl, if_pos a1, if_pos a1.1, if_pos a1.2, if_pos h1, if_pos (by rw [List.length_drop, List.length_take]; simp; omega)]
        exact evnow _
      · have : (decide (0 ≤ a) && decide (a ≤ s)) = false := by
          cases hq : (decide (0 ≤ a) && decide (a ≤ s)) with
          | false => rfl
          | true => simp only [Bool.and_eq_true, decide_eq_true_eq] at hq; exact absurd hq a1
        rw [this, if_neg (by decide), if_neg a1]
        exact evnow _
theorem newsL_len (l : List S56) (s : Int) (u : Bool) (a : Int) : (newsL l s u a).length ≤ 40 := by
  unfold newsL
  split
  · rename_i h
    obtain ⟨hl, _, _⟩ := srvB_true h.1
    rw [List.length_drop, List.length_take]
    omega
  · simp
/-! ### Equal servers, marks of a server -/
theorem eqS_f (l : List S56) (s : Int) (u : Bool) (hl : l.length ≤ 1099511627776) : Ev (fun k => laws_eqServer.f k l s u l s u) true := by
  unfold laws_eqServer.f
  refine Ev.bind (eqE l hl) ?_
  simp only [if_true, bne_self_eq_false, Bool.false_eq_true, if_false]
  exact evnow _
theorem markS_f (l : List S56) (s : Int) (u : Bool) (a : Int) (hl : l.length ≤ 1099511627776) (ha : 0 ≤ a) (hb : a ≤ 1125899906842624) : Ev (fun k => laws_markServer.f k l s u a) (a + 7 * l.length, marksE a l.length) := by
  unfold laws_markServer.f
  exact Ev.bind (markE_f l a hl ha hb) (evnow _)
end Go.Proofs.YtnclcbjagleoeaaDoor.PL
