/- A law's argument 'Server' (entries, how many are safe, whether it is up), opened: what it holds, as lists. -/
import Derived.Test.YtnclcbjagleoeaaDoorTabRow
import Derived.Test.YtnclcbjagleoeaaDoorPSrv
import Derived.Deep.Slices
import Derived.Lib.SmallJoins
set_option linter.unusedVariables false
set_option linter.unusedSimpArgs false
namespace Go.Proofs.YtnclcbjagleoeaaDoor.PL
open Go.ChangeShapes Go.WideShapes Go.ChangeAt Go.RowKit Go.Deep Go.Joins Go.Proofs.YtnclcbjagleoeaaDoor.P Go.Proofs.YtnclcbjagleoeaaDoorW.PrintWords Go.Proofs.YtnclcbjagleoeaaDoorW.PrintLast

set_option maxRecDepth 100000
section
variable {H : Type} {enc : TypeId × Value → H} {w : World} {base : Nat} {sp : Nat → Bool} {held : Bool}
theorem cO : Tryd.prog.cellsOf 49 = 5 := by kernel_rfl
theorem cX : Tryd.prog.cellsOf 51 = 7 := by kernel_rfl
theorem cS : Tryd.prog.cellsOf 9 = 1 := by kernel_rfl
theorem i64_of {n : Int} (h : (Lit.int .i64 n).wf = true) : I64 n := by
  simp only [Lit.wf, Bool.and_eq_true, decide_eq_true_eq] at h
  obtain ⟨h1, h2⟩ := h
  exact ⟨h1, h2⟩
/-- A field of one whole number. -/
theorem fld_int {n o : Nat} {cs : List Value} {y : DataW H × List MemPlace} (h : DataW.trod enc Tryd.prog w base sp held n 3 ((cs.drop o).take (Tryd.prog.cellsOf 3)) = some y) : ∃ a : Int, cs[o]? = some (.int .i64 a) ∧ I64 a := by
  obtain ⟨a, e, _, hw⟩ := DataW.trod_int Tryd.underlying3 h
  refine ⟨a, ?_, i64_of hw⟩
  rw [cInt] at e
  have := congrArg (·[0]?) e
  simpa [List.getElem?_take, List.getElem?_drop] using this
theorem fld_str {n o : Nat} {cs : List Value} {y : DataW H × List MemPlace} (h : DataW.trod enc Tryd.prog w base sp held n 9 ((cs.drop o).take (Tryd.prog.cellsOf 9)) = some y) : ∃ s : ByteArray, cs[o]? = some (.string s) ∧ s.size ≤ 9223372036854775807 := by
  obtain ⟨s, e, _, hw⟩ := DataW.trod_string Tryd.underlying9 h
  refine ⟨s, ?_, hw⟩
  rw [cS] at e
  have := congrArg (·[0]?) e
  simpa [List.getElem?_take, List.getElem?_drop] using this
theorem open_op {fuel : Nat} {cs : List Value} {y : DataW H × List MemPlace} (h : DataW.trod enc Tryd.prog w base sp held fuel 49 cs = some y) :
    ∃ (a b c d : Int) (s : ByteArray), cs = [.int .i64 a, .int .i64 b, .int .i64 c, .int .i64 d, .string s] ∧ I64 a ∧ I64 b ∧ I64 c ∧ I64 d ∧ s.size ≤ 9223372036854775807 := by
  obtain ⟨xs, n, _, _, hl, hlen, hf⟩ := DataW.trod_struct Tryd.underlying49 h
  rw [cO] at hl
  match xs, hlen, hf with
  | [y0, y1, y2, y3, y4], _, hf =>
    obtain ⟨a, e0, w0⟩ := fld_int (o := 0) (hf 0 _ rfl)
    obtain ⟨b, e1, w1⟩ := fld_int (o := 1) (hf 1 _ rfl)
    obtain ⟨c, e2, w2⟩ := fld_int (o := 2) (hf 2 _ rfl)
    obtain ⟨d, e3, w3⟩ := fld_int (o := 3) (hf 3 _ rfl)
    obtain ⟨s, e4, w4⟩ := fld_str (o := 4) (hf 4 _ rfl)
    match cs, hl, e0, e1, e2, e3, e4 with
    | [c0, c1, c2, c3, c4], _, e0, e1, e2, e3, e4 =>
      simp only [List.getElem?_cons_zero, List.getElem?_cons_succ, Option.some.injEq] at e0 e1 e2 e3 e4
      subst e0 e1 e2 e3 e4
      exact ⟨a, b, c, d, s, rfl, w0, w1, w2, w3, w4⟩
theorem open_entry {fuel : Nat} {cs : List Value} {y : DataW H × List MemPlace} (h : DataW.trod enc Tryd.prog w base sp held fuel 51 cs = some y) :
    ∃ e : S51, cs = [.int .i64 e.f0, .int .i64 e.f1, .int .i64 e.f2.f0, .int .i64 e.f2.f1, .int .i64 e.f2.f2, .int .i64 e.f2.f3, .string e.f2.f4] ∧ wfX e := by
  obtain ⟨xs, n, _, _, hl, hlen, hf⟩ := DataW.trod_struct Tryd.underlying51 h
  rw [cX] at hl
  match xs, hlen, hf with
  | [y0, y1, y2], _, hf =>
    obtain ⟨a, e0, w0⟩ := fld_int (o := 0) (hf 0 _ rfl)
    obtain ⟨b, e1, w1⟩ := fld_int (o := 1) (hf 1 _ rfl)
    have h2 : DataW.trod enc Tryd.prog w base sp held n 49 ((cs.drop 2).take (Tryd.prog.cellsOf 49)) = some y2 := hf 2 _ rfl
    obtain ⟨o0, o1, o2, o3, s, e2, u0, u1, u2, u3, u4⟩ := open_op h2
    rw [cO] at e2
    match cs, hl, e0, e1, e2 with
    | [c0, c1, c2, c3, c4, c5, c6], _, e0, e1, e2 =>
      simp only [List.getElem?_cons_zero, List.getElem?_cons_succ, Option.some.injEq] at e0 e1
      subst e0 e1
      simp only [List.drop_succ_cons, List.drop_zero, List.take_succ_cons, List.take_zero, List.cons.injEq, and_true] at e2
      obtain ⟨rfl, rfl, rfl, rfl, rfl⟩ := e2
      exact ⟨⟨a, b, ⟨o0, o1, o2, o3, s⟩⟩, rfl, w0, w1, u0, u1, u2, u3, u4⟩
theorem list_of_all {α : Type} (P : Nat → α → Prop) : ∀ n : Nat, (∀ i, i < n → ∃ e, P i e) → ∃ l : List α, l.length = n ∧ ∀ i e, l[i]? = some e → P i e
  | 0, _ => ⟨[], rfl, fun i e h => by simp at h⟩
  | n + 1, h => by
    obtain ⟨l, hl, hp⟩ := list_of_all P n (fun i hi => h i (by omega))
    obtain ⟨e, he⟩ := h n (by omega)
    refine ⟨l ++ [e], by simp [hl], fun i x hx => ?_⟩
    rcases Nat.lt_or_ge i l.length with hi | hi
    · rw [List.getElem?_append_left hi] at hx
      exact hp i x hx
    · rw [List.getElem?_append_right hi] at hx
      have h0 : i - l.length = 0 := by
        rcases Nat.eq_zero_or_pos (i - l.length) with h0 | h0
        · exact h0
        · rw [List.getElem?_eq_none (by simp; omega)] at hx
          cases hx
      rw [h0] at hx
      simp only [List.getElem?_cons_zero, Option.some.injEq] at hx
      subst hx
      rw [show i = n by omega]
      exact he
/-- A slice of entries, opened. -/
theorem open_entries {fuel : Nat} {cs : List Value} {y : DataW H × List MemPlace} (h : DataW.trod enc Tryd.prog w base sp held fuel 22 cs = some y) :
    ∃ (A : Option Addr) (cap : Nat) (l : List S51), cs = [.slice A l.length cap] ∧ Kd.C k51 w A l.length l ∧ l.length ≤ cap ∧ l.length ≤ 9223372036854775807 ∧ ∀ e ∈ l, wfX e := by
  rcases open_slice Tryd.underlying22 h with ⟨rfl, _⟩ | ⟨a, len, cap, m, n, D, Pl, rfl, _, hl, hm, hmm, _, hel⟩
  · exact ⟨none, 0, [], rfl, Kd.C_nil _ _, by simp, by simp, fun e he => by cases he⟩
  · have hlm : len ≤ m := by rw [hmm]; split <;> omega
    obtain ⟨l, hlen, hp⟩ := list_of_all (fun i (e : S51) => wfX e ∧ w.cells? base (a.add (i * 7)) 7 = some [.int .i64 e.f0, .int .i64 e.f1, .int .i64 e.f2.f0, .int .i64 e.f2.f1, .int .i64 e.f2.f2, .int .i64 e.f2.f3, .string e.f2.f4]) len (fun i hi => by
      obtain ⟨cs', hc, hd⟩ := hel i (by omega)
      obtain ⟨e, rfl, hw⟩ := open_entry hd
      rw [cX] at hc
      exact ⟨e, hw, hc⟩)
    have hmx : cap ≤ 9223372036854775807 := hm
    refine ⟨some a, cap, l, by rw [hlen], ⟨rfl, by omega, fun _ => ⟨a, rfl, fun j p hj => ?_⟩⟩, by omega, by omega, fun e he => ?_⟩
    · obtain ⟨_, hc⟩ := hp j p hj
      refine ⟨_, rfl, k51_mk w p, fun i u hu => ?_⟩
      obtain ⟨_, hlc, hc2⟩ := World.cells?_some hc
      have hi : i < 7 := by
        rcases Nat.lt_or_ge i 7 with hi | hi
        · exact hi
        · rw [List.getElem?_eq_none (by rw [hlc]; exact hi)] at hu
          cases hu
      have := hc2 i hi
      rw [hu] at this
      show w.cell? (a.add (j * 7 + i)) = some u
      rw [← this]
      congr 1
      generalize j * 7 = x
      unfold Addr.add
      by_cases h1 : x = 0 <;> by_cases h2 : i = 0 <;> simp [h1, h2, Nat.add_assoc]
    · obtain ⟨i, hi, rfl⟩ := List.getElem_of_mem he
      exact (hp i _ (List.getElem?_eq_getElem hi)).1
/-- A server, opened. -/
theorem open_server {v : Value} {d : DataW H} {p : List MemPlace} (hv : Value.okWide Tryd.prog w .any base 24 v) (h : DataW.Trod enc Tryd.prog w 0 sp held 24 v d p) :
    ∃ (A : Option Addr) (cap : Nat) (l : List S51) (s : Int) (u : Bool), v = .agg #[.slice A l.length cap, .int .i64 s, .bool u] ∧ Kd.C k51 w A l.length l ∧ l.length ≤ cap ∧ l.length ≤ 9223372036854775807 ∧ (∀ e ∈ l, wfX e) ∧ I64 s := by
  obtain ⟨v0, v1, v2, y0, y1, y2, n, rfl, rfl, rfl, h0, h1, h2⟩ := open_agg3 Tryd.underlying24 (by kernel_rfl) (by kernel_rfl) hv h
  obtain ⟨A, cap, l, e0, hC, hc, hl, hw⟩ := open_entries h0
  obtain ⟨s, e1, _, hs⟩ := DataW.trod_int Tryd.underlying3 h1
  obtain ⟨u, e2, _⟩ := DataW.trod_bool Tryd.underlying4 h2
  obtain rfl := (List.cons.inj e0).1
  obtain rfl := (List.cons.inj e1).1
  obtain rfl := (List.cons.inj e2).1
  exact ⟨A, cap, l, s, u, rfl, hC, hc, hl, hw, i64_of hs⟩
/-- An entry by value, opened. -/
theorem open_entryV {v : Value} {d : DataW H} {p : List MemPlace} (hv : Value.okWide Tryd.prog w .any base 51 v) (h : DataW.Trod enc Tryd.prog w 0 sp held 51 v d p) :
    ∃ e : S51, v = .agg #[.int .i64 e.f0, .int .i64 e.f1, .int .i64 e.f2.f0, .int .i64 e.f2.f1, .int .i64 e.f2.f2, .int .i64 e.f2.f3, .string e.f2.f4] ∧ wfX e := by
  obtain ⟨cs, rfl, hsz⟩ := okWide_struct Tryd.underlying51 hv
  obtain ⟨fuel, hf⟩ := h
  obtain ⟨e, he, hw⟩ := open_entry hf
  refine ⟨e, ?_, hw⟩
  have he' : cs.toList = [.int .i64 e.f0, .int .i64 e.f1, .int .i64 e.f2.f0, .int .i64 e.f2.f1, .int .i64 e.f2.f2, .int .i64 e.f2.f3, .string e.f2.f4] := he
  rw [show cs = cs.toList.toArray by simp, he']
end
end Go.Proofs.YtnclcbjagleoeaaDoor.PL
