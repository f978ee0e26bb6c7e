/- Marks of entries, and equal entries: what the laws' 'mark..', 'held..' and 'eq..' functions tell. Conditions: lists below 2^40 elements, numbers below 2^60. -/
import Derived.Test.YtnclcbjagleoeaaDoorPLog
import Derived.Test.YtnclcbjagleoeaaDoorPx10
import Derived.Test.YtnclcbjagleoeaaDoorPx11
import Derived.Test.YtnclcbjagleoeaaDoorPx9
set_option linter.unusedVariables false
set_option linter.unusedSimpArgs false
namespace Go.Proofs.YtnclcbjagleoeaaDoor.PL
open Go.RowKit Go.Proofs.YtnclcbjagleoeaaDoor.P Go.Proofs.YtnclcbjagleoeaaDoorW.PrintWords Go.Proofs.YtnclcbjagleoeaaDoorW.PrintLast

theorem one_size (xs : List Int) : (strOfNums xs).size = xs.length := by simp [strOfNums, ByteArray.size]
theorem mtl_ex (m : Nat) : ∀ (x : Int) (s : ByteArray), x < 10 ^ m → x ≤ 9223372036854775807 → s.size + m + 1 ≤ 9223372036854775807 → ∃ r, Ev (fun k => laws_markText.l0 k x s) r := by
  induction m with
  | zero =>
    intro x s hx _ hs
    refine ⟨_, Ev.step (f := fun _ => some ((⟨#[109]⟩ : ByteArray) ++ s)) (fun k => ?_) (evnow _)⟩
    simp only [laws_markText.l0]
    rw [if_neg (by simp at hx; omega), if_pos (by omega)]
  | succ m ih =>
    intro x s hx hb hs
    by_cases h0 : x > 0
    · have e : Int.tdiv x 10 = x / 10 := Int.tdiv_eq_ediv_of_nonneg (by omega)
      have e2 : wrap64 (Int.tdiv x 10) = x / 10 := by rw [e]; unfold wrap64; omega
      have e3 : (10 : Int) ^ (m + 1) = 10 ^ m * 10 := Int.pow_succ 10 m
      obtain ⟨r, hr⟩ := ih (wrap64 (Int.tdiv x 10)) ((strOfNums [(wrap64 (48 + (Int.tmod x 10))) % 256]) ++ s) (by rw [e2]; omega) (by rw [e2]; omega) (by rw [ByteArray.size_append, one_size]; simp; omega)
      refine ⟨r, Ev.step (fun k => ?_) hr⟩
      simp only [laws_markText.l0, Option.bind_some]
      rw [if_pos h0, if_pos (by rw [one_size]; simp; omega)]
    · refine ⟨_, Ev.step (f := fun _ => some ((⟨#[109]⟩ : ByteArray) ++ s)) (fun k => ?_) (evnow _)⟩
      simp only [laws_markText.l0]
      rw [if_neg h0, if_pos (by omega)]
theorem mt_ex (x : Int) (h : x ≤ 4611686018427387904) : ∃ r, Ev (fun k => laws_markText.f k x) r := by
  by_cases h0 : x ≤ 0
  · exact ⟨(⟨#[109, 48]⟩ : ByteArray), Ev.congr (f := fun _ => some (⟨#[109, 48]⟩ : ByteArray)) (fun k => by simp only [laws_markText.f]; rw [if_pos h0]) (evnow _)⟩
  · obtain ⟨r, hr⟩ := mtl_ex 19 x ⟨#[]⟩ (by omega) (by omega) (by decide)
    exact ⟨r, Ev.congr (fun k => by simp only [laws_markText.f]; rw [if_neg h0]) hr⟩
open Classical in
/-- The text of a number. -/
noncomputable def mt (x : Int) : ByteArray := if h : x ≤ 4611686018427387904 then (mt_ex x h).choose else ⟨#[]⟩
theorem mt_ev (x : Int) (h : x ≤ 4611686018427387904) : Ev (fun k => laws_markText.f k x) (mt x) := by
  unfold mt
  rw [dif_pos h]
  exact (mt_ex x h).choose_spec

theorem take_set_next {α : Type} (x : List α) (i : Int) (v : α) (h0 : 0 ≤ i) (h : i < x.length) : (x.set i.toNat v).take (i + 1).toNat = x.take i.toNat ++ [v] := by
  have e : (i + 1).toNat = i.toNat + 1 := by omega
  have hl : i.toNat < (x.set i.toNat v).length := by rw [List.length_set]; omega
  rw [e, List.take_succ_eq_append_getElem hl, List.getElem_set_self]
  congr 1
  rw [List.take_set_of_le (Nat.le_refl _)]
theorem set_set_ {α : Type} (x : List α) (i : Nat) (v u : α) : (x.set i v).set i u = x.set i u := by rw [List.set_set]
/-! ### entries -/
noncomputable def mkE (a : Int) : S56 := ⟨a, a + 1, ⟨a + 2, a + 3, a + 4, a + 5, mt (a + 6)⟩⟩
noncomputable def marksE : Int → Nat → List S56
  | _, 0 => []
  | a, n + 1 => mkE a :: marksE (a + 7) n
theorem marksE_len : ∀ (n : Nat) (a : Int), (marksE a n).length = n
  | 0, _ => rfl
  | n + 1, a => by rw [marksE, List.length_cons, marksE_len n]
theorem rdE_set (x : List S56) (i : Int) (v : S56) (h0 : 0 ≤ i) (h : i < x.length) : rd_T56 (x.set i.toNat v) i = v := by
  unfold rd_T56
  rw [List.getD_eq_getElem?_getD, List.getElem?_set_self (by omega)]
  rfl
theorem markE_ev (d : Nat) : ∀ (x : List S56) (a i : Int), 0 ≤ i → (x.length : Int) - i = d → x.length ≤ 1099511627776 → 0 ≤ a → a + 7 * d ≤ 1152921504606846976 →
    Ev (fun k => laws_markEntryS.l0 k x a i) (a + 7 * d, x.take i.toNat ++ marksE a d) := by
  induction d with
  | zero =>
    intro x a i h0 hd hl ha hb
    refine Ev.step (f := fun _ => some (a, x)) (fun k => ?_) ?_
    · simp only [laws_markEntryS.l0]; rw [if_neg (by omega)]
    · rw [List.take_of_length_le (by omega)]; simp only [marksE, List.append_nil]
      rw [show a + 7 * ((0 : Nat) : Int) = a by omega]; exact evnow _
  | succ d ih =>
    intro x a i h0 hd hl ha hb
    have hi : i < (x.length : Int) := by omega
    have e1 : wrap64 (a + 1) = a + 1 := wrapS a ha (by omega)
    have e2 : wrap64 (a + 1 + 1) = a + 2 := by rw [wrapS _ (by omega) (by omega)]; omega
    have e3 : wrap64 (a + 2 + 1) = a + 3 := by rw [wrapS _ (by omega) (by omega)]; omega
    have e4 : wrap64 (a + 3 + 1) = a + 4 := by rw [wrapS _ (by omega) (by omega)]; omega
    have e5 : wrap64 (a + 4 + 1) = a + 5 := by rw [wrapS _ (by omega) (by omega)]; omega
    have e6 : wrap64 (a + 5 + 1) = a + 6 := by rw [wrapS _ (by omega) (by omega)]; omega
    have e7 : wrap64 (a + 6 + 1) = a + 7 := by rw [wrapS _ (by omega) (by omega)]; omega
    have ei : wrap64 (i + 1) = i + 1 := wrapS i h0 (by omega)
    have H := ih (x.set i.toNat (mkE a)) (a + 7) (i + 1) (by omega) (by rw [List.length_set]; omega) (by rw [List.length_set]; omega) (by omega) (by omega)
    rw [take_set_next x i _ h0 hi, show a + 7 + 7 * (d : Int) = a + 7 * ((d + 1 : Nat) : Int) by omega, List.append_assoc] at H
    refine Ev.step (f := fun k => (laws_markText.f k (a + 6)).bind fun t => laws_markEntryS.l0 k (x.set i.toNat ⟨a, a + 1, ⟨a + 2, a + 3, a + 4, a + 5, t⟩⟩) (a + 7) (i + 1)) (fun k => ?_) (Ev.bind (mt_ev _ (by omega)) H)
    simp only [laws_markEntryS.l0, if_pos hi, if_pos h0, Option.bind_some, set_set_, rdE_set _ _ _ h0 hi, e1, e2, e3, e4, e5, e6, e7, ei]
theorem heldE_ev (d : Nat) : ∀ (x : List S56) (a i : Int), 0 ≤ i → (x.length : Int) - i = d → x.length ≤ 1099511627776 → 0 ≤ a → a + 7 * d ≤ 1152921504606846976 → x.drop i.toNat = marksE a d →
    Ev (fun k => laws_heldEntryS.l0 k x a i) (a + 7 * d) := by
  induction d with
  | zero =>
    intro x a i h0 hd hl ha hb he
    refine Ev.step (f := fun _ => some a) (fun k => ?_) ?_
    · simp only [laws_heldEntryS.l0]; rw [if_neg (by omega)]
    · rw [show a + 7 * ((0 : Nat) : Int) = a by omega]; exact evnow _
  | succ d ih =>
    intro x a i h0 hd hl ha hb he
    have hi : i < (x.length : Int) := by omega
    have e1 : wrap64 (a + 1) = a + 1 := wrapS a ha (by omega)
    have e2 : wrap64 (a + 1 + 1) = a + 2 := by rw [wrapS _ (by omega) (by omega)]; omega
    have e3 : wrap64 (a + 2 + 1) = a + 3 := by rw [wrapS _ (by omega) (by omega)]; omega
    have e4 : wrap64 (a + 3 + 1) = a + 4 := by rw [wrapS _ (by omega) (by omega)]; omega
    have e5 : wrap64 (a + 4 + 1) = a + 5 := by rw [wrapS _ (by omega) (by omega)]; omega
    have e6 : wrap64 (a + 5 + 1) = a + 6 := by rw [wrapS _ (by omega) (by omega)]; omega
    have e7 : wrap64 (a + 6 + 1) = a + 7 := by rw [wrapS _ (by omega) (by omega)]; omega
    have ei : wrap64 (i + 1) = i + 1 := wrapS i h0 (by omega)
    have hn : i.toNat < x.length := by omega
    have hc := List.drop_eq_getElem_cons hn
    rw [he, marksE] at hc
    have hx : rd_T56 x i = mkE a := by
      unfold rd_T56
      rw [List.getD_eq_getElem?_getD, List.getElem?_eq_getElem hn]
      exact (List.cons.inj hc).1.symm
    have H := ih x (a + 7) (i + 1) (by omega) (by omega) hl (by omega) (by omega) (by rw [show (i + 1).toNat = i.toNat + 1 by omega]; exact (List.cons.inj hc).2.symm)
    rw [show a + 7 + 7 * (d : Int) = a + 7 * ((d + 1 : Nat) : Int) by omega] at H
    refine Ev.step (f := fun k => (laws_markText.f k (a + 6)).bind fun t => if (mt (a + 6)).toList = t.toList then laws_heldEntryS.l0 k x (a + 7) (i + 1) else some (-1)) (fun k => ?_) (Ev.bind (mt_ev _ (by omega)) (Ev.congr (fun k => if_pos rfl) H))
    simp only [laws_heldEntryS.l0]
    rw [if_pos hi, if_pos h0, e1, e2, e3, e4, e5, e6, e7, ei, hx]
    simp only [mkE, if_true]
    rfl
theorem markE_f (x : List S56) (a : Int) (hl : x.length ≤ 1099511627776) (ha : 0 ≤ a) (hb : a ≤ 1125899906842624) :
    Ev (fun k => laws_markEntryS.f k x a) (a + 7 * x.length, marksE a x.length) := by
  have h := markE_ev x.length x a 0 (by omega) (by omega) hl ha (by omega)
  simp only [Int.toNat_zero, List.take_zero, List.nil_append] at h
  exact h
theorem heldE_f (n : Nat) (a : Int) (hl : n ≤ 1099511627776) (ha : 0 ≤ a) (hb : a ≤ 1125899906842624) :
    Ev (fun k => laws_heldEntryS.f k (marksE a n) a) (a + 7 * n) :=
  heldE_ev n (marksE a n) a 0 (by omega) (by rw [marksE_len]; omega) (by rw [marksE_len]; exact hl) ha (by omega) rfl
theorem eqOp_refl (a b c d : Int) (e : ByteArray) : laws_eqOp.f a b c d e a b c d e = some true := by simp [laws_eqOp.f]
theorem eqEntry_refl (x y a b c d : Int) (e : ByteArray) : laws_eqEntry.f x y a b c d e x y a b c d e = some true := by simp [laws_eqEntry.f, eqOp_refl]
theorem eqE_ev (d : Nat) : ∀ (x : List S56) (i : Int), 0 ≤ i → (x.length : Int) - i = d → x.length ≤ 1099511627776 → Ev (fun k => laws_eqEntryS.l0 k x x i) true := by
  induction d with
  | zero =>
    intro x i h0 hd hl
    refine Ev.step (f := fun _ => some true) (fun k => ?_) (evnow _)
    simp only [laws_eqEntryS.l0]; rw [if_neg (by omega)]
  | succ d ih =>
    intro x i h0 hd hl
    have hi : i < (x.length : Int) := by omega
    refine Ev.step (fun k => ?_) (ih x (i + 1) (by omega) (by omega) hl)
    simp only [laws_eqEntryS.l0, if_pos hi, if_pos h0, eqEntry_refl, Option.bind_some, if_true, wrapS i h0 (by omega)]
theorem eqE (x : List S56) (hl : x.length ≤ 1099511627776) : Ev (fun k => laws_eqEntryS.f k x x) true :=
  Ev.congr (fun k => by simp only [laws_eqEntryS.f, if_true]) (eqE_ev x.length x 0 (by omega) (by omega) hl)
end Go.Proofs.YtnclcbjagleoeaaDoor.PL
