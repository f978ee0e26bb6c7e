/- What a valid change, a valid entry and a valid log are: the program's functions and the reference's tell the same of entries whose numbers are 64 bits wide. -/
import Derived.Test.YtnclcbjagleoeaaDoorLogSeq
import Derived.Test.YtnclcbjagleoeaaDoorPx4
set_option linter.unusedVariables false
set_option linter.unusedSimpArgs false
namespace Go.Proofs.YtnclcbjagleoeaaDoor.PL
open Go.RowKit Go.Proofs.YtnclcbjagleoeaaDoor.P Go.Proofs.YtnclcbjagleoeaaDoorW.PrintWords Go.Proofs.YtnclcbjagleoeaaDoorW.PrintLast

theorem evnow {α : Type} (a : α) : Ev (fun _ => some a) a := ⟨0, fun _ _ => rfl⟩
theorem ev_neg {α : Type} {c : Prop} [Decidable c] {f g : Nat → Option α} {r : α} (h : ¬ c) (k : Ev g r) : Ev (fun n => if c then f n else g n) r := Ev.congr (fun _ => if_neg h) k
theorem ev_pos {α : Type} {c : Prop} [Decidable c] {f g : Nat → Option α} {r : α} (h : c) (k : Ev f r) : Ev (fun n => if c then f n else g n) r := Ev.congr (fun _ => if_pos h) k
theorem wrapS (i : Int) (h0 : 0 ≤ i) (h : i ≤ 4611686018427387904) : wrap64 (i + 1) = i + 1 := by unfold wrap64; omega
theorem wrapT (i : Int) (h0 : 0 ≤ i) (h : i + 1 ≤ 9223372036854775807) : wrap64 (i + 1) = i + 1 := by unfold wrap64; omega
/-- A number of 64 bits. -/
def I64 (a : Int) : Prop := -9223372036854775808 ≤ a ∧ a ≤ 9223372036854775807
/-- An entry whose numbers are of 64 bits, its text below 2^63 bytes. -/
def wfE (e : S56) : Prop := I64 e.f0 ∧ I64 e.f1 ∧ I64 e.f2.f0 ∧ I64 e.f2.f1 ∧ I64 e.f2.f2 ∧ I64 e.f2.f3 ∧ e.f2.f4.size ≤ 9223372036854775807

/-! ### Numbers of rows -/
def madeB (a : Int) : Bool := decide (ownI a ≠ 0) && decide (ownI a ≠ 1)
def rootB (a : Int) : Bool := decide (1 ≤ a) && decide (a ≤ 3)
theorem in_f (a b c : Int) : spec_l6In.f a b c = some (decide (b ≤ a) && decide (a ≤ c)) := by
  unfold spec_l6In.f
  by_cases h : a ≥ b
  · rw [if_pos h]; simp [h]
  · rw [if_neg h]; simp [show ¬ b ≤ a from h]
theorem ownI_out (a : Int) (h : a < 0 ∨ 37 ≤ a) : ownI a = 0 := by
  unfold ownI
  rw [if_neg (by omega)]
theorem small_made : ∀ n : Nat, n < 37 → (decide (1 ≤ Int.tdiv (n : Int) 10) && decide (Int.tdiv (n : Int) 10 ≤ 3)) = true → (decide (1 ≤ Int.tmod (n : Int) 10) && decide (Int.tmod (n : Int) 10 ≤ 6)) = madeB n := by decide
theorem small_unmade : ∀ n : Nat, n < 37 → (decide (1 ≤ Int.tdiv (n : Int) 10) && decide (Int.tdiv (n : Int) 10 ≤ 3)) = false → madeB n = false := by decide
theorem small_who : ∀ n : Nat, n < 37 → madeB n = true → ownI n - 1 = Int.tdiv (n : Int) 10 := by decide
theorem small_root : ∀ n : Nat, n < 37 → (decide (ownI n ≠ 0) && decide (ownI n - 1 = 0)) = rootB n := by decide
theorem small_rootmade : ∀ n : Nat, n < 37 → ownI n ≠ 0 → (decide (ownI n - 1 ≠ 0)) = madeB n := by decide
theorem tdiv_wrap (a : Int) (h : I64 a) : wrap64 (Int.tdiv a 10) = Int.tdiv a 10 := by
  obtain ⟨h1, h2⟩ := h
  have : Int.tdiv a 10 ≤ 9223372036854775807 ∧ -9223372036854775808 ≤ Int.tdiv a 10 := by
    rcases Int.le_total 0 a with h0 | h0
    · rw [Int.tdiv_eq_ediv_of_nonneg h0]; omega
    · have e : Int.tdiv a 10 = -(Int.tdiv (-a) 10) := by rw [Int.neg_tdiv, Int.neg_neg]
      rw [e, Int.tdiv_eq_ediv_of_nonneg (by omega)]; omega
  unfold wrap64; omega
theorem made_f (a : Int) (h : I64 a) : spec_l1Made.f a = some (madeB a) := by
  unfold spec_l1Made.f
  rw [in_f, in_f, tdiv_wrap a h]
  simp only [Option.bind_some]
  by_cases hs : 0 ≤ a ∧ a < 37
  · obtain ⟨n, rfl⟩ : ∃ n : Nat, a = n := ⟨a.toNat, by omega⟩
    have hn : n < 37 := by omega
    cases hd : (decide (1 ≤ Int.tdiv (n : Int) 10) && decide (Int.tdiv (n : Int) 10 ≤ 3)) with
    | true => rw [if_pos rfl, small_made n hn hd]
    | false => rw [if_neg (by decide), small_unmade n hn hd]
  · have ho : madeB a = false := by unfold madeB; rw [ownI_out a (by omega)]; rfl
    rw [ho]
    rcases Int.lt_or_le a 0 with h0 | h0
    · have e : Int.tdiv a 10 = -(Int.tdiv (-a) 10) := by rw [Int.neg_tdiv, Int.neg_neg]
      have h1 : Int.tdiv a 10 ≤ 0 := by rw [e, Int.tdiv_eq_ediv_of_nonneg (by omega)]; omega
      have h2 : decide (1 ≤ Int.tdiv a 10) = false := decide_eq_false (by omega)
      rw [h2]
      simp
    · have e1 := Int.tdiv_eq_ediv_of_nonneg (b := 10) h0
      have e2 : Int.tmod a 10 = a % 10 := Int.tmod_eq_emod_of_nonneg h0
      rw [e1, e2]
      by_cases h3 : a / 10 ≤ 3
      · have h4 : decide (a % 10 ≤ 6) = false := decide_eq_false (by omega)
        rw [h4]
        simp
      · have h4 : decide (a / 10 ≤ 3) = false := decide_eq_false h3
        rw [h4]
        simp
theorem isMade_f (a : Int) : impl_isMade.f a = some (madeB a) := by
  unfold impl_isMade.f impl_RowWho.f madeB
  simp only [Option.bind_some]
  by_cases h0 : ownI a = 0
  · rw [if_pos h0]; simp [h0]
  · rw [if_neg h0]
    by_cases h1 : ownI a = 1
    · simp [h1]
    · simp [h0, h1]
      omega
theorem isRoot_f (a : Int) : impl_isRoot.f a = some (rootB a) := by
  unfold impl_isRoot.f impl_RowWho.f
  simp only [Option.bind_some]
  by_cases hs : 0 ≤ a ∧ a < 37
  · obtain ⟨n, rfl⟩ : ∃ n : Nat, a = n := ⟨a.toNat, by omega⟩
    have := small_root n (by omega)
    rw [← this]
    by_cases h0 : ownI (n : Int) = 0
    · rw [if_pos h0]; simp [h0]
    · rw [if_neg h0]
      by_cases h1 : ownI (n : Int) - 1 = 0 <;> simp [h0, h1]
  · rw [if_pos (ownI_out a (by omega))]
    have : rootB a = false := by unfold rootB; simp; omega
    rw [this]
    simp
theorem root_f (a : Int) : spec_l1Root.f a = some (rootB a) := by
  unfold spec_l1Root.f
  rw [in_f]
  rfl
def idB (a : Int) : Bool := rootB a || madeB a
theorem id_f (a : Int) (h : I64 a) : spec_l3Id.f a = some (idB a) := by
  unfold spec_l3Id.f idB
  rw [root_f, made_f a h]
  simp only [Option.bind_some]
  cases rootB a <;> simp
def placeB (u a : Int) : Bool := idB u && (decide (a = 0) || madeB a)
theorem place_f (u a : Int) : impl_placeOk.f u a = some (placeB u a) := by
  unfold impl_placeOk.f placeB idB
  rw [isMade_f, isMade_f, isRoot_f]
  simp only [Option.bind_some]
  by_cases h : a = 0
  · simp only [h, if_true]
    cases madeB u <;> cases rootB u <;> simp
  · simp only [h, if_false]
    cases madeB u <;> cases rootB u <;> simp
/-! ### Texts -/
def textFrom (s : ByteArray) (i : Nat) : Nat → Bool
  | 0 => true
  | n + 1 => decide (97 ≤ bt s i) && decide (bt s i ≤ 100) && textFrom s (i + 1) n
def textB (s : ByteArray) : Bool := textFrom s 0 s.size && decide (s.size ≤ 4)
theorem bt_range (s : ByteArray) (i : Int) : 0 ≤ bt s i ∧ bt s i ≤ 255 := by
  unfold bt
  split
  · rename_i h
    have := (s[i.toNat]'h).toNat_lt
    omega
  · omega
theorem text_l0 (s : ByteArray) (hs : s.size ≤ 9223372036854775807) : ∀ (n : Nat) (i : Nat), i + n = s.size → Ev (fun k => spec_l1Text.l0 k s i) (textFrom s i n && decide (s.size ≤ 4))
  | 0, i, h => by
    refine Ev.step (f := fun _ => some (decide ((s.size : Int) ≤ 4))) (fun k => ?_) ?_
    · simp only [spec_l1Text.l0]; rw [if_neg (by omega)]
    · have : decide ((s.size : Int) ≤ 4) = (textFrom s i 0 && decide (s.size ≤ 4)) := by simp [textFrom]; omega
      rw [this]; exact evnow _
  | n + 1, i, h => by
    have hw : wrap64 (bt s i) = bt s i := by have := bt_range s i; unfold wrap64; omega
    unfold textFrom
    cases ht : (decide (97 ≤ bt s i) && decide (bt s i ≤ 100)) with
    | true =>
      rw [Bool.true_and]
      refine Ev.step (fun k => ?_) (text_l0 s hs n (i + 1) (by omega))
      simp only [spec_l1Text.l0]
      rw [if_pos (by omega), if_pos (by omega), hw, in_f, ht, Option.bind_some, if_pos rfl, wrapT i (by omega) (by omega)]
      rfl
    | false =>
      rw [Bool.false_and, Bool.false_and]
      refine Ev.step (f := fun _ => some false) (fun k => ?_) (evnow _)
      simp only [spec_l1Text.l0]
      rw [if_pos (by omega), if_pos (by omega), hw, in_f, ht, Option.bind_some, if_neg (by decide)]
theorem text_f (s : ByteArray) (hs : s.size ≤ 9223372036854775807) : Ev (fun k => spec_l1Text.f k s) (textB s) := text_l0 s hs s.size 0 (by omega)
theorem itext_l0 (s : ByteArray) (hs : s.size ≤ 9223372036854775807) : ∀ (n : Nat) (i : Nat), i + n = s.size → Ev (fun k => impl_textOk.l0 k s i) (textFrom s i n)
  | 0, i, h => by
    refine Ev.step (f := fun _ => some true) (fun k => ?_) (evnow _)
    simp only [impl_textOk.l0]; rw [if_neg (by omega)]
  | n + 1, i, h => by
    unfold textFrom
    by_cases h1 : bt s i < 97
    · have : decide (97 ≤ bt s i) = false := decide_eq_false (by omega)
      rw [this, Bool.false_and, Bool.false_and]
      refine Ev.step (f := fun _ => some false) (fun k => ?_) (evnow _)
      simp only [impl_textOk.l0]
      rw [if_pos (by omega), if_pos (by omega), if_pos h1]
    · by_cases h2 : bt s i > 100
      · have : decide (bt s i ≤ 100) = false := decide_eq_false (by omega)
        rw [this, Bool.and_false, Bool.false_and]
        refine Ev.step (f := fun _ => some false) (fun k => ?_) (evnow _)
        simp only [impl_textOk.l0]
        rw [if_pos (by omega), if_pos (by omega), if_neg h1, if_pos h2]
      · have e1 : decide (97 ≤ bt s i) = true := decide_eq_true (by omega)
        have e2 : decide (bt s i ≤ 100) = true := decide_eq_true (by omega)
        rw [e1, e2, Bool.true_and, Bool.true_and]
        refine Ev.step (fun k => ?_) (itext_l0 s hs n (i + 1) (by omega))
        simp only [impl_textOk.l0]
        rw [if_pos (by omega), if_pos (by omega), if_neg h1, if_neg h2, wrapT i (by omega) (by omega)]
        rfl
theorem itext_f (s : ByteArray) (hs : s.size ≤ 9223372036854775807) : Ev (fun k => impl_textOk.f k s) (textB s) := by
  unfold impl_textOk.f textB
  by_cases h : (s.size : Int) > 4
  · refine ev_pos h ?_
    have : decide (s.size ≤ 4) = false := decide_eq_false (by omega)
    rw [this, Bool.and_false]
    exact evnow _
  · refine ev_neg h ?_
    have : decide (s.size ≤ 4) = true := decide_eq_true (by omega)
    rw [this, Bool.and_true]
    exact itext_l0 s hs s.size 0 (by omega)
theorem text_nil (s : ByteArray) (h : s.toList.isEmpty = true) : textB s = true := by
  have : s.size = 0 := by
    have h2 := List.isEmpty_iff.1 h
    have h3 : s.toList.length = s.size := by rw [Go.ByteArray.toList_eq]; exact Array.length_toList
    rw [← h3, h2]; rfl
  unfold textB
  rw [this]
  rfl
/-! ### Changes, entries -/
def opB (k i u a : Int) (s : ByteArray) : Bool :=
  madeB i && (if k = 1 then placeB u a && textB s else if k = 2 then decide (u = 0) && decide (a = 0) && textB s else if k = 3 then placeB u a && s.toList.isEmpty else false)
theorem opOk_f (k i u a : Int) (s : ByteArray) (hs : s.size ≤ 9223372036854775807) : Ev (fun n => impl_OpOk.f n k i u a s) (opB k i u a s) := by
  unfold impl_OpOk.f impl_changeOf.f opB
  rw [isMade_f]
  simp only [Option.bind_some]
  cases madeB i with
  | false => simp only [Bool.false_eq_true, if_false, Bool.false_and]; exact evnow _
  | true =>
    simp only [if_true, Bool.true_and, place_f, Option.bind_some]
    by_cases h1 : k = 1
    · simp only [h1, if_true]
      cases placeB u a with
      | true => simp only [if_true, Bool.true_and]; exact itext_f s hs
      | false => simp only [Bool.false_eq_true, if_false, Bool.false_and]; exact evnow _
    · simp only [h1, if_false]
      by_cases h2 : k = 2
      · simp only [h2, if_true]
        by_cases h3 : u = 0
        · by_cases h4 : a = 0
          · simp only [h3, h4, if_true, decide_true, Bool.true_and]; exact itext_f s hs
          · simp only [h3, h4, if_true, if_false, decide_true, decide_false, Bool.true_and, Bool.false_and]; exact evnow _
        · simp only [h3, if_false, decide_false, Bool.false_and]; exact evnow _
      · simp only [h2, if_false]
        by_cases h3 : k = 3
        · simp only [h3, if_true]
          cases placeB u a with
          | true => simp only [if_true, Bool.true_and]; exact evnow _
          | false => simp only [Bool.false_eq_true, if_false, Bool.false_and]; exact evnow _
        · simp only [h3, if_false]; exact evnow _
theorem sop_f (k i u a : Int) (s : ByteArray) (hi : I64 i) (hu : I64 u) (ha : I64 a) (hs : s.size ≤ 9223372036854775807) : Ev (fun n => spec_OpOk.f n k i u a s) (opB k i u a s) := by
  unfold spec_OpOk.f opB
  rw [made_f i hi]
  simp only [Option.bind_some]
  cases madeB i with
  | false =>
    simp only [Bool.false_eq_true, if_false, Bool.false_and]
    refine Ev.step (f := fun _ => some false) (fun n => ?_) (evnow _)
    simp only [spec_OpOk.j0, if_true]
  | true =>
    simp only [if_true, Bool.true_and]
    refine Ev.bind (text_f s hs) ?_
    have hp : (idB u && (decide (a = 0) || madeB a)) = placeB u a := rfl
    cases ht : textB s with
    | false =>
      have hne : s.toList.isEmpty = false := by
        cases he : s.toList.isEmpty with
        | false => rfl
        | true => rw [text_nil s he] at ht; cases ht
      refine Ev.step (f := fun _ => some false) (fun n => ?_) ?_
      · simp only [spec_OpOk.j0, Bool.not_false, if_true]
      · simp only [hne, Bool.and_false, ite_self]
        exact evnow _
    | true =>
      refine Ev.step (f := fun _ => some (if k = 1 then placeB u a && true else if k = 2 then decide (u = 0) && decide (a = 0) && true else if k = 3 then placeB u a && s.toList.isEmpty else false)) (fun n => ?_) (evnow _)
      simp only [spec_OpOk.j0, Bool.not_true, Bool.false_eq_true, if_false]
      rw [id_f u hu, made_f a ha]
      simp only [Option.bind_some, Bool.and_true]
      rw [← hp]
      have hnil : (s.toList == ([] : List UInt8)) = s.toList.isEmpty := by cases s.toList <;> rfl
      rw [hnil]
      by_cases h1 : k = 1
      · simp only [h1, if_true]
        by_cases h4 : a = 0
        · simp only [h4, if_true, decide_true, Bool.true_or, Bool.and_true]; cases idB u <;> simp
        · simp only [h4, if_false, decide_false, Bool.false_or]; cases idB u <;> simp
      · simp only [h1, if_false]
        by_cases h2 : k = 2
        · simp only [h2, if_true]
          by_cases h3 : u = 0
          · simp [h3]; by_cases h4 : a = 0 <;> simp [h4]
          · simp [h3]
        · simp only [h2, if_false]
          by_cases h3 : k = 3
          · simp only [h3, if_true]
            by_cases h4 : a = 0
            · simp only [h4, if_true, decide_true, Bool.true_or, Bool.and_true]; cases idB u <;> simp
            · simp only [h4, if_false, decide_false, Bool.false_or]; cases idB u <;> cases madeB a <;> simp
          · simp only [h3, if_false]
def entB (e : S56) : Bool :=
  decide (1 ≤ e.f0) && decide (e.f0 ≤ 3) && (decide (1 ≤ e.f1) && decide (e.f1 ≤ 40)) && opB e.f2.f0 e.f2.f1 e.f2.f2 e.f2.f3 e.f2.f4 && (decide (e.f2.f0 ≠ 1) || decide (ownI e.f2.f1 - 1 = e.f0))
theorem made_small (a : Int) (h : madeB a = true) : 0 ≤ a ∧ a < 37 := by
  rcases Int.lt_or_le a 0 with h0 | h0
  · unfold madeB at h; rw [ownI_out a (by omega)] at h; simp at h
  · rcases Int.lt_or_le a 37 with h1 | h1
    · exact ⟨h0, h1⟩
    · unfold madeB at h; rw [ownI_out a (by omega)] at h; simp at h
theorem opB_made (k i u a : Int) (s : ByteArray) (h : opB k i u a s = true) : madeB i = true := by
  unfold opB at h
  simp only [Bool.and_eq_true] at h
  exact h.1
theorem who_made (i : Int) (h : madeB i = true) : ownI i - 1 = wrap64 (Int.tdiv i 10) := by
  obtain ⟨h0, h1⟩ := made_small i h
  obtain ⟨n, rfl⟩ : ∃ n : Nat, i = n := ⟨i.toNat, by omega⟩
  rw [tdiv_wrap _ ⟨by omega, by omega⟩]
  exact small_who n (by omega) h
theorem ent_f (e : S56) (h : wfE e) : Ev (fun n => impl_EntryOk.f n e.f0 e.f1 e.f2.f0 e.f2.f1 e.f2.f2 e.f2.f3 e.f2.f4) (entB e) := by
  obtain ⟨h0, h1, h2, h3, h4, h5, h6⟩ := h
  unfold impl_EntryOk.f impl_whoOk.f entB
  by_cases a1 : e.f0 ≥ 1
  · simp only [a1, if_true, Option.bind_some, ge_iff_le, decide_true, Bool.true_and]
    cases a2 : decide (e.f0 ≤ 3) with
    | false => simp only [Bool.false_eq_true, if_false, Bool.false_and]; exact evnow _
    | true =>
      simp only [if_true, Bool.true_and]
      by_cases a3 : e.f1 < 1
      · have : decide (1 ≤ e.f1) = false := decide_eq_false (by omega)
        simp only [a3, if_true, this, Bool.false_and]; exact evnow _
      · have e3 : decide (1 ≤ e.f1) = true := decide_eq_true (by omega)
        by_cases a4 : e.f1 > 40
        · have : decide (e.f1 ≤ 40) = false := decide_eq_false (by omega)
          simp only [a3, if_false, a4, if_true, this, Bool.and_false, Bool.false_and]; exact evnow _
        · have e4 : decide (e.f1 ≤ 40) = true := decide_eq_true (by omega)
          simp only [a3, if_false, a4, e3, e4, Bool.true_and]
          refine Ev.bind (opOk_f _ _ _ _ _ h6) ?_
          cases ho : opB e.f2.f0 e.f2.f1 e.f2.f2 e.f2.f3 e.f2.f4 with
          | false => simp only [Bool.false_eq_true, if_false, Bool.false_and]; exact evnow _
          | true =>
            simp only [if_true, Bool.true_and]
            have hm := opB_made _ _ _ _ _ ho
            unfold impl_RowWho.f
            have hn : ownI e.f2.f1 ≠ 0 := by
              intro hz
              unfold madeB at hm
              rw [hz] at hm
              simp at hm
            rw [if_neg hn]
            simp only [Option.bind_some]
            by_cases a5 : e.f2.f0 = 1
            · simp only [a5, if_true, ne_eq, not_true, decide_false, Bool.false_or]
              have : (ownI e.f2.f1 - 1 == e.f0) = decide (ownI e.f2.f1 - 1 = e.f0) := by by_cases hq : ownI e.f2.f1 - 1 = e.f0 <;> simp [hq]
              rw [this]; exact evnow _
            · simp only [a5, if_false, ne_eq, not_false_eq_true, decide_true, Bool.true_or]; exact evnow _
  · have : decide (1 ≤ e.f0) = false := decide_eq_false (by omega)
    simp only [a1, if_false, Option.bind_some, Bool.false_eq_true, this, Bool.false_and]; exact evnow _
theorem sent_f (e : S56) (h : wfE e) : Ev (fun n => spec_EntryOk.f n e.f0 e.f1 e.f2.f0 e.f2.f1 e.f2.f2 e.f2.f3 e.f2.f4) (entB e) := by
  obtain ⟨h0, h1, h2, h3, h4, h5, h6⟩ := h
  unfold spec_EntryOk.f entB
  rw [in_f, in_f]
  simp only [Option.bind_some]
  cases (decide (1 ≤ e.f0) && decide (e.f0 ≤ 3)) with
  | false => simp only [Bool.false_eq_true, if_false, Bool.false_and]; exact evnow _
  | true =>
    cases (decide (1 ≤ e.f1) && decide (e.f1 ≤ 40)) with
    | false => simp only [Bool.false_eq_true, if_true, if_false, Bool.true_and, Bool.false_and]; exact evnow _
    | true =>
      simp only [if_true, Bool.true_and]
      refine Ev.bind (sop_f _ _ _ _ _ h3 h4 h5 h6) ?_
      cases ho : opB e.f2.f0 e.f2.f1 e.f2.f2 e.f2.f3 e.f2.f4 with
      | false => simp only [Bool.false_eq_true, if_false, Bool.false_and]; exact evnow _
      | true =>
        simp only [if_true, Bool.true_and]
        have hm := who_made _ (opB_made _ _ _ _ _ ho)
        by_cases a5 : e.f2.f0 = 1
        · simp only [a5, if_true, ne_eq, not_true, decide_false, Bool.false_or]
          have : (wrap64 (Int.tdiv e.f2.f1 10) == e.f0) = decide (ownI e.f2.f1 - 1 = e.f0) := by rw [hm]; by_cases hq : wrap64 (Int.tdiv e.f2.f1 10) = e.f0 <;> simp [hq]
          rw [this]; exact evnow _
        · simp only [a5, if_false, ne_eq, not_false_eq_true, decide_true, Bool.true_or]; exact evnow _
/-! ### Logs -/
def goB : List S56 → List S56 → Bool
  | _, [] => true
  | pre, e :: rest => entB e && decide (cntE pre e.f0 + 1 = e.f1) && goB (pre ++ [e]) rest
def logB (l : List S56) : Bool := decide (l.length ≤ 40) && goB [] l
def wfL (l : List S56) : Prop := ∀ e ∈ l, wfE e
theorem log_go : ∀ (rest pre : List S56), wfL rest → Ev (fun n => impl_LogOk.go n pre rest) (goB pre rest)
  | [], _, _ => Ev.congr (f := fun _ => some true) (fun n => by unfold impl_LogOk.go; rfl) (evnow _)
  | e :: rest, pre, h => by
    unfold goB
    refine Ev.congr (f := fun k => (impl_EntryOk.f k e.f0 e.f1 e.f2.f0 e.f2.f1 e.f2.f2 e.f2.f3 e.f2.f4).bind fun t => if t = true then (if cntE pre e.f0 + 1 = e.f1 then impl_LogOk.go k (pre ++ [e]) rest else some false) else some false) (fun n => by rw [impl_LogOk.go]) ?_
    refine Ev.bind (ent_f e (h e (List.mem_cons_self))) ?_
    cases entB e with
    | false => simp only [Bool.false_eq_true, if_false, Bool.false_and]; exact evnow _
    | true =>
      simp only [if_true, Bool.true_and]
      by_cases hq : cntE pre e.f0 + 1 = e.f1
      · simp only [hq, if_true, decide_true, Bool.true_and]; exact log_go rest _ (fun x hx => h x (List.mem_cons_of_mem _ hx))
      · simp only [hq, if_false, decide_false, Bool.false_and]; exact evnow _
theorem log_f (l : List S56) (h : wfL l) : Ev (fun n => impl_LogOk.f n l) (logB l) := by
  unfold impl_LogOk.f logB
  by_cases h40 : (l.length : Int) > 40
  · refine ev_pos h40 ?_
    have : decide (l.length ≤ 40) = false := decide_eq_false (by omega)
    rw [this, Bool.false_and]; exact evnow _
  · refine ev_neg h40 ?_
    have : decide (l.length ≤ 40) = true := decide_eq_true (by omega)
    rw [this, Bool.true_and]; exact log_go l [] h
theorem rdE_get (l : List S56) (i : Nat) (h : i < l.length) : rd_T56 l i = l[i] := by
  unfold rd_T56
  rw [List.getD_eq_getElem?_getD, show ((i : Int)).toNat = i from rfl, List.getElem?_eq_getElem h]
  rfl
theorem seq_l0 (l : List S56) (who : Int) (hl : l.length ≤ 281474976710656) : ∀ (n : Nat) (i : Nat) (c : Int), i + n = l.length → 0 ≤ c → c ≤ i → Ev (fun k => spec_l12Seq.l0 k l who c i) (c + cntE (l.drop i) who)
  | 0, i, c, h, h0, h1 => by
    refine Ev.step (f := fun _ => some c) (fun k => ?_) ?_
    · simp only [spec_l12Seq.l0]; rw [if_neg (by omega)]
    · have : c + cntE (l.drop i) who = c := by rw [List.drop_eq_nil_of_le (by omega)]; unfold cntE; simp
      rw [this]; exact evnow _
  | n + 1, i, c, h, h0, h1 => by
    have hi : i < l.length := by omega
    have hd := List.drop_eq_getElem_cons hi
    have hc : cntE (l.drop i) who = cntE (l.drop (i + 1)) who + (if l[i].f0 = who then 1 else 0) := by
      rw [hd]
      unfold cntE
      rw [List.countP_cons]
      by_cases hq : l[i].f0 = who <;> simp [hq]
    rw [hc]
    by_cases hq : l[i].f0 = who
    · rw [if_pos hq, show c + (cntE (l.drop (i + 1)) who + 1) = (c + 1) + cntE (l.drop (i + 1)) who by omega]
      refine Ev.step (fun k => ?_) (seq_l0 l who hl n (i + 1) (c + 1) (by omega) (by omega) (by omega))
      simp only [spec_l12Seq.l0]
      rw [if_pos (by omega), if_pos (by omega), rdE_get l i hi, if_pos hq, wrapS i (by omega) (by omega), wrapS c (by omega) (by omega)]
      rfl
    · rw [if_neg hq, Int.add_zero]
      refine Ev.step (fun k => ?_) (seq_l0 l who hl n (i + 1) c (by omega) (by omega) (by omega))
      simp only [spec_l12Seq.l0]
      rw [if_pos (by omega), if_pos (by omega), rdE_get l i hi, if_neg hq, wrapS i (by omega) (by omega)]
      rfl
theorem seq_f (l : List S56) (who : Int) (hl : l.length ≤ 281474976710656) : Ev (fun k => spec_l12Seq.f k l who) (cntE l who) := by
  have := seq_l0 l who hl l.length 0 0 (by omega) (by omega) (by omega)
  rw [Int.zero_add] at this
  exact this
theorem slog_l0 (l : List S56) (h : wfL l) (hl : l.length ≤ 281474976710656) : ∀ (n : Nat) (i : Nat), i + n = l.length → Ev (fun k => spec_LogOk.l0 k l i) (goB (l.take i) (l.drop i) && decide (l.length ≤ 40))
  | 0, i, hn => by
    rw [List.drop_eq_nil_of_le (by omega)]
    refine Ev.step (f := fun _ => some (decide ((l.length : Int) ≤ 40))) (fun k => ?_) ?_
    · simp only [spec_LogOk.l0]; rw [if_neg (by omega)]
    · have : decide ((l.length : Int) ≤ 40) = (goB (l.take i) [] && decide (l.length ≤ 40)) := by unfold goB; simp; omega
      rw [this]; exact evnow _
  | n + 1, i, hn => by
    have hi : i < l.length := by omega
    rw [List.drop_eq_getElem_cons hi]
    unfold goB
    rw [← List.take_succ_eq_append_getElem hi]
    refine Ev.step (f := fun k => (spec_EntryOk.f k l[i].f0 l[i].f1 l[i].f2.f0 l[i].f2.f1 l[i].f2.f2 l[i].f2.f3 l[i].f2.f4).bind fun t127 => (if t127 = true then ((spec_l12Seq.f k (l.take i) l[i].f0).bind fun t134 => (if l[i].f1 = (wrap64 (t134 + 1)) then (spec_LogOk.l0 k l ((i + 1 : Nat) : Int)) else (some false))) else (some false))) (fun k => ?_) ?_
    · simp only [spec_LogOk.l0]
      rw [if_pos (by omega), if_pos (by omega), rdE_get l i hi, if_pos (by omega), wrapS i (by omega) (by omega)]
      rfl
    · refine Ev.bind (sent_f _ (h _ (List.getElem_mem hi))) ?_
      cases entB l[i] with
      | false => simp only [Bool.false_eq_true, if_false, Bool.false_and]; exact evnow _
      | true =>
        simp only [if_true, Bool.true_and]
        refine Ev.bind (seq_f (l.take i) l[i].f0 (by rw [List.length_take]; omega)) ?_
        have hcn := cntE_le (l.take i) l[i].f0
        have hw : wrap64 (cntE (l.take i) l[i].f0 + 1) = cntE (l.take i) l[i].f0 + 1 := wrapS _ hcn.1 (by have := hcn.2; rw [List.length_take] at this; omega)
        rw [hw]
        by_cases hq : cntE (l.take i) l[i].f0 + 1 = l[i].f1
        · rw [decide_eq_true hq, Bool.true_and]
          refine ev_pos hq.symm ?_
          exact slog_l0 l h hl n (i + 1) (by omega)
        · rw [decide_eq_false hq, Bool.false_and, Bool.false_and]
          refine ev_neg (fun e => hq e.symm) ?_
          exact evnow _
theorem slog_f (l : List S56) (h : wfL l) (hl : l.length ≤ 281474976710656) : Ev (fun k => spec_LogOk.f k l) (logB l) := by
  have := slog_l0 l h hl l.length 0 (by omega)
  unfold logB
  rw [Bool.and_comm]
  exact this
theorem logB_len {l : List S56} (h : logB l = true) : l.length ≤ 40 := by
  unfold logB at h
  simp only [Bool.and_eq_true, decide_eq_true_eq] at h
  exact h.1
end Go.Proofs.YtnclcbjagleoeaaDoor.PL
