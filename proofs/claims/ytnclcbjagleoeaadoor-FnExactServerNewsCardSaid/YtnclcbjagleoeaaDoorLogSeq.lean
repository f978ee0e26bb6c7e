/- LogSeq: how many entries of a valid log are of a client. Condition: the table of rows reads as the program's text lays it. -/
import Derived.Test.YtnclcbjagleoeaaDoorLogOk
set_option linter.unusedVariables false
set_option linter.unusedSimpArgs false
namespace Go.Proofs.YtnclcbjagleoeaaDoor.P
open Go.RowKit Go.Maps Go.Proofs.YtnclcbjagleoeaaDoorW.PrintWords Go.Proofs.YtnclcbjagleoeaaDoorW.PrintLast Go.Proofs.YtnclcbjagleoeaaDoorW.PrintMore

theorem logOk_who {k : Nat} : ∀ (rest pre : List S56), impl_LogOk.go k pre rest = some true → ∀ e ∈ rest, 1 ≤ e.f0 ∧ e.f0 ≤ 3
  | [], _, _, e, he => by cases he
  | x :: rest, pre, h, e, he => by
    unfold impl_LogOk.go at h
    obtain ⟨t, ht, h⟩ := Option.bind_eq_some_iff.1 h
    cases t with
    | false => simp at h
    | true =>
      rw [if_pos rfl] at h
      by_cases hq : cntE pre x.f0 + 1 = x.f1
      · rw [if_pos hq] at h
        rcases List.mem_cons.1 he with rfl | he
        · exact entry_who ht
        · exact logOk_who rest _ h e he
      · rw [if_neg hq] at h
        cases h
theorem logOk_true {k : Nat} {l : List S56} (h : impl_LogOk.f k l = some true) : l.length ≤ 40 ∧ ∀ e ∈ l, 1 ≤ e.f0 ∧ e.f0 ≤ 3 := by
  unfold impl_LogOk.f at h
  by_cases h40 : (l.length : Int) > 40
  · rw [if_pos h40] at h
    cases h
  · rw [if_neg h40] at h
    exact ⟨by omega, logOk_who l [] h⟩
def impl_LogSeq.f (k : Nat) (l0 : List S56) (a1 : Int) : Option Int :=
  (impl_LogOk.f k l0).bind fun t => if t = true then (if 0 ≤ a1 ∧ a1 ≤ 4 then some (cntE l0 a1) else none) else some (-1)
theorem impl_LogSeq.mono (l0 : List S56) (a1 : Int) (k : Nat) : LeO (impl_LogSeq.f k l0 a1) (impl_LogSeq.f (k + 1) l0 a1) := by
  unfold impl_LogSeq.f
  exact LeO.bind (impl_LogOk.mono _ _) (fun _ => LeO.refl _)
def SeqRel (l0 : List S56) (b : Nat) (w : World) (i : Value) (wr : World) : Prop :=
  ∃ j : Int, 0 ≤ j ∧ j ≤ l0.length ∧ i = .int .i64 j ∧ CntMap wr b (cntE (l0.take j.toNat)) j.toNat ∧ Below w.heap.size w wr ∧ w.heap.size ≤ b
set_option maxHeartbeats 4000000 in
set_option maxRecDepth 100000 in
theorem impl_LogSeq.calls (k : Nat) (A0 : Option Addr) (c0 : Nat) (l0 : List S56) (a1 : Int) (r : Int) (w : World) (hr0 : Kd.C k56 w A0 l0.length l0) (hc0 : l0.length ≤ c0) (h : impl_LogSeq.f k l0 a1 = some r) (hG : Glob w) :
    Calls Tryd.prog 47 #[.slice A0 l0.length c0, .int .i64 a1] w fun e w' => e = .returned (.int .i64 r) ∧ Below w.heap.size w w' := by
  have HR0 := Aside0.mk hr0
  have HG := Aside0.mk hG
  have HC0 := Aside0.mk hc0
  clear hr0 hG hc0
  unfold impl_LogSeq.f at h
  obtain ⟨t, ht, h⟩ := Option.bind_eq_some_iff.1 h
  have HT := Aside0.mk ht
  clear ht
  have hmm := @run_makeMap Tryd.prog
  cases t with
  | false =>
    simp only [Bool.false_eq_true, if_false, Option.some.injEq] at h
    subst h
    clear hmm
    go_enter Tryd.func47, Tryd.ntmps47
    go_wp2_with (go_at_call 57; refine (impl_LogOk.calls k _ _ _ false _ HR0.out HC0.out HT.out HG.out).mono ?_; rintro e w2 ⟨rfl, hb⟩; have HB2 := Aside0.mk hb; clear hb)
    go_ret
    exact ⟨rfl, HB2.out⟩
  | true =>
    rw [if_pos rfl] at h
    obtain ⟨h40, hwho⟩ := logOk_true HT.out
    have HWHO := Aside0.mk hwho
    have H40 := Aside0.mk h40
    clear hwho h40
    by_cases ha : 0 ≤ a1 ∧ a1 ≤ 4
    · rw [if_pos ha] at h
      obtain rfl := Option.some.inj h
      clear h
      have HA := Aside0.mk ha
      clear ha
      go_enter Tryd.func47, Tryd.ntmps47
      go_wp2_with (go_at_call 57; refine (impl_LogOk.calls k _ _ _ true _ HR0.out HC0.out HT.out HG.out).mono ?_; rintro e w2 ⟨rfl, hb⟩; have HB2 := Aside0.mk hb; clear hb)
      have hM0 : CntMap (w2.alloc (.map #[] 0)) w2.heap.size (cntE []) 0 := ⟨.map [], World.ownsMap_made _ _ _ _, fun x => rfl⟩
      have HM0 := Aside0.mk hM0
      clear hM0
      have HBB := Aside0.mk (show Below w.heap.size w (w2.alloc (.map #[] 0)) from below_alloc HB2.out _)
      have HSZ := Aside0.mk HB2.out.size
      generalize w2.heap.size = b at HM0 HSZ ⊢
      go_loopw [14] (fun i wr => SeqRel l0 b w i wr) (fun i _ => l0.length - (intOf i).toNat)
      case atStart => exact ⟨0, Int.le_refl _, by omega, rfl, HM0.out, HBB.out, HSZ.out⟩
      case round =>
        obtain ⟨j, hj0, hj, rfl, hM, hB, _⟩ := hrel
        have HM := Aside0.mk hM
        have HB := Aside0.mk hB
        clear hM hB HM0 HBB
        by_cases hlt : j < l0.length
        · have hd1 : decide (j < (l0.length : Int)) = true := decide_eq_true hlt
          obtain ⟨ad, e, hx0, hx1, hx2, hx3, hx4, hx5, hx6⟩ := at_T56 HR0.out j hj0 hlt
          cases e
          replace hx0 := (HB.out.cell (World.block_lt_of_cell? w _ hx0)).trans hx0
          replace hx1 := (HB.out.cell (World.block_lt_of_cell? w _ hx1)).trans hx1
          replace hx2 := (HB.out.cell (World.block_lt_of_cell? w _ hx2)).trans hx2
          replace hx3 := (HB.out.cell (World.block_lt_of_cell? w _ hx3)).trans hx3
          replace hx4 := (HB.out.cell (World.block_lt_of_cell? w _ hx4)).trans hx4
          replace hx5 := (HB.out.cell (World.block_lt_of_cell? w _ hx5)).trans hx5
          replace hx6 := (HB.out.cell (World.block_lt_of_cell? w _ hx6)).trans hx6
          have hu := Tryd.underlying56
          have hxe : rd_T56 l0 j = l0[j.toNat]'(by omega) := by
            unfold rd_T56
            rw [List.getD_eq_getElem?_getD, List.getElem?_eq_getElem (by omega)]
            rfl
          have htk := List.take_succ_eq_append_getElem (l := l0) (i := j.toNat) (by omega)
          have hmem := HWHO.out _ (List.getElem_mem (l := l0) (n := j.toNat) (by omega))
          rw [← hxe] at htk hmem
          clear hxe
          generalize rd_T56 l0 j = x at hx0 hx1 hx2 hx3 hx4 hx5 hx6 htk hmem
          rw [show j.toNat + 1 = (j + 1).toNat by omega] at htk
          have hjb : j ≤ 40 := by have := H40.out; omega
          have p1 := eq_true hj0
          have q1 := eq_true hlt
          have hcn := cntE_le (l0.take j.toNat) x.f0
          have hcl : (l0.take j.toNat).length ≤ 40 := by rw [List.length_take]; omega
          have hsn := cntE_snoc (l0.take j.toNat) x
          rw [← htk] at hsn
          have HSN := Aside0.mk hsn
          have HJN := Aside0.mk (show j.toNat ≤ 1000 ∧ 0 ≤ j ∧ j < l0.length from ⟨by omega, hj0, hlt⟩)
          have HM1 := Aside0.mk (HM.out.alloc (.cells #[.int .i64 x.f0, .int .i64 x.f1, .int .i64 x.f2.f0, .int .i64 x.f2.f1, .int .i64 x.f2.f2, .int .i64 x.f2.f3, .string x.f2.f4] 56))
          have HB1 := Aside0.mk (below_alloc HB.out (.cells #[.int .i64 x.f0, .int .i64 x.f1, .int .i64 x.f2.f0, .int .i64 x.f2.f1, .int .i64 x.f2.f2, .int .i64 x.f2.f3, .string x.f2.f4] 56))
          have HX := Aside0.mk (show 0 ≤ x.f0 ∧ x.f0 ≤ 4 from ⟨by omega, by omega⟩)
          have HC := Aside0.mk (show 0 ≤ cntE (l0.take j.toNat) x.f0 ∧ cntE (l0.take j.toNat) x.f0 ≤ 1000 from ⟨hcn.1, by have := hcn.2; omega⟩)
          clear hj0 hlt hcn hcl htk hsn HM HB hmem
          go_wp2_with (go_at_call 72; refine (add_any _ _ _ _ _ HX.out HC.out HJN.out.1 HM1.out).mono ?_; rintro e w3 ⟨rfl, hM3, hg3⟩; have HM3 := Aside0.mk hM3; have HB3 := Aside0.mk (HB1.out.grown hg3 HB1.out.size (fun j hj => by cases hj; exact HSZ.out)); clear hM3 hg3)
          all_goals have hjj := HJN.out
          all_goals have hww : wrap64 (j + 1) = j + 1 := by unfold wrap64; omega
          all_goals refine ⟨⟨j + 1, by omega, by omega, by rw [hww], ?_, HB3.out, HSZ.out⟩, ?_⟩
          all_goals first
            | (rw [hww]; show l0.length - (j + 1).toNat < l0.length - j.toNat; omega)
            | (rw [HSN.out, show (j + 1).toNat = j.toNat + 1 by omega]; exact HM3.out)
        · have hd1 : decide (j < (l0.length : Int)) = false := decide_eq_false hlt
          have hM := HM.out
          rw [List.take_of_length_le (by omega)] at hM
          clear HM hlt
          obtain ⟨D, hown, hat⟩ := hM
          have hkey : keyOf Tryd.prog 3 (.int .i64 a1) = some (.int .i64 a1) := keyOf_int_mk Tryd.underlying3 (wf_small a1 (by have := HA.out; omega))
          have HAT := Aside0.mk (hat a1)
          clear hat
          go_wp2_with (at_lookup; refine wpList_lookup_own_int _ rfl (.tmp 23) (.tmp 24) 93 rfl 3 3 .i64 keyI Tryd.underlying93 Tryd.underlying3 (zeroI _) b j.toNat D rfl hown _ _ rfl hkey ?_; intro z hz hwz; have ez : z = cntE l0 a1 := (by have := HAT.out.symm.trans hz; injection this with this; injection this with _ this; exact this.symm); subst ez; clear hz hwz)
          go_ret
          exact ⟨rfl, HB.out⟩
    · rw [if_neg ha] at h
      cases h
end Go.Proofs.YtnclcbjagleoeaaDoor.P
