/- FnHearTwo over lists. -/
import Derived.Test.YtdpklbomhdpimaaDoorHb9
import Derived.Test.YtdpklbomhdpimaaDoorTwo
set_option linter.unusedVariables false
set_option linter.unusedSimpArgs false
namespace Go.Proofs.YtdpklbomhdpimaaDoor.PL
open Go.RowKit Go.Proofs.YtdpklbomhdpimaaDoor.P Go.Proofs.YtdpklbomhdpimaaDoorW.PrintWords Go.Proofs.YtdpklbomhdpimaaDoorW.PrintLast

theorem addV_yes {l : List S44} {e : S44} (h1 : hasE l e = false) (h2 : e.f1 = cntE l e.f0 + 1) (h3 : l.length < 40) : addV l e = (l ++ [e], 1) := by
  unfold addV
  rw [h1, if_neg (show ¬ (false = true) by decide), if_pos h2, if_neg (by omega)]
theorem cntE_append (a b : List S44) (w : Int) : cntE (a ++ b) w = cntE a w + cntE b w := by
  unfold cntE
  rw [List.countP_append]
  omega
theorem goB_seq : ∀ (l pre : List S44), goB pre l = true → ∀ x ∈ l, x.f1 ≤ cntE (pre ++ l) x.f0
  | [], _, _, x, hx => by cases hx
  | y :: l, pre, h, x, hx => by
    rw [goB] at h
    simp only [Bool.and_eq_true, decide_eq_true_eq] at h
    rcases List.mem_cons.1 hx with rfl | hx
    · have h1 := cntE_append pre (x :: l) x.f0
      have h2 : 1 ≤ cntE (x :: l) x.f0 := by
        unfold cntE
        rw [List.countP_cons]
        simp
        omega
      omega
    · have := goB_seq l (pre ++ [y]) h.2 x hx
      rwa [List.append_assoc] at this
theorem has_new {l : List S44} {f : S44} (hb : logB l = true) (hf : f.f1 = cntE l f.f0 + 1) : hasE l f = false := by
  unfold logB at hb
  rw [Bool.and_eq_true] at hb
  unfold hasE
  rw [List.any_eq_false]
  intro x hx he
  have h1 := goB_seq l [] hb.2 x hx
  rw [List.nil_append] at h1
  unfold eqEn at he
  simp only [Bool.and_eq_true, beq_iff_eq] at he
  rw [he.1] at h1
  omega
theorem hearV_add {l : List S44} {s : Int} {e : S44} (hS : srvB l s = true) (hE : entB e = true) (h2 : e.f1 = cntE l e.f0 + 1) (h3 : l.length < 40) : hearV l s true e = (l ++ [e], s, true, true) := by
  unfold hearV
  rw [hS, hE, addV_yes (has_new (srvB_log hS) h2) h2 h3, if_pos rfl, if_pos rfl, if_pos rfl, if_pos rfl]
def nextE (w c : Int) : S44 := ⟨w, c + 1, ⟨2, 11, 0, 0, ⟨#[100]⟩⟩⟩
theorem nextE_ok {w c : Int} (h1 : 1 ≤ w ∧ w ≤ 3) (h2 : 0 ≤ c ∧ c ≤ 39) : entB (nextE w c) = true ∧ wfE (nextE w c) := by
  have ho : opB 2 11 0 0 ⟨#[100]⟩ = true := by decide +kernel
  refine ⟨?_, i64_small (by show -1000 ≤ w; omega) (by show w ≤ 1000; omega), i64_small (by show -1000 ≤ c + 1; omega) (by show c + 1 ≤ 1000; omega), (show I64 2 by unfold I64; omega), (show I64 11 by unfold I64; omega), (show I64 0 by unfold I64; omega), (show I64 0 by unfold I64; omega), (show (⟨#[100]⟩ : ByteArray).size ≤ 9223372036854775807 by decide)⟩
  unfold entB nextE
  simp only
  rw [decide_eq_true h1.1, decide_eq_true h1.2, decide_eq_true (show 1 ≤ c + 1 by omega), decide_eq_true (show c + 1 ≤ 40 by omega), ho]
  rfl
theorem two_j1 {l : List S44} {s : Int} {e : S44} {w : Int} (hw : wfL l) (he : wfE e) (hS : srvB l s = true) (hE : entB e = true) (h1 : e.f1 = cntE l e.f0 + 1) (h2 : l.length + 2 ≤ 40) (hw3 : 1 ≤ w ∧ w ≤ 3) (hne : ¬ w = e.f0) :
    Ev (fun k => laws_FnHearTwo.j1 k false l s true e.f0 e.f1 e.f2.f0 e.f2.f1 e.f2.f2 e.f2.f3 e.f2.f4 (l ++ [e]) s true w (cntE l w + 1) 2 11 0 0 ⟨#[100]⟩) true := by
  have hc := cntE_le l w
  obtain ⟨f, hf⟩ : ∃ f, f = nextE w (cntE l w) := ⟨_, rfl⟩
  obtain ⟨hF, hwf⟩ := nextE_ok hw3 (c := cntE l w) ⟨hc.1, by omega⟩
  rw [← hf] at hF hwf
  have f0 : f.f0 = w := by rw [hf]; rfl
  have f1 : f.f1 = cntE l w + 1 := by rw [hf]; rfl
  have hS1 := srvB_snoc hS hE h1 (by omega)
  have n1 : f.f1 = cntE (l ++ [e]) f.f0 + 1 := by
    rw [cntE_snoc, f0, f1]
    unfold upd
    rw [if_neg hne]
  have n2 : f.f1 = cntE l f.f0 + 1 := by rw [f0, f1]
  have hS2 := srvB_snoc hS hF n2 (by omega)
  have n3 : e.f1 = cntE (l ++ [f]) e.f0 + 1 := by
    rw [cntE_snoc, f0]
    unfold upd
    rw [if_neg (fun q => hne q.symm)]
    exact h1
  have ln : (l ++ [e]).length = l.length + 1 := by simp
  have ln2 : (l ++ [f]).length = l.length + 1 := by simp
  have hA := ihear_f (l ++ [e]) s true f (wfL_snoc hw he) hwf
  rw [hearV_add hS1 hF n1 (by omega)] at hA
  have hB := ihear_f l s true f hw hwf
  rw [hearV_add hS hF n2 (by omega)] at hB
  have hC := ihear_f (l ++ [f]) s true e (wfL_snoc hw hwf) he
  rw [hearV_add hS2 hE n3 (by omega)] at hC
  have g1 : rd_T44 (l ++ [e] ++ [f]) (l.length : Int) = e := by rw [rdE_get _ _ (by simp)]; simp
  have g2 : rd_T44 (l ++ [e] ++ [f]) ((l.length + 1 : Nat) : Int) = f := by rw [rdE_get _ _ (by simp)]; simp
  have g3 : rd_T44 (l ++ [f] ++ [e]) (l.length : Int) = f := by rw [rdE_get _ _ (by simp)]; simp
  have g4 : rd_T44 (l ++ [f] ++ [e]) ((l.length + 1 : Nat) : Int) = e := by rw [rdE_get _ _ (by simp)]; simp
  have ww : wrap64 ((l.length : Int) + 1) = ((l.length + 1 : Nat) : Int) := wrap_id _ (by omega) (by omega)
  have l1 : (l ++ [e] ++ [f]).length = l.length + 2 := by simp
  have l2 : (l ++ [f] ++ [e]).length = l.length + 2 := by simp
  have ef := eqEn_refl f
  have ee := eqEn_refl e
  have hj : ∀ a b c d (t : ByteArray) x y, f = ⟨x, y, ⟨a, b, c, d, t⟩⟩ → Ev (fun k => laws_FnHearTwo.j1 k false l s true e.f0 e.f1 e.f2.f0 e.f2.f1 e.f2.f2 e.f2.f3 e.f2.f4 (l ++ [e]) s true f.f0 f.f1 f.f2.f0 f.f2.f1 f.f2.f2 f.f2.f3 f.f2.f4) true := by
    intro _ _ _ _ _ _ _ _
    refine Ev.step (fun n => by simp only [laws_FnHearTwo.j1]; rfl) ?_
    refine ev_neg (by decide) (Ev.bind hA (Ev.bind hB (Ev.bind hC (ev_pos rfl (ev_pos rfl (ev_pos rfl ?_))))))
    simp only [ww, g1, g2, g3, g4, l1, l2]
    refine ev_pos (Int.natCast_nonneg _) (ev_pos (by omega) (ev_pos ee (ev_pos (Int.natCast_nonneg _) (ev_pos (by omega) (ev_pos ef (ev_pos (by omega) (ev_pos ef (ev_pos (by omega) ?_))))))))
    have : ∀ b : Bool, b = true → Ev (fun _ => some b) true := fun b h => by rw [h]; exact evnow _
    exact this _ ee
  have := hj _ _ _ _ _ _ _ hf
  rw [hf] at this
  exact this
theorem two_j0 (l0 l1 : List Int) (f : Bool) (h0 : ∀ x ∈ l0, (Lit.int .u8 x).wf = true) (hl1 : f = false → l1.length ≤ 1048576) : Ev (fun k => laws_FnHearTwo.j0 k l0 l1 f) true := by
  cases f with
  | true =>
    refine Ev.step (fun n => by simp only [laws_FnHearTwo.j0]; rfl) ?_
    exact ev_pos (by simp) (evnow _)
  | false =>
    have hl1 := hl1 rfl
    obtain ⟨l, s, u, e, hd, hw, he, hl, hs0, hs1⟩ := drawHear_f l0 h0
    have hlen := hearV_len l s u e
    have hlp := lpS_f (hearV l s u e) (by omega)
    have hH := shear_f l s u e hw he (by omega)
    have hI := ihear_f l s u e hw he
    refine Ev.step (fun n => by simp only [laws_FnHearTwo.j0]; rfl) ?_
    cases hok : (hearV l s u e).2.2.2 with
    | false =>
      generalize hv : hearV l s u e = v at *
      obtain ⟨v1, v2, v3, v4⟩ := v
      have hok : v4 = false := hok
      subst hok
      exact ev_neg (by decide) (Ev.bind hd (Ev.bind hH (Ev.bind hI (ev_neg (by simp) (Ev.bind hlp (ev_pos rfl (ev_neg (by simp) (ev_pos (by simp) (Ev.bind hlp (evnow _))))))))))
    | true =>
      obtain ⟨hv, hS, hE, rfl, a2, a3, a4⟩ := hearV_yes hok
      rw [hv] at hlp hH hI
      have hwho := entB_who hE
      obtain ⟨q, hq⟩ : ∃ q, q = (l1.length : Int) % 2 := ⟨_, rfl⟩
      have q0 : 0 ≤ q := by rw [hq]; exact Int.emod_nonneg _ (by omega)
      have q1 : q < 2 := by rw [hq]; exact Int.emod_lt_of_pos _ (by omega)
      have ew : wrap64 (Int.tmod (wrap64 (e.f0 + q)) 3 + 1) = (e.f0 + q) % 3 + 1 := by
        rw [wrap_id (e.f0 + q) (by omega) (by omega), Int.tmod_eq_emod_of_nonneg (by omega), wrap_id _ (by omega) (by omega)]
      obtain ⟨w, hwd⟩ : ∃ w, w = (e.f0 + q) % 3 + 1 := ⟨_, rfl⟩
      have hw3 : 1 ≤ w ∧ w ≤ 3 := by omega
      have hc := cntE_le l w
      have wc : wrap64 (cntE l w + 1) = cntE l w + 1 := wrapS _ hc.1 (by omega)
      have hQ : Ev (fun k => impl_LogSeq.f k l w) (cntE l w) := by
        unfold impl_LogSeq.f
        have := log_f l hw
        rw [srvB_log hS] at this
        exact Ev.bind this (ev_pos rfl (ev_pos ⟨by omega, by omega⟩ (evnow _)))
      have j1t : Ev (fun k => laws_FnHearTwo.j1 k true l s true e.f0 e.f1 e.f2.f0 e.f2.f1 e.f2.f2 e.f2.f3 e.f2.f4 (l ++ [e]) s true w (cntE l w + 1) 2 11 0 0 ⟨#[100]⟩) true := Ev.step (f := fun _ => some true) (fun n => by simp only [laws_FnHearTwo.j1]; rfl) (evnow _)
      refine ev_neg (by decide) (Ev.bind hd (Ev.bind hH (Ev.bind hI (ev_neg (by simp) (Ev.bind hlp (ev_pos rfl (ev_pos rfl ?_)))))))
      simp only [← hq, ew, ← hwd]
      refine Ev.bind hQ ?_
      simp only [wc]
      by_cases hne : w = e.f0
      · exact ev_pos hne j1t
      · refine ev_neg hne ?_
        rw [wrap_id ((l.length : Int) + 2) (by omega) (by omega)]
        by_cases h40 : (l.length : Int) + 2 > 40
        · rw [decide_eq_true h40]
          exact j1t
        · rw [decide_eq_false h40]
          exact two_j1 hw he hS hE a3 (by omega) hw3 hne
theorem FnHearTwo : laws_FnHearTwo.Pure := by
  intro l0 l1 _ _ h0 _ _ h1
  refine pure_of ?_
  unfold laws_FnHearTwo.f
  by_cases h : (l0.length : Int) > 1048576
  · exact ev_pos h (two_j0 l0 l1 true h0 (fun h => by cases h))
  · exact ev_neg h (two_j0 l0 l1 _ h0 (fun h2 => by have := of_decide_eq_false h2; omega))
end Go.Proofs.YtdpklbomhdpimaaDoor.PL
