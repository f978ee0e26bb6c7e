/- Joined by a program (wip/shake.py): the declarations that 'YtkopimbbgckcnaaDoorCardFnMakeMove' reaches. -/
import Derived.Test.YtkopimbbgckcnaaDoorZEf5
set_option linter.unusedVariables false
set_option linter.unusedSimpArgs false
set_option linter.unusedSectionVars false
namespace Go.Proofs.YtkopimbbgckcnaaDoor.PL
open Go.RowKit Go.Proofs.YtkopimbbgckcnaaDoor.P Go.Proofs.YtkopimbbgckcnaaDoorW.PrintWords Go.Proofs.YtkopimbbgckcnaaDoorW.PrintLast
structure Dr (t : List S43) (k i u a : Int) (s : ByteArray) : Prop where
 wf : ∀ r ∈ t, wfD r
 two : 2 ≤ t.length
 few : t.length ≤ 21
 op : OpX k i u a s
theorem fits_j2 (b : List Int) (hb : Bytes b) (t : List S43) (f : Bool) (k i u a p : Int) (s : ByteArray) (m : Nat) (d : Dr t k i u a s) (hp : Rd p (m + 2)) :
  ∃ (k' i' u' a' : Int) (s' : ByteArray) (p' : Int), Ev (fun n => spec_l71Fits.j2 n t f b p k i u a s) (t, k', i', u', a', s', p') ∧ Dr t k' i' u' a' s' ∧ Rd p' m := by
 obtain ⟨hw, h2, h21, h3, h4, h5, h6, h7⟩ := d
 cases f with
 | false =>
  refine ⟨k, i, u, a, s, p, ?_, ⟨hw, h2, h21, h3, h4, h5, h6, h7⟩, hp.less (by omega)⟩
  refine Ev.step (fun n => by simp only [spec_l71Fits.j2]; rfl) ?_
  exact ev_neg (by decide) (evnow _)
 | true =>
  obtain ⟨y, hy, hY, y0, y1, _⟩ := pick_f b p (t.length : Int) (m + 1) hb hp
  have y1 := y1 (by omega)
  obtain ⟨j, rfl⟩ : ∃ n : Nat, y = n := ⟨y.toNat, by omega⟩
  have hj : j < t.length := by omega
  have hwj := hw _ (List.getElem_mem hj)
  obtain ⟨ks, hks, hkl, hkk⟩ := kids_f t t[j].f0 (by omega)
  have hk64 : ∀ x ∈ ks, I64 x := fun x hx => by
   obtain ⟨_, _, _, q, hq, _, _, e, _⟩ := hkk x hx
   rw [← e]
   exact (hw _ (List.getElem_mem hq)).1
  by_cases hz : (ks.length : Int) > 0
  ·obtain ⟨x, hx, hX, x0, x1, _⟩ := pick_f b (p + 1) (ks.length : Int) m hb hY
   have x1 := x1 (by omega)
   refine ⟨k, i, t[j].f0, rd ks x, s, p + 1 + 1, ?_, ⟨hw, h2, h21, h3, h4, hwj.1, hk64 _ (rd_mem ks x x0 x1), h7⟩, hX⟩
   refine Ev.step (fun n => by simp only [spec_l71Fits.j2]; rfl) ?_
   refine ev_pos (by simp) (Ev.bind hy (ev_pos y0 (ev_pos y1 ?_)))
   simp only [rdR_get t j hj]
   exact Ev.bind hks (ev_pos hz (Ev.bind hx (ev_pos x0 (ev_pos x1 (evnow _)))))
  ·refine ⟨k, i, t[j].f0, a, s, p + 1, ?_, ⟨hw, h2, h21, h3, h4, hwj.1, h6, h7⟩, hY.less (by omega)⟩
   refine Ev.step (fun n => by simp only [spec_l71Fits.j2]; rfl) ?_
   refine ev_pos (by simp) (Ev.bind hy (ev_pos y0 (ev_pos y1 ?_)))
   simp only [rdR_get t j hj]
   exact Ev.bind hks (ev_neg hz (evnow _))
theorem fits_j1 (b : List Int) (hb : Bytes b) (t : List S43) (k i u a p : Int) (s : ByteArray) (m : Nat) (d : Dr t k i u a s) (hp : Rd p (m + 3)) :
  ∃ (k' i' u' a' : Int) (s' : ByteArray) (p' : Int), Ev (fun n => spec_l71Fits.j1 n t b p k i u a s) (t, k', i', u', a', s', p') ∧ Dr t k' i' u' a' s' ∧ Rd p' m := by
 obtain ⟨x, hx, hX, x0, x1, _⟩ := pick_f b p 3 (m + 2) hb hp
 by_cases e0 : x = 0
 ·by_cases e3 : k = 3
  ·obtain ⟨k', i', u', a', s', p', h1, h2⟩ := fits_j2 b hb t true k i u a (p + 1) s m d hX
   refine ⟨k', i', u', a', s', p', ?_, h2⟩
   refine Ev.step (fun n => by simp only [spec_l71Fits.j1]; rfl) ?_
   exact Ev.bind hx (ev_pos e0 (ev_pos e3 h1))
  ·obtain ⟨k', i', u', a', s', p', h1, h2⟩ := fits_j2 b hb t (k == 1) k i u a (p + 1) s m d hX
   refine ⟨k', i', u', a', s', p', ?_, h2⟩
   refine Ev.step (fun n => by simp only [spec_l71Fits.j1]; rfl) ?_
   exact Ev.bind hx (ev_pos e0 (ev_neg e3 h1))
 ·obtain ⟨k', i', u', a', s', p', h1, h2⟩ := fits_j2 b hb t false k i u a (p + 1) s m d hX
  refine ⟨k', i', u', a', s', p', ?_, h2⟩
  refine Ev.step (fun n => by simp only [spec_l71Fits.j1]; rfl) ?_
  exact Ev.bind hx (ev_neg e0 h1)
theorem fits_j0 (b : List Int) (hb : Bytes b) (t : List S43) (id : Int) (f : Bool) (k i u a p : Int) (s : ByteArray) (m : Nat) (d : Dr t k i u a s) (hid : I64 id) (hp : Rd p (m + 3)) :
  ∃ (k' i' u' a' : Int) (s' : ByteArray) (p' : Int), Ev (fun n => spec_l71Fits.j0 n t id f b p k i u a s) (t, k', i', u', a', s', p') ∧ Dr t k' i' u' a' s' ∧ Rd p' m := by
 cases f with
 | true =>
  obtain ⟨k', i', u', a', s', p', h1, h2⟩ := fits_j1 b hb t k id u a p s m ⟨d.wf, d.two, d.few, d.op.1, hid, d.op.2.2.1, d.op.2.2.2.1, d.op.2.2.2.2⟩ hp
  refine ⟨k', i', u', a', s', p', ?_, h2⟩
  refine Ev.step (fun n => by simp only [spec_l71Fits.j0]; rfl) ?_
  exact ev_pos (by simp) h1
 | false =>
  obtain ⟨k', i', u', a', s', p', h1, h2⟩ := fits_j1 b hb t k i u a p s m d hp
  refine ⟨k', i', u', a', s', p', ?_, h2⟩
  refine Ev.step (fun n => by simp only [spec_l71Fits.j0]; rfl) ?_
  exact ev_neg (by decide) h1
theorem fits71_f (b : List Int) (hb : Bytes b) (p : Int) (m : Nat) (hp : Rd p (m + 1530)) :
  ∃ (t : List S43) (k i u a : Int) (s : ByteArray) (p' : Int), Ev (fun n => spec_l71Fits.f n b p) (t, k, i, u, a, s, p') ∧ Dr t k i u a s ∧ Rd p' m := by
 obtain ⟨t, id, p1, h1, h2, h3, h4, h5, h6⟩ := row71_f b hb p (m + 30) hp
 obtain ⟨k, i, u, a, s, p2, g1, g2, g3⟩ := op71_f b hb p1 (m + 13) h6
 obtain ⟨x, hx, hX, x0, x1, _⟩ := pick_f b p2 5 (m + 12) hb g3
 have d : Dr t k i u a s := ⟨h2, h3, h4, g2⟩
 unfold spec_l71Fits.f
 by_cases e0 : x > 0
 ·by_cases e1 : k = 1
  ·obtain ⟨k', i', u', a', s', p', q1, q2⟩ := fits_j0 b hb t id false k i u a (p2 + 1) s m d h5 (hX.less (by omega))
   exact ⟨t, k', i', u', a', s', p', Ev.bind h1 (Ev.bind g1 (Ev.bind hx (ev_pos e0 (ev_pos e1 q1)))), q2⟩
  ·obtain ⟨k', i', u', a', s', p', q1, q2⟩ := fits_j0 b hb t id (madeB id) k i u a (p2 + 1) s m d h5 (hX.less (by omega))
   refine ⟨t, k', i', u', a', s', p', Ev.bind h1 (Ev.bind g1 (Ev.bind hx (ev_pos e0 (ev_neg e1 ?_)))), q2⟩
   simp only [made_f id h5, Option.bind_some]
   exact q1
 ·obtain ⟨k', i', u', a', s', p', q1, q2⟩ := fits_j0 b hb t id false k i u a (p2 + 1) s m d h5 (hX.less (by omega))
  exact ⟨t, k', i', u', a', s', p', Ev.bind h1 (Ev.bind g1 (Ev.bind hx (ev_neg e0 q1))), q2⟩
end Go.Proofs.YtkopimbbgckcnaaDoor.PL
namespace Go.Proofs.YtkopimbbgckcnaaDoor.PL
open Go.RowKit Go.Proofs.YtkopimbbgckcnaaDoor.P Go.Proofs.YtkopimbbgckcnaaDoorW.PrintWords Go.Proofs.YtkopimbbgckcnaaDoorW.PrintLast Go.Proofs.YtkopimbbgckcnaaDoor.FP
theorem doF_len {G : Fo} (g : Good G) (kd : Int) (i : Nat) (hit : i ∉ G.tops) (up at_ : Int) (s : ByteArray) : (doF G kd (i : Int) up at_ s).ids.length ≤ 2000 := by
 have hg := g.len
 unfold doF
 rcases fndF_cases g i with ⟨hi, hf⟩ | ⟨hi, hf⟩
 ·have hi0 := g.ne0 i hi
  rw [hf, if_neg hi0, if_neg hi0, if_neg hi0]
  split
  ·rw [setF_ids]; omega
  ·split
   ·omega
   ·split
    ·omega
    ·rename_i hu
     obtain ⟨h, hr⟩ := reptop_ex G g.nd g.ne0
     have hp := near_del hr g.nd g.three hi hit (id := (i : Int)) (up := up) (at_ := at_) rfl hu
     have hperm := ids_del i G g.nd hi
     obtain ⟨n1, n2⟩ := List.nodup_cons.1 (hperm.nodup_iff.1 g.nd)
     obtain ⟨n3, n4, n5⟩ := List.nodup_append.1 n2
     have e1 := (putF_ids (p := nearF G (i : Int) up at_) (i := i) (t := txtF i G) (s := sub i G) n4 hp.1 (hp.2.imp id And.left)).length_eq
     have e2 := hperm.length_eq
     simp only [List.length_cons, List.length_append] at e1 e2
     omega
 ·rw [hf, if_pos rfl, if_pos rfl, if_pos rfl]
  have hp := near_ok (G := G) (tops_ids g.three) (i : Int) up at_
  have e1 := (putF_ids (p := nearF G (i : Int) up at_) (i := (i : Int).toNat) (t := s) (s := .nil) g.nd hp.up (hp.at_.imp id And.left)).length_eq
  simp only [List.length_cons, List.length_append, Fo.ids, List.length_nil] at e1
  split
  ·omega
  ·split <;> omega
theorem opDoR_len (l : List S43) (k i u a : Int) (s : ByteArray) : (opDoR l k i u a s).length ≤ 2000 := by
 unfold opDoR
 split
 ·rename_i ho
  split
  ·rename_i ht
   obtain ⟨m, rfl, h4, h37⟩ := made_num (opB_made k i u a s ho)
   have g := good_of ht
   rw [fl_len]
   exact doF_len g k m (by rw [g.tops]; simp; omega) u a s
  ·simp
 ·simp
theorem lpR_l0 (l : List S43) (hl : l.length ≤ 1099511627776) : ∀ (n i : Nat), i + n = l.length → Ev (fun k => laws_lpRows.l0 k l l i) true
 | 0, i, h => by
  refine Ev.step (f := fun _ => some true) (fun k => ?_) (evnow _)
  simp only [laws_lpRows.l0]; rw [if_neg (by omega)]
 | n + 1, i, h => by
  refine Ev.step (fun k => ?_) (lpR_l0 l hl n (i + 1) (by omega))
  simp only [laws_lpRows.l0]
  rw [if_pos (by omega), if_pos (by omega), if_pos (by omega)]
  simp only [BEq.rfl, Bool.not_true, Bool.or_false, Bool.false_eq_true, if_false]
  rw [wrapS i (by omega) (by omega)]
  rfl
theorem lpR_f (l : List S43) (hl : l.length ≤ 1099511627776) : Ev (fun k => laws_lpRows.f k l l) true := by
 unfold laws_lpRows.f
 exact ev_pos rfl (lpR_l0 l hl l.length 0 (by omega))
theorem lpR_eq {a b : List S43} (h : a = b) (hl : a.length ≤ 1099511627776) : Ev (fun k => laws_lpRows.f k a b) true := h ▸ lpR_f a hl
theorem lpR_do (l : List S43) (k i u a : Int) (s : ByteArray) : Ev (fun n => laws_lpRows.f n (opDoR l k i u a s) (opDoR l k i u a s)) true := lpR_f _ (by have := opDoR_len l k i u a s; omega)
theorem Dr.wfR {t : List S43} {k i u a : Int} {s : ByteArray} (d : Dr t k i u a s) : ∀ r ∈ t, wfR r := fun r hr => ⟨(d.wf r hr).1, by have := (d.wf r hr).2; omega⟩
theorem Dr.size {t : List S43} {k i u a : Int} {s : ByteArray} (d : Dr t k i u a s) : s.size ≤ 9223372036854775807 := by have := d.op.2.2.2.2; omega
theorem Dr.iop {t : List S43} {k i u a : Int} {s : ByteArray} (d : Dr t k i u a s) : Ev (fun n => impl_OpDo.f n t k i u a s) (opDoR t k i u a s) := iopDo_f t k i u a s d.size
theorem Dr.tree {t : List S43} {k i u a : Int} {s : ByteArray} (d : Dr t k i u a s) : Ev (fun n => spec_TreeOk.f n t) (treeB t) := stree_f t (by have := d.few; omega) d.wfR
theorem Dr.opOk {t : List S43} {k i u a : Int} {s : ByteArray} (d : Dr t k i u a s) : Ev (fun n => spec_OpOk.f n k i u a s) (opB k i u a s) := sop_f k i u a s d.op.2.1 d.op.2.2.1 d.op.2.2.2.1 d.size
theorem opDoR_val {l : List S43} {k u a : Int} {i : Nat} {s : ByteArray} (ho : opB k (i : Int) u a s = true) (ht : treeB l = true) : opDoR l k i u a s = (FP.doF (toFo l) k i u a s).fl 0 := (opDo_val ho ht).1
theorem opDoR_two {l : List S43} {k u a k' u' a' : Int} {i j : Nat} {s s' : ByteArray} (ho : opB k (i : Int) u a s = true) (ho' : opB k' (j : Int) u' a' s' = true) (ht : treeB l = true) :
  opDoR (opDoR l k i u a s) k' j u' a' s' = (FP.doF (FP.doF (toFo l) k i u a s) k' j u' a' s').fl 0 := by
 obtain ⟨e, h2, h3, h4⟩ := opDo_val ho ht
 rw [opDoR_val ho' h2, h3]
theorem le40 (l : List S43) (k i u a : Int) (s : ByteArray) : (opDoR l k i u a s).length ≤ 1099511627776 := by have := opDoR_len l k i u a s; omega
theorem ids_row {l : List S43} (ht : treeB l = true) {r : S43} (hr : r ∈ l) : ∃ x ∈ (toFo l).ids, r = ⟨(x : Int), (dep x 0 (toFo l) : Int), txtF x (toFo l)⟩ := by
 have v := val_of ht
 have hr2 : r ∈ (toFo l).fl 0 := by rw [toFo_fl ht]; exact hr
 exact fl_get v.nd hr2
theorem row_made_or_root {l : List S43} (ht : treeB l = true) {r : S43} (hr : r ∈ l) : idB r.f0 = true := by
 have := treeGo_rows l _ _ _ ht r hr
 unfold rowB at this
 unfold idB
 split at this
 ·rename_i e; rw [e]; rfl
 ·simp only [Bool.and_eq_true] at this; rw [this.1, Bool.or_true]
theorem pure_of {f : Nat → Option Bool} (h : Ev f true) : ∃ k, f k = some true := by
 obtain ⟨K, hK⟩ := h
 exact ⟨K, hK K (Nat.le_refl K)⟩
theorem lpAt_l0 (t : List S43) (id : Int) (hl : t.length ≤ 1099511627776) : ∀ (n i : Nat), i + n = t.length → Ev (fun k => laws_lpAt.l0 k t id i) (atFrom id (t.drop i) i)
 | 0, i, h => by
  rw [List.drop_eq_nil_of_le (by omega)]
  refine Ev.step (f := fun _ => some (-1)) (fun k => ?_) (evnow _)
  simp only [laws_lpAt.l0]; rw [if_neg (by omega)]
 | n + 1, i, h => by
  have hi : i < t.length := by omega
  rw [List.drop_eq_getElem_cons hi]
  unfold atFrom
  by_cases hq : t[i].f0 = id
  ·rw [if_pos hq]
   refine Ev.step (f := fun _ => some (i : Int)) (fun k => ?_) (evnow _)
   simp only [laws_lpAt.l0]
   rw [if_pos (by omega), if_pos (by omega), rdR_get t i hi, if_pos hq]
  ·rw [if_neg hq]
   refine Ev.step (fun k => ?_) (lpAt_l0 t id hl n (i + 1) (by omega))
   simp only [laws_lpAt.l0]
   rw [if_pos (by omega), if_pos (by omega), rdR_get t i hi, if_neg hq, wrapS i (by omega) (by omega)]
   rfl
theorem lpAt_f (t : List S43) (id : Int) (hl : t.length ≤ 1099511627776) : Ev (fun k => laws_lpAt.f k t id) (atI t id) := lpAt_l0 t id hl t.length 0 (by omega)
theorem sopDo_f (l : List S43) (k i u a : Int) (s : ByteArray) (hl : l.length ≤ 1000000000) (hw : ∀ r ∈ l, wfR r) (hi : I64 i) (hu : I64 u) (ha : I64 a) (hs : s.size ≤ 9223372036854775807) : Ev (fun n => spec_OpDo.f n l k i u a s) (opDoR l k i u a s) := by
 unfold spec_OpDo.f opDoR
 refine Ev.bind (stree_f l hl hw) ?_
 cases ht : treeB l with
 | false =>
  simp only [Bool.false_eq_true, if_false, ite_self]
  exact evnow _
 | true =>
  simp only [if_true]
  refine Ev.bind (sop_f k i u a s hi hu ha hs) ?_
  cases ho : opB k i u a s with
  | false =>
   simp only [Bool.false_eq_true, if_false]
   exact evnow _
  | true =>
   simp only [if_true]
   obtain ⟨m, rfl, h4, h37⟩ := made_num (opB_made k i u a s ho)
   have g := good_of ht
   have := do_x g k m (by omega) (by rw [g.tops]; simp; omega) u a s (opB_kind ho)
   rw [toFo_fl ht] at this
   exact Ev.bind this (evnow _)
theorem drawOpDo_f (code : List Int) (h : ∀ x ∈ code, (Lit.int .u8 x).wf = true) : ∃ (t : List S43) (k i u a : Int) (s : ByteArray), Ev (fun n => spec_DrawOpDo.f n code) (t, k, i, u, a, s) ∧ Dr t k i u a s := by
 obtain ⟨b, hb, hB⟩ := open_f code (fun x hx => byte_of (h x hx))
 obtain ⟨t, k, i, u, a, s, p', h1, h2, _⟩ := fits71_f b hB 0 0 ⟨by omega, by omega⟩
 refine ⟨t, k, i, u, a, s, ?_, h2⟩
 unfold spec_DrawOpDo.f
 rw [hb]
 simp only [Option.bind_some]
 exact Ev.bind h1 (evnow _)
theorem Dr.sop {t : List S43} {k i u a : Int} {s : ByteArray} (d : Dr t k i u a s) : Ev (fun n => spec_OpDo.f n t k i u a s) (opDoR t k i u a s) :=
 sopDo_f t k i u a s (by have := d.few; omega) d.wfR d.op.2.1 d.op.2.2.1 d.op.2.2.2.1 d.size
theorem Dr.same {t : List S43} {k i u a : Int} {s : ByteArray} (d : Dr t k i u a s) {f : Nat → Option Bool} (hf : ∀ n, f n = ((spec_OpDo.f n t k i u a s).bind fun y => ((laws_lpRows.f n (opDoR t k i u a s) y).bind fun z => (some z)))) : Ev f true :=
 Ev.congr hf (Ev.bind d.sop (Ev.bind (lpR_do t k i u a s) (evnow _)))
theorem opB_there {i u a y : Int} {s : ByteArray} (ho : opB 1 i u a s = true) (hy : idB y = true) : opB 1 i y 0 s = true ∧ opB 3 i y 0 ⟨#[]⟩ = true := by
 have hm := opB_made _ _ _ _ _ ho
 have hs := opB_text ho (Or.inl rfl)
 unfold opB placeB
 rw [hm, hy, hs]
 exact ⟨by simp, by simp⟩
theorem makeMove_eq {l : List S43} {i u a y : Int} {s : ByteArray} (ho : opB 1 i u a s = true) (hi : ∀ r ∈ l, r.f0 ≠ i) (hy : ∃ r ∈ l, r.f0 = y) (ht : treeB l = true) : opDoR (opDoR l 1 i u a s) 3 i y 0 ⟨#[]⟩ = opDoR l 1 i y 0 s := by
 obtain ⟨r, hr, hr0⟩ := hy
 obtain ⟨hp, hq⟩ := opB_there ho (hr0 ▸ row_made_or_root ht hr)
 obtain ⟨m, rfl, h4, h37, hm⟩ := made_nat ho
 have v := val_of ht
 obtain ⟨x, hx, rfl⟩ := ids_row ht hr
 simp only at hr0
 subst hr0
 have hmi : m ∉ (toFo l).ids := fun g => by
  have := row_fl v.nd (d := 0) g
  rw [toFo_fl ht] at this
  exact hi _ this rfl
 rw [opDoR_two ho hq ht, opDoR_val hp ht, make_move v.nd v.ne0 v.three (by omega) hmi hx]
theorem makeMove_j1 {l1 : List Int} {t : List S43} {k i u a : Int} {s : ByteArray} (d : Dr t k i u a s) (f : Bool) (hf : f = false → treeB t = true ∧ opB k i u a s = true ∧ k = 1 ∧ ∀ r ∈ t, r.f0 ≠ i) : Ev (fun n => laws_FnMakeMove.j1 n l1 t (opDoR t k i u a s) f k i u a s) true := by
 cases f with
 | true =>
  refine Ev.step (fun n => by simp only [laws_FnMakeMove.j1]; rfl) ?_
  exact ev_pos (by simp) (d.same fun n => rfl)
 | false =>
  obtain ⟨ht, ho, rfl, hi⟩ := hf rfl
  have h2 := d.two
  have h21 := d.few
  refine Ev.step (fun n => by simp only [laws_FnMakeMove.j1]; rfl) ?_
  refine ev_neg (by decide) (ev_neg (by omega) ?_)
  obtain ⟨q, hq⟩ : ∃ q, q = (l1.length : Int) % (t.length : Int) := ⟨_, rfl⟩
  have q0 : 0 ≤ q := by rw [hq]; exact Int.emod_nonneg _ (by omega)
  have q1 : q < t.length := by rw [hq]; exact Int.emod_lt_of_pos _ (by omega)
  rw [← hq]
  obtain ⟨j, rfl⟩ : ∃ n : Nat, q = n := ⟨q.toNat, by omega⟩
  have hj : j < t.length := by omega
  rw [rdR_get t j hj]
  refine ev_pos q0 (ev_pos q1 ?_)
  exact Ev.bind (iopDo_f _ _ _ _ _ _ (by decide)) (Ev.bind (iopDo_f _ _ _ _ _ _ d.size) (Ev.bind (lpR_eq (makeMove_eq ho hi ⟨t[j], List.getElem_mem hj, rfl⟩ ht) (le40 ..)) (evnow _)))
theorem makeMove_j0 (l0 l1 : List Int) (f : Bool) (h0 : ∀ x ∈ l0, (Lit.int .u8 x).wf = true) : Ev (fun k => laws_FnMakeMove.j0 k l0 l1 f) true := by
 cases f with
 | true =>
  refine Ev.step (fun k => by simp only [laws_FnMakeMove.j0]; rfl) ?_
  exact ev_pos (by simp) (evnow _)
 | false =>
  obtain ⟨t, k, i, u, a, s, hd, d⟩ := drawOpDo_f l0 h0
  refine Ev.step (fun k => by simp only [laws_FnMakeMove.j0]; rfl) ?_
  refine ev_neg (by decide) (Ev.bind hd (Ev.bind d.iop (Ev.bind d.sop (Ev.bind (lpR_do t k i u a s) (ev_pos rfl (Ev.bind d.tree ?_))))))
  cases ht : treeB t with
  | false => exact ev_neg (by simp) (makeMove_j1 d true fun h => by cases h)
  | true =>
   refine ev_pos rfl (Ev.bind d.opOk ?_)
   cases ho : opB k i u a s with
   | false => exact ev_neg (by simp) (makeMove_j1 d true fun h => by cases h)
   | true =>
    refine ev_pos rfl ?_
    by_cases h1 : k = 1
    ·refine ev_pos h1 (Ev.bind (lpAt_f t i (by have := d.few; omega)) (makeMove_j1 d _ fun h => ⟨ht, ho, h1, ?_⟩))
     have := of_decide_eq_false h
     rcases atI_spec t i with ⟨_, h5⟩ | ⟨j, hj, h5, _⟩
     ·exact h5
     ·omega
    ·exact ev_neg h1 (makeMove_j1 d true fun h => by cases h)
theorem FnMakeMove : laws_FnMakeMove.Pure := by
 intro l0 l1 _ _ h0 _ _ h1
 refine pure_of ?_
 unfold laws_FnMakeMove.f
 by_cases h : (l0.length : Int) > 1048576
 ·exact ev_pos h (makeMove_j0 l0 l1 true h0)
 ·exact ev_neg h (makeMove_j0 l0 l1 _ h0)
end Go.Proofs.YtkopimbbgckcnaaDoor.PL
namespace Go.Proofs.YtkopimbbgckcnaaDoor.P
open Go.ChangeShapes Go.WideShapes Go.ChangeAt Go.RowKit
theorem tOwners : (Tryd.prog.globals[0]?).map (·.type) = some 73 := by kernel_rfl
theorem cOwners : Tryd.prog.cellsOf 73 = 37 := by kernel_rfl
theorem cInt : Tryd.prog.cellsOf 3 = 1 := by kernel_rfl
abbrev ownCells : Array Value := (owners.map fun z => Value.int .i64 z).toArray
theorem glob_of_laid {W : World} (h : laidMet Tryd.prog [("loop.example/plashet/impl.rowOwners", Rows.laid_loop_example_plashet_impl_rowOwners)] W) : Glob W :=
 Lib.tabIs_of_head gOwners tOwners Tryd.underlying73 Tryd.underlying3 cInt cOwners h
theorem door_met (os : Os) (args : Array Value) : laidMet Tryd.prog [("loop.example/plashet/impl.rowOwners", Rows.laid_loop_example_plashet_impl_rowOwners)] ((World.doorLaid Tryd.prog 400 os).forCall (fun _ _ => 0) ⟨#[], args, []⟩).memory :=
 laidMet_of_run' 8 (by kernel_rfl) (by kernel_rfl)
abbrev tableH {H : Type} : DataW H := .agg (owners.map fun z => .lit (.int .i64 z))
theorem reads_table {H : Type} (enc : TypeId × Value → H) (W : World) (sp : Nat → Bool) : DataW.trod enc Tryd.prog W 0 sp true 3 73 ownCells.toList = some (tableH, []) := by kernel_rfl
theorem tab_vars {H : Type} (enc : TypeId × Value → H) {W : World} (h : Glob W) {sp : Nat → Bool} : DataW.TrodVars enc Tryd.prog W sp ["loop.example/plashet/impl.rowOwners"] [tableH] (MemPlace.row ⟨0, 0, none⟩ ownCells.size ++ [] ++ []) :=
 ⟨0, 73, ownCells, 3, [], [], gOwners, tOwners, h, reads_table enc W sp, rfl, rfl⟩
end Go.Proofs.YtkopimbbgckcnaaDoor.P
namespace Go.Proofs.YtkopimbbgckcnaaDoor.fnMakeMove
open Go.ChangeMaps (open_string shut_string)
open Go.ChangeShapes Go.WideShapes Go.ChangeAt Go.RowKit
theorem own : ownKnob Tryd.prog.godebug = none := by kernel_rfl
theorem laidOut : laidOutB Tryd.prog = true := by kernel_rfl
def IsRow (k : IntKind) (w : World) (a : Option Addr) (len cap : Nat) (zs : List Int) : Prop :=
 (a = none ∧ len = 0 ∧ cap = 0 ∧ zs = []) ∨
 ∃ x, a = some x ∧ len ≤ cap ∧ cap ≤ maxLen ∧ zs.length = cap ∧ (∀ i, i < zs.length → w.cell? (x.add i) = some (.int k (zs.getD i 0))) ∧ ∀ n ∈ zs, (Lit.int k n).wf = true
set_option maxRecDepth 100000 in
theorem lifted (os : Os) (started : os.Started) (H : Type) (enc : TypeId × Value → H) :
  ReturnsInHanded {} Tryd.checked os 9 .any (fun w args => (Rows.fnMakeMoveSpec.pre enc Tryd.prog Tryd.f9 [] false w args ∧ laidMet Tryd.prog [("loop.example/plashet/impl.rowOwners", Rows.laid_loop_example_plashet_impl_rowOwners)] w) ∧ sizedMet enc Tryd.prog Tryd.f9 (OpenSpec.ofChange Rows.fnMakeMoveSpec) false w args) (Rows.fnMakeMoveSpec.post enc Tryd.prog Tryd.f9 false true false false) := by
 refine returnsInHanded_of_change_and (C := Tryd.checked) (X := fun w _ => laidMet Tryd.prog [("loop.example/plashet/impl.rowOwners", Rows.laid_loop_example_plashet_impl_rowOwners)] w) (fun _ _ _ hh h => h.of_heap hh) own started (by kernel_rfl) Tryd.func9
  (ChangeSpec.witness_shaped (enc := enc) (C := Tryd.checked) (os := os) (X := fun w _ => laidMet Tryd.prog [("loop.example/plashet/impl.rowOwners", Rows.laid_loop_example_plashet_impl_rowOwners)] w) false (World.doorLaid Tryd.prog 400 os) #[.slice none 0 0, .slice none 0 0] 8 rfl (World.shaped_of_RefB (by kernel_rfl) (by kernel_rfl)) (by kernel_rfl) (by kernel_rfl) (by kernel_rfl) (P.door_met os _)) ?_
 intro W base args ds gs before hval0 hW _ hsz0 hL _
 have hsz : (DataW.weightsEach Tryd.prog (Tryd.f9.params.toList ++ Rows.fnMakeMoveSpec.plain.varTypes Tryd.prog) (ds ++ gs)).all (· ≤ reachBytes) = true := hsz0
 have hval : ∀ (j : Nat) t v, Tryd.f9.params[j]? = some t → args[j]? = some v → Value.okWide Tryd.prog W .any base t v := hval0
 have hW' := hW
 obtain ⟨p, q, hA0, hV, rfl, hfz, hnd⟩ := hW
 have hA : DataW.TrodAll enc Tryd.prog W 0 (fun _ => true) true Tryd.f9.params.toList args.toList ds p := hA0
 rw [Tryd.params9] at hA hval hsz
 obtain ⟨v0, vs0, d0, ds0, p0, q0, hargs, rfl, rfl, h0, r0⟩ := trodAll_cons hA
 obtain ⟨v1, vs1, d1, ds1, p1, q1, rfl, rfl, rfl, h1, r1⟩ := trodAll_cons r0
 obtain ⟨rfl, rfl, rfl⟩ := trodAll_nil r1
 obtain rfl : args = #[v0, v1] := by cases args; simp_all
 have hG : P.Glob W := P.glob_of_laid hL
 obtain ⟨gv, tv, csv, fuelv, dv, pv, rfl, hgv, htv, hvarv, hdv, rfl⟩ := trodVars_one hV
 obtain rfl : csv = P.ownCells := Option.some.inj (hvarv.symm.trans hG)
 obtain rfl := Option.some.inj (P.tOwners.symm.trans (by rw [Option.some.inj (P.gOwners.symm.trans hgv)]; exact htv))
 obtain ⟨rfl, rfl⟩ := DataW.Trod.unique (v := .agg P.ownCells) ⟨fuelv, hdv⟩ ⟨3, P.reads_table enc W _⟩
 obtain ⟨a0, len0, cap0, rfl⟩ := okWide_slice Tryd.underlying35 (hval 0 35 v0 rfl rfl)
 have k0 := h0
 have lt0 : ∀ x ∈ p0, x.block < W.heap.size := by obtain ⟨m, hm⟩ := k0; exact DataW.trod_lt m _ _ _ hm
 obtain ⟨z0, w0⟩ : ∃ zs, IsRow .u8 W a0 len0 cap0 zs := by
  obtain ⟨fuel, hf⟩ := h0
  rcases open_ints Tryd.underlying35 Tryd.underlying5 (by kernel_rfl) hf with ⟨hcs, _⟩ | ⟨x, l, c, zs, hcs, _, hl, hm, hz, _, hcell, hwz⟩
  ·simp [Value.cells] at hcs
   obtain ⟨rfl, rfl, rfl⟩ := hcs
   exact ⟨[], .inl ⟨rfl, rfl, rfl, rfl⟩⟩
  ·simp [Value.cells] at hcs
   obtain ⟨rfl, rfl, rfl⟩ := hcs
   exact ⟨zs, .inr ⟨_, rfl, hl, hm, by simpa using hz, hcell, hwz⟩⟩
 have y0 : len0 * 1 ≤ 140737488351232 := Go.Proofs.YtkopimbbgckcnaaDoorW.PrintWords.sized_ints hsz (j := 0) (t := 35) rfl rfl Tryd.underlying35 Tryd.underlying5 (by kernel_rfl) (by kernel_rfl) h0
 obtain ⟨a1, len1, cap1, rfl⟩ := okWide_slice Tryd.underlying35 (hval 1 35 v1 rfl rfl)
 have k1 := h1
 have lt1 : ∀ x ∈ p1, x.block < W.heap.size := by obtain ⟨m, hm⟩ := k1; exact DataW.trod_lt m _ _ _ hm
 obtain ⟨z1, w1⟩ : ∃ zs, IsRow .u8 W a1 len1 cap1 zs := by
  obtain ⟨fuel, hf⟩ := h1
  rcases open_ints Tryd.underlying35 Tryd.underlying5 (by kernel_rfl) hf with ⟨hcs, _⟩ | ⟨x, l, c, zs, hcs, _, hl, hm, hz, _, hcell, hwz⟩
  ·simp [Value.cells] at hcs
   obtain ⟨rfl, rfl, rfl⟩ := hcs
   exact ⟨[], .inl ⟨rfl, rfl, rfl, rfl⟩⟩
  ·simp [Value.cells] at hcs
   obtain ⟨rfl, rfl, rfl⟩ := hcs
   exact ⟨zs, .inr ⟨_, rfl, hl, hm, by simpa using hz, hcell, hwz⟩⟩
 have y1 : len1 * 1 ≤ 140737488351232 := Go.Proofs.YtkopimbbgckcnaaDoorW.PrintWords.sized_ints hsz (j := 1) (t := 35) rfl rfl Tryd.underlying35 Tryd.underlying5 (by kernel_rfl) (by kernel_rfl) h1
 clear hA0 hval0 hsz0 hsz
 refine (P.laws_FnMakeMove.walk PL.FnMakeMove a0 len0 cap0 z0 a1 len1 cap1 z1 W w0 y0 w1 y1 hG).mono fun e W' ⟨he, bel⟩ => ?_
 subst he
 exact ⟨_, rfl, _, _, _, _, _, _, hW', trodAll_mk1 (shut_bool Tryd.underlying4 _), (trodAll_cons_mk (Below.trod laidOut (by kernel_rfl) (of_decide_eq_true (by kernel_rfl)) k0 bel lt0) (trodAll_cons_mk (Below.trod laidOut (by kernel_rfl) (of_decide_eq_true (by kernel_rfl)) k1 bel lt1) trodAll_mk0)), P.tab_vars enc (hG.below bel), bel.frame _, fun h => by cases h⟩
theorem over : Rows.fnMakeMoveRow.holds Tryd.pinned (OpenSpec.ofChange Rows.fnMakeMoveSpec) :=
 OpenClaim.holds_of_wide 9 Tryd.f9 rfl rfl rfl rfl rfl rfl rfl ⟨rfl, rfl, rfl, rfl, rfl⟩ rfl rfl rfl rfl rfl (by kernel_rfl) Tryd.func9 (by kernel_rfl)
  (of_decide_eq_true (by kernel_rfl)) (by unfold Func.isWrapper; first | (rw [if_pos (by decide +kernel)]; kernel_rfl) | (rw [if_neg (by decide +kernel)]; exact ⟨rfl, rfl⟩))
  (fun os started H enc _ => lifted os started H enc)
theorem proved : Rows.FnMakeMoveSaid := over
#print axioms proved
end Go.Proofs.YtkopimbbgckcnaaDoor.fnMakeMove
namespace Go.Proofs.YtkopimbbgckcnaaDoor
theorem fnMakeMove_holds : Rows.FnMakeMoveSaid := fnMakeMove.proved
end Go.Proofs.YtkopimbbgckcnaaDoor
namespace Go.Proofs.YtkopimbbgckcnaaDoor
open Go
theorem fnMakeMoveCard_holds : Rows.FnMakeMoveCardSaid :=
 Claim7.holds_tied_plain_at .later [] [.data] true (true, "05e51009c0bec8d8d35deb79e81af090818f8d02cc4b5bce3a1d080efdde1e4f") true
  fnMakeMove_holds (fun _ h => by cases h) (by kernel_rfl) (fun _ h => by cases h) fnMakeMove_row_tie rfl ⟨rfl, rfl⟩ (by kernel_rfl) rfl
  (fun f fn hf hfn => by
   obtain rfl : f = 9 := Option.some.inj ((show Tryd.prog.funcNamed "loop.example/plashet/laws.FnMakeMove" = some 9 by kernel_rfl).symm.trans hf) |>.symm
   obtain rfl : fn = Tryd.f9 := (Option.some.inj (Tryd.func9.symm.trans hfn)).symm
   exact ⟨by kernel_rfl, fun j t ht => by
    rw [Tryd.params9] at ht
    have hm : t ∈ [35] := by have := Array.mem_of_getElem? ht; simp at this; first | (subst this; simp; done) | (rcases this with h | h <;> simp [h]; done) | (rcases this with h | h | h <;> simp [h]; done)
    have hall : ([35].all fun u => !Tryd.prog.wantsStandIn u) = true := by kernel_rfl
    exact (show Tryd.prog.wantsStandIn t = false by simpa using List.all_eq_true.1 hall t hm)⟩)
  (by kernel_rfl)
#print axioms fnMakeMoveCard_holds
end Go.Proofs.YtkopimbbgckcnaaDoor
