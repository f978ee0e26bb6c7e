/- Joined by a program (wip/shake.py): the declarations that 'YtlkheeegkifblaaDoorCardFnInOut' reaches. -/
import Derived.Test.YtlkheeegkifblaaDoorZFc4
set_option linter.unusedVariables false
set_option linter.unusedSimpArgs false
set_option linter.unusedSectionVars false
namespace Go.Proofs.YtlkheeegkifblaaDoor.PL
open Go.RowKit Go.Proofs.YtlkheeegkifblaaDoor.P Go.Proofs.YtlkheeegkifblaaDoorW.PrintWords Go.Proofs.YtlkheeegkifblaaDoorW.PrintLast Go.Proofs.YtlkheeegkifblaaDoor.FP
theorem doF_len {G : Fo} (g : Good G) (kd : Int) (i : Nat) (hit : i ∉ G.tops) (up at_ : Int) (s : ByteArray) : (doF G kd (i : Int) up at_ s).ids.length ≤ 2000 := by
 have hg := g.len
 unfold doF
 rcases fndF_cases g i with ⟨hi, hf⟩ | ⟨hi, hf⟩
 ·have hi0 := g.ne0 i hi
  rw [hf, if_neg hi0, if_neg hi0, if_neg hi0]
  split
  ·rw [setF_ids]; omega
  ·split
   ·omega
   ·split
    ·omega
    ·rename_i hu
     obtain ⟨h, hr⟩ := reptop_ex G g.nd g.ne0
     have hp := near_del hr g.nd g.three hi hit (id := (i : Int)) (up := up) (at_ := at_) rfl hu
     have hperm := ids_del i G g.nd hi
     obtain ⟨n1, n2⟩ := List.nodup_cons.1 (hperm.nodup_iff.1 g.nd)
     obtain ⟨n3, n4, n5⟩ := List.nodup_append.1 n2
     have e1 := (putF_ids (p := nearF G (i : Int) up at_) (i := i) (t := txtF i G) (s := sub i G) n4 hp.1 (hp.2.imp id And.left)).length_eq
     have e2 := hperm.length_eq
     simp only [List.length_cons, List.length_append] at e1 e2
     omega
 ·rw [hf, if_pos rfl, if_pos rfl, if_pos rfl]
  have hp := near_ok (G := G) (tops_ids g.three) (i : Int) up at_
  have e1 := (putF_ids (p := nearF G (i : Int) up at_) (i := (i : Int).toNat) (t := s) (s := .nil) g.nd hp.up (hp.at_.imp id And.left)).length_eq
  simp only [List.length_cons, List.length_append, Fo.ids, List.length_nil] at e1
  split
  ·omega
  ·split <;> omega
theorem opDoR_len (l : List S37) (k i u a : Int) (s : ByteArray) : (opDoR l k i u a s).length ≤ 2000 := by
 unfold opDoR
 split
 ·rename_i ho
  split
  ·rename_i ht
   obtain ⟨m, rfl, h4, h37⟩ := made_num (opB_made k i u a s ho)
   have g := good_of ht
   rw [fl_len]
   exact doF_len g k m (by rw [g.tops]; simp; omega) u a s
  ·simp
 ·simp
theorem lpR_l0 (l : List S37) (hl : l.length ≤ 1099511627776) : ∀ (n i : Nat), i + n = l.length → Ev (fun k => laws_lpRows.l0 k l l i) true
 | 0, i, h => by
  refine Ev.step (f := fun _ => some true) (fun k => ?_) (evnow _)
  simp only [laws_lpRows.l0]; rw [if_neg (by omega)]
 | n + 1, i, h => by
  refine Ev.step (fun k => ?_) (lpR_l0 l hl n (i + 1) (by omega))
  simp only [laws_lpRows.l0]
  rw [if_pos (by omega), if_pos (by omega), if_pos (by omega)]
  simp only [BEq.rfl, Bool.not_true, Bool.or_false, Bool.false_eq_true, if_false]
  rw [wrapS i (by omega) (by omega)]
  rfl
theorem lpR_f (l : List S37) (hl : l.length ≤ 1099511627776) : Ev (fun k => laws_lpRows.f k l l) true := by
 unfold laws_lpRows.f
 exact ev_pos rfl (lpR_l0 l hl l.length 0 (by omega))
theorem lpR_eq {a b : List S37} (h : a = b) (hl : a.length ≤ 1099511627776) : Ev (fun k => laws_lpRows.f k a b) true := h ▸ lpR_f a hl
theorem opDoR_val {l : List S37} {k u a : Int} {i : Nat} {s : ByteArray} (ho : opB k (i : Int) u a s = true) (ht : treeB l = true) : opDoR l k i u a s = (FP.doF (toFo l) k i u a s).fl 0 := (opDo_val ho ht).1
theorem le40 (l : List S37) (k i u a : Int) (s : ByteArray) : (opDoR l k i u a s).length ≤ 1099511627776 := by have := opDoR_len l k i u a s; omega
theorem pure_of {f : Nat → Option Bool} (h : Ev f true) : ∃ k, f k = some true := by
 obtain ⟨K, hK⟩ := h
 exact ⟨K, hK K (Nat.le_refl K)⟩
theorem wrapM (i : Int) (h0 : 0 ≤ i) (h : i ≤ 4611686018427387904) : wrap64 (i - 1) = i - 1 := by unfold wrap64; omega
theorem take_rev (t : List S37) (i : Nat) (hi : i < t.length) : (t.take (i + 1)).reverse = t[i] :: (t.take i).reverse := by
 rw [List.take_succ_eq_append_getElem hi, List.reverse_append]; rfl
theorem ahead_l0 (t : List S37) (a : Nat) (ha : a < t.length) (hl : t.length ≤ 1000000) : ∀ i, i ≤ t.length → Ev (fun k => spec_l2Ahead.l0 k t a ((i : Int) - 1)) ((aheadO t[a].f1 (t.take i).reverse).getD 0)
 | 0, _ => by
  refine Ev.step (f := fun k => spec_l2Ahead.j1 k t a (((0 : Nat) : Int) - 1) false) (fun k => ?_) ?_
  ·simp only [spec_l2Ahead.l0]; rw [if_neg (by omega)]
  ·refine Ev.step (f := fun _ => some 0) (fun k => ?_) (evnow _)
   simp only [spec_l2Ahead.j1]; rfl
 | i + 1, h => by
  have hi : i < t.length := by omega
  rw [take_rev t i hi]
  unfold aheadO
  rw [show ((i + 1 : Nat) : Int) - 1 = i by omega]
  refine Ev.step (f := fun k => spec_l2Ahead.j1 k t a i (decide (t[i].f1 ≥ t[a].f1))) (fun k => ?_) ?_
  ·simp only [spec_l2Ahead.l0]
   rw [if_pos (by omega), if_pos (by omega), if_pos (by omega), if_pos (by omega), if_pos (by omega), rdR_get t i hi, rdR_get t a ha]
  ·by_cases hq : t[i].f1 < t[a].f1
   ·rw [if_pos hq, decide_eq_false (by omega)]
    refine Ev.step (f := fun _ => some 0) (fun k => ?_) (evnow _)
    simp only [spec_l2Ahead.j1]; rfl
   ·rw [if_neg hq, decide_eq_true (by omega)]
    by_cases he : t[i].f1 = t[a].f1
    ·rw [if_pos he]
     refine Ev.step (f := fun _ => some t[i].f0) (fun k => ?_) (evnow _)
     simp only [spec_l2Ahead.j1]
     rw [if_pos True.intro, if_pos (by omega), if_pos (by omega), if_pos (by omega), if_pos (by omega), rdR_get t i hi, rdR_get t a ha, if_pos he]
    ·rw [if_neg he]
     refine Ev.step (fun k => ?_) (ahead_l0 t a ha hl i (by omega))
     simp only [spec_l2Ahead.j1]
     rw [if_pos True.intro, if_pos (by omega), if_pos (by omega), if_pos (by omega), if_pos (by omega), rdR_get t i hi, rdR_get t a ha, if_neg he, wrapM i (by omega) (by omega)]
theorem spot_take {x d : Nat} {G : Fo} {pre post : List S37} (s : Spot x d G pre post) : (G.fl d).take pre.length = pre := by rw [s.all]; exact List.take_left
theorem ahead_x {G : Fo} (g : Good G) {x : Nat} (hx : x ∈ G.ids) (ht : x ∉ G.tops) {pre post : List S37} (s : Spot x 0 G pre post) : Ev (fun k => spec_l2Ahead.f k (G.fl 0) (pre.length : Int)) (sibT x G : Int) := by
 have hl := spot_len s
 have ha : pre.length < (G.fl 0).length := by omega
 have hn : (G.fl 0).length ≤ 1000 := by rw [fl_len]; exact g.len
 have := ahead_l0 (G.fl 0) pre.length ha (by omega) pre.length (by omega)
 rw [spot_get s ha, spot_take s] at this
 have hp := spot_pre g.nd hx s
 have hu := ahead_top (g.ne0 x hx) G 0 g.nd hx ht
 rw [← hp] at hu
 simp only at this
 rw [hu] at this
 unfold spec_l2Ahead.f
 rw [wrapM _ (by omega) (by omega)]
 exact this
theorem found {l : List S37} (ht : treeB l = true) {id : Int} (h : fndF (toFo l) id ≠ 0) : ∃ m : Nat, id = (m : Int) ∧ fndF (toFo l) id = m ∧ m ∈ (toFo l).ids ∧ ∃ pre post, Spot m 0 (toFo l) pre post ∧ atI l id = (pre.length : Int) := by
 obtain ⟨h1, h2⟩ := fndF_mem h
 obtain ⟨pre, post, s⟩ := spot (fndF (toFo l) id) (toFo l) 0 (val_of ht).nd h1
 refine ⟨fndF (toFo l) id, h2.symm, rfl, h1, pre, post, s, ?_⟩
 have := spot_at s
 rw [toFo_fl ht, h2] at this
 exact this
theorem lost {l : List S37} (ht : treeB l = true) {id : Int} (h : fndF (toFo l) id = 0) : atI l id = -1 := by
 have := at_fnd0 h (val_of ht).ne0
 rwa [toFo_fl ht] at this
theorem par_made {l : List S37} (ht : treeB l = true) {m : Nat} (hm : m ∈ (toFo l).ids) : (rootB (m : Int) = true ∧ m ∈ (toFo l).tops ∧ par m 0 (toFo l) = 0) ∨ (rootB (m : Int) = false ∧ madeB (m : Int) = true ∧ m ∉ (toFo l).tops ∧ par m 0 (toFo l) ≠ 0 ∧ par m 0 (toFo l) ∈ (toFo l).ids) := by
 have v := val_of ht
 by_cases h4 : 4 ≤ m
 ·right
  have hmd := (made_of_ok (v.ok m hm) h4).1
  have htop := v.top hmd
  have hp := (back_top (v.ne0 m hm) (toFo l) v.nd v.ne0 hm htop).up
  exact ⟨made_not_root hmd, hmd, htop, v.ne0 _ hp, hp⟩
 ·left
  have h0 := v.ne0 m hm
  have hc : m = 1 ∨ m = 2 ∨ m = 3 := by omega
  have htop : m ∈ (toFo l).tops := by rw [v.tops]; simp; omega
  refine ⟨?_, htop, par_top0 (G := toFo l) v.nd htop⟩
  rcases hc with rfl | rfl | rfl <;> decide
theorem stahead_f (l : List S37) (id : Int) (hl : l.length ≤ 1000000) (hw : ∀ r ∈ l, wfR r) : Ev (fun k => spec_TreeAhead.f k l id) (aheadR l id) := by
 unfold spec_TreeAhead.f aheadR
 refine Ev.bind (at_f l id (by omega)) (Ev.bind (stree_f l (by omega) hw) ?_)
 cases ht : treeB l with
 | false => rw [if_neg (by decide)]; exact ev_neg (by decide) (evnow _)
 | true =>
  rw [if_pos rfl]
  refine ev_pos rfl ?_
  by_cases h0 : fndF (toFo l) id = 0
  ·rw [if_pos h0, lost ht h0]; exact ev_pos (by omega) (evnow _)
  ·rw [if_neg h0]
   obtain ⟨m, rfl, e, hm, pre, post, s, ha⟩ := found ht h0
   rw [ha, e]
   refine ev_neg (by omega) ?_
   rw [root_f]
   simp only [Option.bind_some]
   rcases par_made ht hm with ⟨h1, h2, h3⟩ | ⟨h1, h2, h3, h4, _⟩
   ·rw [h1, if_pos h3]; exact ev_pos rfl (evnow _)
   ·rw [h1, if_neg h4]
    have := ahead_x (val_of ht).good hm h3 s
    rw [toFo_fl ht] at this
    exact ev_neg (by decide) (Ev.bind this (evnow _))
theorem rd_last (l : List Nat) (h : l ≠ []) : rd (l.map Int.ofNat) (((l.map Int.ofNat).length : Int) - 1) = (lastN 0 l : Int) := by
 rcases lastN_cases l with ⟨e, _⟩ | ⟨l', e⟩
 ·exact absurd e h
 ·generalize lastN 0 l = z at e
  subst e
  rw [List.map_append, List.map_cons, List.map_nil, List.length_append, List.length_cons, List.length_nil]
  unfold rd
  rw [show (((l'.map Int.ofNat).length + (0 + 1) : Nat) : Int) - 1 = ((l'.map Int.ofNat).length : Int) by omega]
  simp
theorem skeyIn_f (l : List S37) (id : Int) (hl : l.length ≤ 1000000) (hw : ∀ r ∈ l, wfR r) : Ev (fun k => spec_KeyIn.f k l id) (keyR keyInF l id) := by
 have no : ∀ (a : Int), Ev (fun k => spec_KeyIn.j0 k l id a true) kNo := fun a => by
  refine Ev.step (f := fun _ => some kNo) (fun k => ?_) (evnow _)
  simp only [spec_KeyIn.j0]; rfl
 unfold spec_KeyIn.f
 refine Ev.bind (stahead_f l id hl hw) ?_
 unfold aheadR keyR
 cases ht : treeB l with
 | false => rw [if_neg (by decide), if_neg (by decide)]; exact ev_neg (by decide) (no _)
 | true =>
  rw [if_pos rfl, if_pos rfl]
  by_cases h0 : fndF (toFo l) id = 0
  ·rw [if_pos h0, if_pos h0, ite_self]; exact ev_neg (by decide) (no _)
  ·rw [if_neg h0, if_neg h0]
   obtain ⟨m, rfl, e, hm, pre, post, s, ha⟩ := found ht h0
   rw [e]
   rcases par_made ht hm with ⟨h1, h2, h3⟩ | ⟨h1, h2, h3, h4, _⟩
   ·rw [if_pos h3, if_neg (fun g => by rw [made_not_root g] at h1; cases h1)]
    exact ev_neg (by decide) (no _)
   ·rw [if_neg h4, if_pos h2]
    refine ev_pos rfl ?_
    unfold keyInF
    by_cases hs : sibT m (toFo l) = 0
    ·rw [if_pos hs, hs]
     exact no _
    ·rw [if_neg hs, beq_eq_false_iff_ne.2 (show ((sibT m (toFo l) : Nat) : Int) ≠ 0 by omega)]
     have v := val_of ht
     have hsm := (sibT_mem m (toFo l)).resolve_left hs
     have hk := kids_x v.good hsm
     rw [toFo_fl ht] at hk
     refine Ev.step (fun k => by simp only [spec_KeyIn.j0]; rfl) ?_
     refine ev_neg (by decide) (Ev.bind hk ?_)
     unfold lastK kMv
     have hlen : (sub (sibT m (toFo l)) (toFo l)).tops.length ≤ 1000 := by
      have h5 := tops_few (sub (sibT m (toFo l)) (toFo l))
      have h6 := (ids_del (sibT m (toFo l)) (toFo l) v.nd hsm).length_eq
      have h7 := v.len
      simp only [List.length_cons, List.length_append] at h6
      omega
     generalize hT : (sub (sibT m (toFo l)) (toFo l)).tops = T at hlen ⊢
     by_cases hn : T = []
     ·subst hn
      refine ev_pos (by simp) ?_
      exact evnow _
     ·have hp : 0 < T.length := List.length_pos_iff.2 hn
      refine ev_neg (by rw [List.length_map]; omega) ?_
      have hlm : ((T.map Int.ofNat).length : Int) = T.length := by rw [List.length_map]
      rw [wrapM _ (by omega) (by omega)]
      refine ev_pos (by omega) (ev_pos (by omega) ?_)
      rw [rd_last T hn]
      exact evnow _
end Go.Proofs.YtlkheeegkifblaaDoor.PL
namespace Go.Proofs.YtlkheeegkifblaaDoor.P
open Go.RowKit Go.Shelf Go.Proofs.YtlkheeegkifblaaDoorW.PrintWords Go.Proofs.YtlkheeegkifblaaDoorW.PrintLast Go.Proofs.YtlkheeegkifblaaDoorW.PrintMore Go.Proofs.YtlkheeegkifblaaDoor.PL Go.Proofs.YtlkheeegkifblaaDoor.FP
attribute [local go_sem] Oper.semAt_some

open Go.Maps (Keyed)
attribute [local go_sem] Oper.semAt_some

attribute [local go_sem] Oper.semAt_some

theorem At.mem {w : World} {n0 F : Nat} {A : Nat → Option Nat} {h : Nat → Nd} {G : Fo} (t : At w n0 F A h G) {i b : Nat} (hi : A i = some b) : i ∈ G.ids := (t.dom i).1 (by rw [hi]; simp)
attribute [local go_sem] Oper.semAt_some

attribute [local go_sem] Oper.semAt_some

attribute [local go_sem] Oper.semAt_some

end Go.Proofs.YtlkheeegkifblaaDoor.P
namespace Go.Proofs.YtlkheeegkifblaaDoor.PL
open Go.RowKit Go.Proofs.YtlkheeegkifblaaDoor.P Go.Proofs.YtlkheeegkifblaaDoorW.PrintWords Go.Proofs.YtlkheeegkifblaaDoorW.PrintLast Go.Proofs.YtlkheeegkifblaaDoor.FP
structure Dk (t : List S37) (id : Int) : Prop where
 wf : ∀ r ∈ t, wfD r
 few : t.length ≤ 21
 id64 : I64 id
theorem Dk.wfR {t : List S37} {id : Int} (d : Dk t id) : ∀ r ∈ t, wfR r := fun r hr => ⟨(d.wf r hr).1, by have := (d.wf r hr).2; omega⟩
theorem Dk.tree {t : List S37} {id : Int} (d : Dk t id) : Ev (fun n => spec_TreeOk.f n t) (treeB t) := stree_f t (by have := d.few; omega) d.wfR
theorem row_dk (b : List Int) (hb : Bytes b) (p : Int) (m : Nat) (hp : Rd p (m + 1500)) : ∃ (t : List S37) (id p' : Int), Ev (fun k => spec_l71Row.f k b p) (t, id, p') ∧ Dk t id ∧ Rd p' m := by
 obtain ⟨t, id, p', h1, h2, _, h3, h4, h5⟩ := row71_f b hb p m hp
 exact ⟨t, id, p', h1, ⟨h2, h3, h4⟩, h5⟩
theorem drawAhead_l0 (b : List Int) (hb : Bytes b) : ∀ (n i : Nat) (t : List S37) (id p : Int), i + n = 5 → Dk t id → Rd p (1501 * n + 1) →
  ∃ (t' : List S37) (id' : Int), Ev (fun m => spec_DrawTreeAhead.l0 m t id i b p) (t', id') ∧ Dk t' id'
 | 0, i, t, id, p, h, d, hp => by
  refine ⟨t, id, ?_, d⟩
  refine Ev.step (f := fun m => spec_DrawTreeAhead.j1 m t id i false b p) (fun m => ?_) ?_
  ·simp only [spec_DrawTreeAhead.l0]; rw [if_neg (by omega)]
  ·refine Ev.step (f := fun _ => some (t, id)) (fun m => ?_) (evnow _)
   simp only [spec_DrawTreeAhead.j1]; rfl
 | n + 1, i, t, id, p, h, d, hp => by
  obtain ⟨x, hx, hX, x0, x1, _⟩ := pick_f b p 6 (1501 * n + 1501) hb (hp.less (by omega))
  have stop : Ev (fun m => spec_DrawTreeAhead.j1 m t id i false b (p + 1)) (t, id) := by
   refine Ev.step (f := fun _ => some (t, id)) (fun m => ?_) (evnow _)
   simp only [spec_DrawTreeAhead.j1]; rfl
  by_cases e0 : x > 0
  ·by_cases e1 : (aheadR t id).1 > 0
   ·refine ⟨t, id, ?_, d⟩
    refine Ev.step (fun m => by simp only [spec_DrawTreeAhead.l0]; rfl) ?_
    refine ev_pos (by omega) (Ev.bind hx ?_)
    rw [decide_eq_true e0]
    refine Ev.step (fun m => by simp only [spec_DrawTreeAhead.j1]; rfl) ?_
    exact ev_pos (by simp) (Ev.bind (stahead_f t id (by have := d.few; omega) d.wfR) (ev_pos e1 (evnow _)))
   ·obtain ⟨t1, id1, p1, h1, d1, r1⟩ := row_dk b hb (p + 1) (1501 * n + 1) (hX.less (by omega))
    obtain ⟨t', id', h2, d2⟩ := drawAhead_l0 b hb n (i + 1) t1 id1 p1 (by omega) d1 r1
    refine ⟨t', id', ?_, d2⟩
    refine Ev.step (fun m => by simp only [spec_DrawTreeAhead.l0]; rfl) ?_
    refine ev_pos (by omega) (Ev.bind hx ?_)
    rw [decide_eq_true e0]
    refine Ev.step (fun m => by simp only [spec_DrawTreeAhead.j1]; rfl) ?_
    refine ev_pos (by simp) (Ev.bind (stahead_f t id (by have := d.few; omega) d.wfR) (ev_neg e1 (Ev.bind h1 ?_)))
    rw [wrapS i (by omega) (by omega)]
    exact h2
  ·refine ⟨t, id, ?_, d⟩
   refine Ev.step (fun m => by simp only [spec_DrawTreeAhead.l0]; rfl) ?_
   refine ev_pos (by omega) (Ev.bind hx ?_)
   rw [decide_eq_false e0]
   exact stop
theorem drawIn_f (code : List Int) (h : ∀ x ∈ code, (Lit.int .u8 x).wf = true) : ∃ (t : List S37) (id : Int), Ev (fun n => spec_DrawKeyIn.f n code) (t, id) ∧ Dk t id := by
 obtain ⟨b, hb, hB⟩ := open_f code (fun x hx => byte_of (h x hx))
 obtain ⟨t, id, p, h1, d1, r1⟩ := row_dk b hB 0 7600 ⟨by omega, by omega⟩
 obtain ⟨t', id', h2, d2⟩ := drawAhead_l0 b hB 5 0 t id p (by omega) d1 (r1.less (by omega))
 refine ⟨t', id', ?_, d2⟩
 unfold spec_DrawKeyIn.f spec_DrawTreeAhead.f
 rw [hb]
 simp only [Option.bind_some]
 exact Ev.bind (Ev.bind h1 h2) (evnow _)
end Go.Proofs.YtlkheeegkifblaaDoor.PL
namespace Go.Proofs.YtlkheeegkifblaaDoor.P
open Go.RowKit Go.Shelf Go.Proofs.YtlkheeegkifblaaDoorW.PrintWords Go.Proofs.YtlkheeegkifblaaDoorW.PrintLast Go.Proofs.YtlkheeegkifblaaDoorW.PrintMore Go.Proofs.YtlkheeegkifblaaDoor.PL Go.Proofs.YtlkheeegkifblaaDoor.FP
attribute [local go_sem] Oper.semAt_some

end Go.Proofs.YtlkheeegkifblaaDoor.P
namespace Go.Proofs.YtlkheeegkifblaaDoor.PL
open Go.RowKit Go.Proofs.YtlkheeegkifblaaDoor.P Go.Proofs.YtlkheeegkifblaaDoorW.PrintWords Go.Proofs.YtlkheeegkifblaaDoorW.PrintLast Go.Proofs.YtlkheeegkifblaaDoor.FP
structure Mk (l : List S37) (m : Nat) : Prop where
 tree : treeB l = true
 made : madeB (m : Int) = true
 mem : m ∈ (toFo l).ids
theorem Mk.v {l : List S37} {m : Nat} (k : Mk l m) : Val (toFo l) := val_of k.tree
theorem Mk.top {l : List S37} {m : Nat} (k : Mk l m) : m ∉ (toFo l).tops := k.v.top k.made
theorem Mk.ne {l : List S37} {m : Nat} (k : Mk l m) : m ≠ 0 := k.v.ne0 m k.mem
theorem Mk.par {l : List S37} {m : Nat} (k : Mk l m) : FP.par m 0 (toFo l) ∈ (toFo l).ids := (back_top k.ne (toFo l) k.v.nd k.v.ne0 k.mem k.top).up
theorem Mk.fnd {l : List S37} {m : Nat} (k : Mk l m) : fndF (toFo l) (m : Int) = m := fnd_nat k.mem
theorem Mk.key {l : List S37} {m : Nat} (k : Mk l m) (K : Fo → Nat → Int × Int × Int × Int × ByteArray × Bool) : keyR K l m = K (toFo l) m := by
 unfold keyR; rw [k.tree, k.made, if_pos rfl, if_pos rfl, k.fnd, if_neg k.ne]
theorem key_yes {K : Fo → Nat → Int × Int × Int × Int × ByteArray × Bool} {l : List S37} {id : Int} (h : (keyR K l id).2.2.2.2.2 = true) : ∃ m : Nat, id = (m : Int) ∧ Mk l m ∧ (K (toFo l) m).2.2.2.2.2 = true ∧ keyR K l id = K (toFo l) m := by
 unfold keyR at h ⊢
 cases ht : treeB l with
 | false => rw [ht, if_neg (by decide)] at h; cases h
 | true =>
  rw [ht, if_pos rfl] at h
  cases hm : madeB id with
  | false => rw [hm, if_neg (by decide)] at h; cases h
  | true =>
   rw [hm, if_pos rfl] at h
   by_cases h0 : fndF (toFo l) id = 0
   ·rw [if_pos h0] at h; cases h
   ·rw [if_neg h0] at h
    obtain ⟨h1, h2⟩ := fndF_mem h0
    refine ⟨fndF (toFo l) id, h2.symm, ⟨ht, by rw [h2]; exact hm, h1⟩, h, ?_⟩
    rw [if_pos rfl, if_pos rfl, if_neg h0]
theorem keyIn_yes {G : Fo} {m : Nat} (h : (keyInF G m).2.2.2.2.2 = true) : sibT m G ≠ 0 ∧ keyInF G m = kMv m (sibT m G : Nat) (lastK (sibT m G) G : Nat) := by
 unfold keyInF at h ⊢
 by_cases h0 : sibT m G = 0
 ·rw [if_pos h0] at h; cases h
 ·rw [if_neg h0]; exact ⟨h0, rfl⟩
theorem id_of {G : Fo} (v : Val G) {x : Nat} (hx : x ∈ G.ids) : idB (x : Int) = true := by
 unfold idB
 by_cases h4 : 4 ≤ x
 ·rw [(made_of_ok (v.ok x hx) h4).1, Bool.or_true]
 ·have := v.ne0 x hx
  have hc : x = 1 ∨ x = 2 ∨ x = 3 := by omega
  rcases hc with rfl | rfl | rfl <;> decide
theorem made_of_top {G : Fo} (v : Val G) {x : Nat} (hx : x ∈ G.ids) (ht : x ∉ G.tops) : madeB (x : Int) = true := by
 have h4 : 4 ≤ x := by
  rw [v.tops] at ht
  simp only [List.mem_cons, List.not_mem_nil, or_false, not_or] at ht
  have := v.ne0 x hx
  omega
 exact (made_of_ok (v.ok x hx) h4).1
theorem opB_mv {G : Fo} (v : Val G) {m u a : Nat} (hm : madeB (m : Int) = true) (hu : u ∈ G.ids) (ha : a = 0 ∨ (a ∈ G.ids ∧ a ∉ G.tops)) : opB 3 (m : Int) (u : Int) (a : Int) ⟨#[]⟩ = true := by
 have he : (⟨#[]⟩ : ByteArray).toList.isEmpty = true := by rw [Go.ByteArray.toList_eq]; rfl
 unfold opB placeB
 rw [hm, id_of v hu, he]
 rcases ha with rfl | ⟨h1, h2⟩
 ·simp
 ·rw [made_of_top v h1 h2]; simp
theorem mv_do {l : List S37} {m u a : Nat} (k : Mk l m) (hu : u ∈ (toFo l).ids) (ha : a = 0 ∨ (a ∈ (toFo l).ids ∧ a ∉ (toFo l).tops)) (hw : ¬ under m u (toFo l)) (hn : nearF (toFo l) (m : Int) (u : Int) (a : Int) = (u, a)) :
  opB 3 (m : Int) (u : Int) (a : Int) ⟨#[]⟩ = true ∧ opDoR l 3 m u a ⟨#[]⟩ = (mvF (toFo l) (u, a) m).fl 0 ∧ treeB (opDoR l 3 m u a ⟨#[]⟩) = true ∧ toFo (opDoR l 3 m u a ⟨#[]⟩) = mvF (toFo l) (u, a) m ∧ Val (mvF (toFo l) (u, a) m) := by
 have ho := opB_mv k.v k.made hu ha
 obtain ⟨e, h2, h3, v'⟩ := opDo_val ho k.tree
 have e2 : FP.doF (toFo l) 3 (m : Int) (u : Int) (a : Int) ⟨#[]⟩ = mvF (toFo l) (u, a) m := by
  rw [doF_move k.mem k.ne _ _ _ (by rw [fnd_nat hu]; exact hw), hn]
 rw [e2] at e h3 v'
 exact ⟨ho, e, h2, h3, v'⟩
theorem Mk.moved {l : List S37} {m : Nat} (k : Mk l m) {x : List S37} {q : Nat × Nat} (o : MvOk (toFo l) m q) (ht : treeB x = true) (e : toFo x = mvF (toFo l) q m) : Mk x m := ⟨ht, k.made, by rw [e, o.ids]; exact k.mem⟩
theorem mv_back {l : List S37} {m : Nat} (k : Mk l m) {x : List S37} {q : Nat × Nat} (o : MvOk (toFo l) m q) (ht : treeB x = true) (e : toFo x = mvF (toFo l) q m) :
  opB 3 (m : Int) (FP.par m 0 (toFo l) : Nat) (sibT m (toFo l) : Nat) ⟨#[]⟩ = true ∧ opDoR x 3 m (FP.par m 0 (toFo l) : Nat) (sibT m (toFo l) : Nat) ⟨#[]⟩ = l := by
 have hs : sibT m (toFo l) = 0 ∨ (sibT m (toFo l) ∈ (toFo l).ids ∧ sibT m (toFo l) ∉ (toFo l).tops) := by
  by_cases h0 : sibT m (toFo l) = 0
  ·exact Or.inl h0
  ·have so := sib_ok k.v.nd k.v.ne0 k.mem k.top h0
   exact Or.inr ⟨so.mem, so.top⟩
 have ho := opB_mv k.v k.made k.par hs
 refine ⟨ho, ?_⟩
 rw [opDoR_val ho ht, e, move_back k.v.nd k.v.ne0 k.mem k.top o ⟨#[]⟩, toFo_fl k.tree]
theorem empty_size : (⟨#[]⟩ : ByteArray).size ≤ 9223372036854775807 := by show 0 ≤ _; omega
theorem inOut_ev {t : List S37} {id : Int} (h : (keyR keyInF t id).2.2.2.2.2 = true) : ∃ (m a b c d : Nat), id = (m : Int) ∧ keyR keyInF t id = kMv m a b ∧ keyR keyOutF (opDoR t 3 m a b ⟨#[]⟩) id = kMv m c d ∧ opDoR (opDoR t 3 m a b ⟨#[]⟩) 3 m c d ⟨#[]⟩ = t := by
 obtain ⟨m, rfl, k, h1, h2⟩ := key_yes h
 obtain ⟨h3, h4⟩ := keyIn_yes h1
 have io := in_ok k.v.nd k.v.ne0 k.v.three k.mem k.top h3
 have so := io.sib
 have hlast : lastK (sibT m (toFo t)) (toFo t) = 0 ∨ (lastK (sibT m (toFo t)) (toFo t) ∈ (toFo t).ids ∧ lastK (sibT m (toFo t)) (toFo t) ∉ (toFo t).tops) := by
  rcases lastK_par k.v.nd k.v.ne0 so.mem with ⟨e, _⟩ | ⟨e1, e2, _⟩
  ·exact Or.inl e
  ·exact Or.inr ⟨e1, fun g => by rw [par_top0 (G := toFo t) k.v.nd g] at e2; exact k.v.ne0 _ so.mem e2.symm⟩
 obtain ⟨o1, o2, o3, o4, o5⟩ := mv_do k so.mem hlast so.out io.near
 have k' := k.moved io.mv o3 o4
 refine ⟨m, sibT m (toFo t), lastK (sibT m (toFo t)) (toFo t), FP.par m 0 (toFo t), sibT m (toFo t), rfl, by rw [h2, h4], ?_, (mv_back k io.mv o3 o4).2⟩
 rw [k'.key, o4]
 unfold keyOutF
 rw [io.mv.par_new]
 rw [if_neg (by rw [made_not_root (made_of_top k.v so.mem so.top)]; decide)]
 rw [io.mv.par_ne so.mem so.ne, so.par]
theorem inOut_j0 {t : List S37} {id : Int} (d : Dk t id) (r : Int × Int × Int × Int × ByteArray × Bool) (hr : r = keyR keyInF t id) (f : Bool) (hf : f = false → r.2.2.2.2.2 = true) : Ev (fun n => laws_FnInOut.j0 n t id r.2.2.2.2.2 r.2.2.2.2.2 f r.1 r.2.1 r.2.2.1 r.2.2.2.1 r.2.2.2.2.1 r.1 r.2.1 r.2.2.1 r.2.2.2.1 r.2.2.2.2.1) true := by
 cases f with
 | true => exact Ev.step (f := fun _ => some true) (fun n => by simp [laws_FnInOut.j0]) (evnow _)
 | false =>
  have h := hf rfl
  rw [hr] at h
  obtain ⟨m, a, b, c, e, rfl, h1, h2, h3⟩ := inOut_ev h
  rw [hr, h1]
  refine Ev.step (fun n => by simp only [laws_FnInOut.j0]; rfl) ?_
  refine ev_neg (by decide) (Ev.bind (iopDo_f t 3 m a b ⟨#[]⟩ empty_size) (Ev.bind (evnow (keyR keyOutF (opDoR t 3 m a b ⟨#[]⟩) m)) ?_))
  rw [h2]
  exact ev_pos rfl (Ev.bind (iopDo_f _ 3 m c e ⟨#[]⟩ empty_size) (Ev.bind (lpR_eq h3 (le40 ..)) (evnow _)))
theorem FnInOut : laws_FnInOut.Pure := by
 intro l0 _ _ h0
 refine pure_of ?_
 unfold laws_FnInOut.f
 by_cases h : (l0.length : Int) > 1048576
 ·exact ev_pos h (evnow _)
 ·obtain ⟨t, id, hd, d⟩ := drawIn_f l0 h0
  refine ev_neg h (Ev.bind hd (Ev.bind (skeyIn_f t id (by have := d.few; omega) d.wfR) (Ev.bind (evnow (keyR keyInF t id)) (ev_neg (by simp) (ev_neg (by simp) ?_)))))
  exact inOut_j0 d _ rfl _ fun h => by simpa using h
end Go.Proofs.YtlkheeegkifblaaDoor.PL
namespace Go.Proofs.YtlkheeegkifblaaDoor.P
open Go.ChangeShapes Go.WideShapes Go.ChangeAt Go.RowKit
theorem tOwners : (Tryd.prog.globals[0]?).map (·.type) = some 66 := by kernel_rfl
theorem cOwners : Tryd.prog.cellsOf 66 = 37 := by kernel_rfl
theorem cInt : Tryd.prog.cellsOf 3 = 1 := by kernel_rfl
abbrev ownCells : Array Value := (owners.map fun z => Value.int .i64 z).toArray
theorem glob_of_laid {W : World} (h : laidMet Tryd.prog [("loop.example/plashet/impl.rowOwners", Rows.laid_loop_example_plashet_impl_rowOwners)] W) : Glob W :=
 Lib.tabIs_of_head gOwners tOwners Tryd.underlying66 Tryd.underlying3 cInt cOwners h
theorem door_met (os : Os) (args : Array Value) : laidMet Tryd.prog [("loop.example/plashet/impl.rowOwners", Rows.laid_loop_example_plashet_impl_rowOwners)] ((World.doorLaid Tryd.prog 400 os).forCall (fun _ _ => 0) ⟨#[], args, []⟩).memory :=
 laidMet_of_run' 8 (by kernel_rfl) (by kernel_rfl)
abbrev tableH {H : Type} : DataW H := .agg (owners.map fun z => .lit (.int .i64 z))
theorem reads_table {H : Type} (enc : TypeId × Value → H) (W : World) (sp : Nat → Bool) : DataW.trod enc Tryd.prog W 0 sp true 3 66 ownCells.toList = some (tableH, []) := by kernel_rfl
theorem tab_vars {H : Type} (enc : TypeId × Value → H) {W : World} (h : Glob W) {sp : Nat → Bool} : DataW.TrodVars enc Tryd.prog W sp ["loop.example/plashet/impl.rowOwners"] [tableH] (MemPlace.row ⟨0, 0, none⟩ ownCells.size ++ [] ++ []) :=
 ⟨0, 66, ownCells, 3, [], [], gOwners, tOwners, h, reads_table enc W sp, rfl, rfl⟩
end Go.Proofs.YtlkheeegkifblaaDoor.P
namespace Go.Proofs.YtlkheeegkifblaaDoor.fnInOut
open Go.ChangeMaps (open_string shut_string)
open Go.ChangeShapes Go.WideShapes Go.ChangeAt Go.RowKit
theorem own : ownKnob Tryd.prog.godebug = none := by kernel_rfl
theorem laidOut : laidOutB Tryd.prog = true := by kernel_rfl
def IsRow (k : IntKind) (w : World) (a : Option Addr) (len cap : Nat) (zs : List Int) : Prop :=
 (a = none ∧ len = 0 ∧ cap = 0 ∧ zs = []) ∨
 ∃ x, a = some x ∧ len ≤ cap ∧ cap ≤ maxLen ∧ zs.length = cap ∧ (∀ i, i < zs.length → w.cell? (x.add i) = some (.int k (zs.getD i 0))) ∧ ∀ n ∈ zs, (Lit.int k n).wf = true
set_option maxRecDepth 100000 in
theorem lifted (os : Os) (started : os.Started) (H : Type) (enc : TypeId × Value → H) :
  ReturnsInHanded {} Tryd.checked os 5 .any (fun w args => (Rows.fnInOutSpec.pre enc Tryd.prog Tryd.f5 [] false w args ∧ laidMet Tryd.prog [("loop.example/plashet/impl.rowOwners", Rows.laid_loop_example_plashet_impl_rowOwners)] w) ∧ sizedMet enc Tryd.prog Tryd.f5 (OpenSpec.ofChange Rows.fnInOutSpec) false w args) (Rows.fnInOutSpec.post enc Tryd.prog Tryd.f5 false true false false) := by
 refine returnsInHanded_of_change_and (C := Tryd.checked) (X := fun w _ => laidMet Tryd.prog [("loop.example/plashet/impl.rowOwners", Rows.laid_loop_example_plashet_impl_rowOwners)] w) (fun _ _ _ hh h => h.of_heap hh) own started (by kernel_rfl) Tryd.func5
  (ChangeSpec.witness_shaped (enc := enc) (C := Tryd.checked) (os := os) (X := fun w _ => laidMet Tryd.prog [("loop.example/plashet/impl.rowOwners", Rows.laid_loop_example_plashet_impl_rowOwners)] w) false (World.doorLaid Tryd.prog 400 os) #[.slice none 0 0] 8 rfl (World.shaped_of_RefB (by kernel_rfl) (by kernel_rfl)) (by kernel_rfl) (by kernel_rfl) (by kernel_rfl) (P.door_met os _)) ?_
 intro W base args ds gs before hval0 hW _ hsz0 hL _
 have hsz : (DataW.weightsEach Tryd.prog (Tryd.f5.params.toList ++ Rows.fnInOutSpec.plain.varTypes Tryd.prog) (ds ++ gs)).all (· ≤ reachBytes) = true := hsz0
 have hval : ∀ (j : Nat) t v, Tryd.f5.params[j]? = some t → args[j]? = some v → Value.okWide Tryd.prog W .any base t v := hval0
 have hW' := hW
 obtain ⟨p, q, hA0, hV, rfl, hfz, hnd⟩ := hW
 have hA : DataW.TrodAll enc Tryd.prog W 0 (fun _ => true) true Tryd.f5.params.toList args.toList ds p := hA0
 rw [Tryd.params5] at hA hval hsz
 obtain ⟨v0, vs0, d0, ds0, p0, q0, hargs, rfl, rfl, h0, r0⟩ := trodAll_cons hA
 obtain ⟨rfl, rfl, rfl⟩ := trodAll_nil r0
 obtain rfl : args = #[v0] := by cases args; simp_all
 have hG : P.Glob W := P.glob_of_laid hL
 obtain ⟨gv, tv, csv, fuelv, dv, pv, rfl, hgv, htv, hvarv, hdv, rfl⟩ := trodVars_one hV
 obtain rfl : csv = P.ownCells := Option.some.inj (hvarv.symm.trans hG)
 obtain rfl := Option.some.inj (P.tOwners.symm.trans (by rw [Option.some.inj (P.gOwners.symm.trans hgv)]; exact htv))
 obtain ⟨rfl, rfl⟩ := DataW.Trod.unique (v := .agg P.ownCells) ⟨fuelv, hdv⟩ ⟨3, P.reads_table enc W _⟩
 obtain ⟨a0, len0, cap0, rfl⟩ := okWide_slice Tryd.underlying22 (hval 0 22 v0 rfl rfl)
 have k0 := h0
 have lt0 : ∀ x ∈ p0, x.block < W.heap.size := by obtain ⟨m, hm⟩ := k0; exact DataW.trod_lt m _ _ _ hm
 obtain ⟨z0, w0⟩ : ∃ zs, IsRow .u8 W a0 len0 cap0 zs := by
  obtain ⟨fuel, hf⟩ := h0
  rcases open_ints Tryd.underlying22 Tryd.underlying5 (by kernel_rfl) hf with ⟨hcs, _⟩ | ⟨x, l, c, zs, hcs, _, hl, hm, hz, _, hcell, hwz⟩
  ·simp [Value.cells] at hcs
   obtain ⟨rfl, rfl, rfl⟩ := hcs
   exact ⟨[], .inl ⟨rfl, rfl, rfl, rfl⟩⟩
  ·simp [Value.cells] at hcs
   obtain ⟨rfl, rfl, rfl⟩ := hcs
   exact ⟨zs, .inr ⟨_, rfl, hl, hm, by simpa using hz, hcell, hwz⟩⟩
 have y0 : len0 * 1 ≤ 140737488351232 := Go.Proofs.YtlkheeegkifblaaDoorW.PrintWords.sized_ints hsz (j := 0) (t := 22) rfl rfl Tryd.underlying22 Tryd.underlying5 (by kernel_rfl) (by kernel_rfl) h0
 clear hA0 hval0 hsz0 hsz
 refine (P.laws_FnInOut.walk PL.FnInOut a0 len0 cap0 z0 W w0 y0 hG).mono fun e W' ⟨he, bel⟩ => ?_
 subst he
 exact ⟨_, rfl, _, _, _, _, _, _, hW', trodAll_mk1 (shut_bool Tryd.underlying4 _), (trodAll_cons_mk (Below.trod laidOut (by kernel_rfl) (of_decide_eq_true (by kernel_rfl)) k0 bel lt0) trodAll_mk0), P.tab_vars enc (hG.below bel), bel.frame _, fun h => by cases h⟩
theorem over : Rows.fnInOutRow.holds Tryd.pinned (OpenSpec.ofChange Rows.fnInOutSpec) :=
 OpenClaim.holds_of_wide 5 Tryd.f5 rfl rfl rfl rfl rfl rfl rfl ⟨rfl, rfl, rfl, rfl, rfl⟩ rfl rfl rfl rfl rfl (by kernel_rfl) Tryd.func5 (by kernel_rfl)
  (of_decide_eq_true (by kernel_rfl)) (by unfold Func.isWrapper; first | (rw [if_pos (by decide +kernel)]; kernel_rfl) | (rw [if_neg (by decide +kernel)]; exact ⟨rfl, rfl⟩))
  (fun os started H enc _ => lifted os started H enc)
theorem proved : Rows.FnInOutSaid := over
#print axioms proved
end Go.Proofs.YtlkheeegkifblaaDoor.fnInOut
namespace Go.Proofs.YtlkheeegkifblaaDoor
theorem fnInOut_holds : Rows.FnInOutSaid := fnInOut.proved
end Go.Proofs.YtlkheeegkifblaaDoor
namespace Go.Proofs.YtlkheeegkifblaaDoor
open Go
theorem fnInOutCard_holds : Rows.FnInOutCardSaid :=
 Claim7.holds_tied_plain_at .later [] [.data] true (true, "eaacb49e37206468e585e4739738b6d4558eee5b1031375a36bb2efdb5ba73e0") true
  fnInOut_holds (fun _ h => by cases h) (by kernel_rfl) (fun _ h => by cases h) fnInOut_row_tie rfl ⟨rfl, rfl⟩ (by kernel_rfl) rfl
  (fun f fn hf hfn => by
   obtain rfl : f = 5 := Option.some.inj ((show Tryd.prog.funcNamed "loop.example/plashet/laws.FnInOut" = some 5 by kernel_rfl).symm.trans hf) |>.symm
   obtain rfl : fn = Tryd.f5 := (Option.some.inj (Tryd.func5.symm.trans hfn)).symm
   exact ⟨by kernel_rfl, fun j t ht => by
    rw [Tryd.params5] at ht
    have hm : t ∈ [22] := by have := Array.mem_of_getElem? ht; simp at this; first | (subst this; simp; done) | (rcases this with h | h <;> simp [h]; done) | (rcases this with h | h | h <;> simp [h]; done)
    have hall : ([22].all fun u => !Tryd.prog.wantsStandIn u) = true := by kernel_rfl
    exact (show Tryd.prog.wantsStandIn t = false by simpa using List.all_eq_true.1 hall t hm)⟩)
  (by kernel_rfl)
#print axioms fnInOutCard_holds
end Go.Proofs.YtlkheeegkifblaaDoor
