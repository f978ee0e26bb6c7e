/- Joined by a program (wip/shake.py): the declarations that 'YtlkheeegkifblaaDoorCardFnGoneBack' reaches. -/
import Derived.Test.YtlkheeegkifblaaDoorZFd6
set_option linter.unusedVariables false
set_option linter.unusedSimpArgs false
set_option linter.unusedSectionVars false
namespace Go.Proofs.YtlkheeegkifblaaDoor.PL
open Go.RowKit Go.Proofs.YtlkheeegkifblaaDoor.P Go.Proofs.YtlkheeegkifblaaDoorW.PrintWords Go.Proofs.YtlkheeegkifblaaDoorW.PrintLast
theorem row_l0 (b : List Int) (hb : Bytes b) : ∀ (n : Nat) (t : List S37) (i : Nat) (p : Int) (m : Nat), i + n = 6 → (∀ r ∈ t, wfD r) → 2 ≤ t.length → t.length ≤ 21 → Rd p (m + 202 * n + 10) →
  ∃ (t' : List S37) (id p' : Int), Ev (fun k => spec_l71Row.l0 k t i b p) (t', id, p') ∧ (∀ r ∈ t', wfD r) ∧ 2 ≤ t'.length ∧ t'.length ≤ 21 ∧ I64 id ∧ Rd p' m := by
 intro n
 have last : ∀ (t : List S37) (i : Nat) (p : Int) (m : Nat), (∀ r ∈ t, wfD r) → 2 ≤ t.length → t.length ≤ 21 → Rd p (m + 3) → ∃ (t' : List S37) (id p' : Int), Ev (fun k => spec_l71Row.j1 k t i false b p) (t', id, p') ∧ (∀ r ∈ t', wfD r) ∧ 2 ≤ t'.length ∧ t'.length ≤ 21 ∧ I64 id ∧ Rd p' m := by
  intro t i p m hw h2 h21 hp
  obtain ⟨z, p1, hz, hZ, z0, z1⟩ := did_f b p (m + 1) hb hp
  obtain ⟨y, hy, hY, y0, y1, _⟩ := pick_f b p1 5 m hb hZ
  have y1 := y1 (by omega)
  refine ⟨t, rd [1, 2, 3, z, 0] y, p1 + 1, ?_, hw, h2, h21, ?_, hY⟩
  ·refine Ev.step (fun n => by simp only [spec_l71Row.j1]; rfl) ?_
   refine ev_neg (by decide) (Ev.bind hz ?_)
   simp only [Option.bind_some]
   exact Ev.bind hy (ev_pos y0 (ev_pos (by simpa using y1) (evnow _)))
  ·have := rd_mem ([1, 2, 3, z, 0] : List Int) y y0 (by simpa using y1)
   simp only [List.mem_cons, List.not_mem_nil, or_false] at this
   exact i64_small (by omega) (by omega)
 induction n with
 | zero =>
  intro t i p m h hw h2 h21 hp
  obtain ⟨t', id, p', g1, g2⟩ := last t i p m hw h2 h21 (hp.less (by omega))
  refine ⟨t', id, p', ?_, g2⟩
  refine Ev.step (fun n => by simp only [spec_l71Row.l0]; rfl) ?_
  exact ev_neg (by omega) g1
 | succ n ih =>
  intro t i p m h hw h2 h21 hp
  obtain ⟨x, hx, hX, x0, x1, _⟩ := pick_f b p 12 (m + 202 * n + 211) hb (hp.less (by omega))
  by_cases e0 : x > 0
  ·obtain ⟨y, hy, hY, y0, y1, _⟩ := pick_f b (p + 1) (t.length : Int) (m + 202 * n + 210) hb hX
   have y1 := y1 (by omega)
   obtain ⟨j, rfl⟩ : ∃ n : Nat, y = n := ⟨y.toNat, by omega⟩
   have hj : j < t.length := by omega
   have hwj := hw _ (List.getElem_mem hj)
   have wi : wrap64 ((i : Int) + 1) = ((i + 1 : Nat) : Int) := by rw [wrap_id _ (by omega) (by omega)]; omega
   cases hm : madeB t[j].f0 with
   | true =>
    refine ⟨t, t[j].f0, p + 1 + 1, ?_, hw, h2, h21, hwj.1, hY.less (by omega)⟩
    refine Ev.step (fun n => by simp only [spec_l71Row.l0]; rfl) ?_
    refine ev_pos (by omega) (Ev.bind hx ?_)
    refine Ev.step (fun n => by simp only [spec_l71Row.j1]; rfl) ?_
    refine ev_pos (by simpa using e0) (Ev.bind hy (ev_pos y0 (ev_pos y1 ?_)))
    rw [rdR_get t j hj, made_f _ hwj.1, hm]
    simp only [Option.bind_some]
    exact ev_pos (by simp) (evnow _)
   | false =>
    by_cases e3 : (i : Int) = 3
    ·obtain ⟨t1, p1, g1, g2, g3, g4, g5⟩ := tree71_f b hb (p + 1 + 1) (m + 202 * n + 10) hY
     obtain ⟨t', id, p', k1, k2⟩ := ih t1 (i + 1) p1 m (by omega) g2 g3 g4 g5
     refine ⟨t', id, p', ?_, k2⟩
     refine Ev.step (fun n => by simp only [spec_l71Row.l0]; rfl) ?_
     refine ev_pos (by omega) (Ev.bind hx ?_)
     refine Ev.step (fun n => by simp only [spec_l71Row.j1]; rfl) ?_
     refine ev_pos (by simpa using e0) (Ev.bind hy (ev_pos y0 (ev_pos y1 ?_)))
     rw [rdR_get t j hj, made_f _ hwj.1, hm, wi]
     simp only [Option.bind_some]
     exact ev_neg (by decide) (ev_pos e3 (Ev.bind g1 k1))
    ·obtain ⟨t', id, p', k1, k2⟩ := ih t (i + 1) (p + 1 + 1) m (by omega) hw h2 h21 (hY.less (by omega))
     refine ⟨t', id, p', ?_, k2⟩
     refine Ev.step (fun n => by simp only [spec_l71Row.l0]; rfl) ?_
     refine ev_pos (by omega) (Ev.bind hx ?_)
     refine Ev.step (fun n => by simp only [spec_l71Row.j1]; rfl) ?_
     refine ev_pos (by simpa using e0) (Ev.bind hy (ev_pos y0 (ev_pos y1 ?_)))
     rw [rdR_get t j hj, made_f _ hwj.1, hm, wi]
     simp only [Option.bind_some]
     exact ev_neg (by decide) (ev_neg e3 k1)
  ·obtain ⟨t', id, p', g1, g2⟩ := last t i (p + 1) m hw h2 h21 (hX.less (by omega))
   refine ⟨t', id, p', ?_, g2⟩
   refine Ev.step (fun n => by simp only [spec_l71Row.l0]; rfl) ?_
   refine ev_pos (by omega) (Ev.bind hx ?_)
   rw [decide_eq_false e0]
   exact g1
theorem row71_f (b : List Int) (hb : Bytes b) (p : Int) (m : Nat) (hp : Rd p (m + 1500)) : ∃ (t : List S37) (id p' : Int), Ev (fun k => spec_l71Row.f k b p) (t, id, p') ∧ (∀ r ∈ t, wfD r) ∧ 2 ≤ t.length ∧ t.length ≤ 21 ∧ I64 id ∧ Rd p' m := by
 obtain ⟨t, p1, h1, h2, h3, h4, h5⟩ := tree71_f b hb p (m + 1300) hp
 obtain ⟨t', id, p', g1, g2⟩ := row_l0 b hb 6 t 0 p1 m (by omega) h2 h3 h4 (h5.less (by omega))
 exact ⟨t', id, p', Ev.bind h1 g1, g2⟩
end Go.Proofs.YtlkheeegkifblaaDoor.PL
namespace Go.Proofs.YtlkheeegkifblaaDoor.PL
open Go.RowKit Go.Proofs.YtlkheeegkifblaaDoor.P Go.Proofs.YtlkheeegkifblaaDoorW.PrintWords Go.Proofs.YtlkheeegkifblaaDoorW.PrintLast Go.Proofs.YtlkheeegkifblaaDoor.FP
theorem doF_len {G : Fo} (g : Good G) (kd : Int) (i : Nat) (hit : i ∉ G.tops) (up at_ : Int) (s : ByteArray) : (doF G kd (i : Int) up at_ s).ids.length ≤ 2000 := by
 have hg := g.len
 unfold doF
 rcases fndF_cases g i with ⟨hi, hf⟩ | ⟨hi, hf⟩
 ·have hi0 := g.ne0 i hi
  rw [hf, if_neg hi0, if_neg hi0, if_neg hi0]
  split
  ·rw [setF_ids]; omega
  ·split
   ·omega
   ·split
    ·omega
    ·rename_i hu
     obtain ⟨h, hr⟩ := reptop_ex G g.nd g.ne0
     have hp := near_del hr g.nd g.three hi hit (id := (i : Int)) (up := up) (at_ := at_) rfl hu
     have hperm := ids_del i G g.nd hi
     obtain ⟨n1, n2⟩ := List.nodup_cons.1 (hperm.nodup_iff.1 g.nd)
     obtain ⟨n3, n4, n5⟩ := List.nodup_append.1 n2
     have e1 := (putF_ids (p := nearF G (i : Int) up at_) (i := i) (t := txtF i G) (s := sub i G) n4 hp.1 (hp.2.imp id And.left)).length_eq
     have e2 := hperm.length_eq
     simp only [List.length_cons, List.length_append] at e1 e2
     omega
 ·rw [hf, if_pos rfl, if_pos rfl, if_pos rfl]
  have hp := near_ok (G := G) (tops_ids g.three) (i : Int) up at_
  have e1 := (putF_ids (p := nearF G (i : Int) up at_) (i := (i : Int).toNat) (t := s) (s := .nil) g.nd hp.up (hp.at_.imp id And.left)).length_eq
  simp only [List.length_cons, List.length_append, Fo.ids, List.length_nil] at e1
  split
  ·omega
  ·split <;> omega
theorem opDoR_len (l : List S37) (k i u a : Int) (s : ByteArray) : (opDoR l k i u a s).length ≤ 2000 := by
 unfold opDoR
 split
 ·rename_i ho
  split
  ·rename_i ht
   obtain ⟨m, rfl, h4, h37⟩ := made_num (opB_made k i u a s ho)
   have g := good_of ht
   rw [fl_len]
   exact doF_len g k m (by rw [g.tops]; simp; omega) u a s
  ·simp
 ·simp
theorem lpR_l0 (l : List S37) (hl : l.length ≤ 1099511627776) : ∀ (n i : Nat), i + n = l.length → Ev (fun k => laws_lpRows.l0 k l l i) true
 | 0, i, h => by
  refine Ev.step (f := fun _ => some true) (fun k => ?_) (evnow _)
  simp only [laws_lpRows.l0]; rw [if_neg (by omega)]
 | n + 1, i, h => by
  refine Ev.step (fun k => ?_) (lpR_l0 l hl n (i + 1) (by omega))
  simp only [laws_lpRows.l0]
  rw [if_pos (by omega), if_pos (by omega), if_pos (by omega)]
  simp only [BEq.rfl, Bool.not_true, Bool.or_false, Bool.false_eq_true, if_false]
  rw [wrapS i (by omega) (by omega)]
  rfl
theorem lpR_f (l : List S37) (hl : l.length ≤ 1099511627776) : Ev (fun k => laws_lpRows.f k l l) true := by
 unfold laws_lpRows.f
 exact ev_pos rfl (lpR_l0 l hl l.length 0 (by omega))
theorem lpR_eq {a b : List S37} (h : a = b) (hl : a.length ≤ 1099511627776) : Ev (fun k => laws_lpRows.f k a b) true := h ▸ lpR_f a hl
theorem opDoR_val {l : List S37} {k u a : Int} {i : Nat} {s : ByteArray} (ho : opB k (i : Int) u a s = true) (ht : treeB l = true) : opDoR l k i u a s = (FP.doF (toFo l) k i u a s).fl 0 := (opDo_val ho ht).1
theorem le40 (l : List S37) (k i u a : Int) (s : ByteArray) : (opDoR l k i u a s).length ≤ 1099511627776 := by have := opDoR_len l k i u a s; omega
theorem pure_of {f : Nat → Option Bool} (h : Ev f true) : ∃ k, f k = some true := by
 obtain ⟨K, hK⟩ := h
 exact ⟨K, hK K (Nat.le_refl K)⟩
theorem found {l : List S37} (ht : treeB l = true) {id : Int} (h : fndF (toFo l) id ≠ 0) : ∃ m : Nat, id = (m : Int) ∧ fndF (toFo l) id = m ∧ m ∈ (toFo l).ids ∧ ∃ pre post, Spot m 0 (toFo l) pre post ∧ atI l id = (pre.length : Int) := by
 obtain ⟨h1, h2⟩ := fndF_mem h
 obtain ⟨pre, post, s⟩ := spot (fndF (toFo l) id) (toFo l) 0 (val_of ht).nd h1
 refine ⟨fndF (toFo l) id, h2.symm, rfl, h1, pre, post, s, ?_⟩
 have := spot_at s
 rw [toFo_fl ht, h2] at this
 exact this
theorem lost {l : List S37} (ht : treeB l = true) {id : Int} (h : fndF (toFo l) id = 0) : atI l id = -1 := by
 have := at_fnd0 h (val_of ht).ne0
 rwa [toFo_fl ht] at this
theorem skeyGone_f (l : List S37) (id : Int) (hl : l.length ≤ 1000000) (hw : ∀ r ∈ l, wfR r) (hid : I64 id) : Ev (fun k => spec_KeyGone.f k l id) (keyR keyGoneF l id) := by
 unfold spec_KeyGone.f keyR
 refine Ev.bind (stree_f l (by omega) hw) ?_
 cases ht : treeB l with
 | false => rw [if_neg (by decide)]; exact ev_neg (by decide) (evnow _)
 | true =>
  rw [if_pos rfl]
  refine ev_pos rfl ?_
  rw [made_f _ hid]
  simp only [Option.bind_some]
  cases hmd : madeB id with
  | false => rw [if_neg (by decide)]; exact ev_neg (by decide) (evnow _)
  | true =>
   rw [if_pos rfl]
   refine ev_pos rfl (Ev.bind (at_f l id (by omega)) ?_)
   by_cases h0 : fndF (toFo l) id = 0
   ·rw [if_pos h0, lost ht h0]; exact ev_pos (by omega) (evnow _)
   ·rw [if_neg h0]
    obtain ⟨m, rfl, e, hm, pre, post, s, ha⟩ := found ht h0
    rw [ha, e]
    have v := val_of ht
    have h2 : 2 ∈ (toFo l).ids := tops_ids (by rw [v.tops]; simp)
    have := under_x v.good h2 (m : Int)
    rw [toFo_fl ht, fnd_nat hm] at this
    refine ev_neg (by omega) (Ev.bind this ?_)
    unfold keyGoneF
    by_cases hu : under 2 m (toFo l)
    ·rw [decide_eq_true hu, if_pos hu]; exact ev_pos rfl (evnow _)
    ·rw [decide_eq_false hu, if_neg hu]; exact ev_neg (by decide) (evnow _)
theorem ikeyBack_f (l : List S37) (k i u a : Int) (s : ByteArray) (hs : s.size ≤ 9223372036854775807) : Ev (fun n => impl_KeyBack.f n l k i u a s) (keyBackR (opB k i u a s) l k i u a s) := by
 unfold impl_KeyBack.f
 exact Ev.bind (opOk_f k i u a s hs) (evnow _)
structure Dk (t : List S37) (id : Int) : Prop where
 wf : ∀ r ∈ t, wfD r
 few : t.length ≤ 21
 id64 : I64 id
theorem Dk.wfR {t : List S37} {id : Int} (d : Dk t id) : ∀ r ∈ t, wfR r := fun r hr => ⟨(d.wf r hr).1, by have := (d.wf r hr).2; omega⟩
theorem Dk.tree {t : List S37} {id : Int} (d : Dk t id) : Ev (fun n => spec_TreeOk.f n t) (treeB t) := stree_f t (by have := d.few; omega) d.wfR
theorem row_dk (b : List Int) (hb : Bytes b) (p : Int) (m : Nat) (hp : Rd p (m + 1500)) : ∃ (t : List S37) (id p' : Int), Ev (fun k => spec_l71Row.f k b p) (t, id, p') ∧ Dk t id ∧ Rd p' m := by
 obtain ⟨t, id, p', h1, h2, _, h3, h4, h5⟩ := row71_f b hb p m hp
 exact ⟨t, id, p', h1, ⟨h2, h3, h4⟩, h5⟩
theorem drawGone_f (code : List Int) (h : ∀ x ∈ code, (Lit.int .u8 x).wf = true) : ∃ (t : List S37) (id : Int), Ev (fun n => spec_DrawKeyGone.f n code) (t, id) ∧ Dk t id := by
 obtain ⟨b, hb, hB⟩ := open_f code (fun x hx => byte_of (h x hx))
 obtain ⟨t, id, p, h1, d1, r1⟩ := row_dk b hB 0 10 ⟨by omega, by omega⟩
 refine ⟨t, id, ?_, d1⟩
 unfold spec_DrawKeyGone.f
 rw [hb]
 simp only [Option.bind_some]
 exact Ev.bind h1 (evnow _)
end Go.Proofs.YtlkheeegkifblaaDoor.PL
namespace Go.Proofs.YtlkheeegkifblaaDoor.P
open Go.RowKit Go.Shelf Go.Proofs.YtlkheeegkifblaaDoorW.PrintWords Go.Proofs.YtlkheeegkifblaaDoorW.PrintLast Go.Proofs.YtlkheeegkifblaaDoorW.PrintMore Go.Proofs.YtlkheeegkifblaaDoor.PL Go.Proofs.YtlkheeegkifblaaDoor.FP
attribute [local go_sem] Oper.semAt_some

attribute [local go_sem] Oper.semAt_some

end Go.Proofs.YtlkheeegkifblaaDoor.P
namespace Go.Proofs.YtlkheeegkifblaaDoor.PL
open Go.RowKit Go.Proofs.YtlkheeegkifblaaDoor.P Go.Proofs.YtlkheeegkifblaaDoorW.PrintWords Go.Proofs.YtlkheeegkifblaaDoorW.PrintLast Go.Proofs.YtlkheeegkifblaaDoor.FP
structure Mk (l : List S37) (m : Nat) : Prop where
 tree : treeB l = true
 made : madeB (m : Int) = true
 mem : m ∈ (toFo l).ids
theorem Mk.v {l : List S37} {m : Nat} (k : Mk l m) : Val (toFo l) := val_of k.tree
theorem Mk.top {l : List S37} {m : Nat} (k : Mk l m) : m ∉ (toFo l).tops := k.v.top k.made
theorem Mk.ne {l : List S37} {m : Nat} (k : Mk l m) : m ≠ 0 := k.v.ne0 m k.mem
theorem Mk.par {l : List S37} {m : Nat} (k : Mk l m) : FP.par m 0 (toFo l) ∈ (toFo l).ids := (back_top k.ne (toFo l) k.v.nd k.v.ne0 k.mem k.top).up
theorem Mk.fnd {l : List S37} {m : Nat} (k : Mk l m) : fndF (toFo l) (m : Int) = m := fnd_nat k.mem
theorem Mk.key {l : List S37} {m : Nat} (k : Mk l m) (K : Fo → Nat → Int × Int × Int × Int × ByteArray × Bool) : keyR K l m = K (toFo l) m := by
 unfold keyR; rw [k.tree, k.made, if_pos rfl, if_pos rfl, k.fnd, if_neg k.ne]
theorem key_yes {K : Fo → Nat → Int × Int × Int × Int × ByteArray × Bool} {l : List S37} {id : Int} (h : (keyR K l id).2.2.2.2.2 = true) : ∃ m : Nat, id = (m : Int) ∧ Mk l m ∧ (K (toFo l) m).2.2.2.2.2 = true ∧ keyR K l id = K (toFo l) m := by
 unfold keyR at h ⊢
 cases ht : treeB l with
 | false => rw [ht, if_neg (by decide)] at h; cases h
 | true =>
  rw [ht, if_pos rfl] at h
  cases hm : madeB id with
  | false => rw [hm, if_neg (by decide)] at h; cases h
  | true =>
   rw [hm, if_pos rfl] at h
   by_cases h0 : fndF (toFo l) id = 0
   ·rw [if_pos h0] at h; cases h
   ·rw [if_neg h0] at h
    obtain ⟨h1, h2⟩ := fndF_mem h0
    refine ⟨fndF (toFo l) id, h2.symm, ⟨ht, by rw [h2]; exact hm, h1⟩, h, ?_⟩
    rw [if_pos rfl, if_pos rfl, if_neg h0]
theorem keyGone_yes {G : Fo} {m : Nat} (h : (keyGoneF G m).2.2.2.2.2 = true) : ¬ under 2 m G ∧ keyGoneF G m = kMv m 2 0 := by
 unfold keyGoneF at h ⊢
 by_cases h0 : under 2 m G
 ·rw [if_pos h0] at h; cases h
 ·rw [if_neg h0]; exact ⟨h0, rfl⟩
theorem id_of {G : Fo} (v : Val G) {x : Nat} (hx : x ∈ G.ids) : idB (x : Int) = true := by
 unfold idB
 by_cases h4 : 4 ≤ x
 ·rw [(made_of_ok (v.ok x hx) h4).1, Bool.or_true]
 ·have := v.ne0 x hx
  have hc : x = 1 ∨ x = 2 ∨ x = 3 := by omega
  rcases hc with rfl | rfl | rfl <;> decide
theorem made_of_top {G : Fo} (v : Val G) {x : Nat} (hx : x ∈ G.ids) (ht : x ∉ G.tops) : madeB (x : Int) = true := by
 have h4 : 4 ≤ x := by
  rw [v.tops] at ht
  simp only [List.mem_cons, List.not_mem_nil, or_false, not_or] at ht
  have := v.ne0 x hx
  omega
 exact (made_of_ok (v.ok x hx) h4).1
theorem opB_mv {G : Fo} (v : Val G) {m u a : Nat} (hm : madeB (m : Int) = true) (hu : u ∈ G.ids) (ha : a = 0 ∨ (a ∈ G.ids ∧ a ∉ G.tops)) : opB 3 (m : Int) (u : Int) (a : Int) ⟨#[]⟩ = true := by
 have he : (⟨#[]⟩ : ByteArray).toList.isEmpty = true := by rw [Go.ByteArray.toList_eq]; rfl
 unfold opB placeB
 rw [hm, id_of v hu, he]
 rcases ha with rfl | ⟨h1, h2⟩
 ·simp
 ·rw [made_of_top v h1 h2]; simp
theorem mv_do {l : List S37} {m u a : Nat} (k : Mk l m) (hu : u ∈ (toFo l).ids) (ha : a = 0 ∨ (a ∈ (toFo l).ids ∧ a ∉ (toFo l).tops)) (hw : ¬ under m u (toFo l)) (hn : nearF (toFo l) (m : Int) (u : Int) (a : Int) = (u, a)) :
  opB 3 (m : Int) (u : Int) (a : Int) ⟨#[]⟩ = true ∧ opDoR l 3 m u a ⟨#[]⟩ = (mvF (toFo l) (u, a) m).fl 0 ∧ treeB (opDoR l 3 m u a ⟨#[]⟩) = true ∧ toFo (opDoR l 3 m u a ⟨#[]⟩) = mvF (toFo l) (u, a) m ∧ Val (mvF (toFo l) (u, a) m) := by
 have ho := opB_mv k.v k.made hu ha
 obtain ⟨e, h2, h3, v'⟩ := opDo_val ho k.tree
 have e2 : FP.doF (toFo l) 3 (m : Int) (u : Int) (a : Int) ⟨#[]⟩ = mvF (toFo l) (u, a) m := by
  rw [doF_move k.mem k.ne _ _ _ (by rw [fnd_nat hu]; exact hw), hn]
 rw [e2] at e h3 v'
 exact ⟨ho, e, h2, h3, v'⟩
theorem mv_back {l : List S37} {m : Nat} (k : Mk l m) {x : List S37} {q : Nat × Nat} (o : MvOk (toFo l) m q) (ht : treeB x = true) (e : toFo x = mvF (toFo l) q m) :
  opB 3 (m : Int) (FP.par m 0 (toFo l) : Nat) (sibT m (toFo l) : Nat) ⟨#[]⟩ = true ∧ opDoR x 3 m (FP.par m 0 (toFo l) : Nat) (sibT m (toFo l) : Nat) ⟨#[]⟩ = l := by
 have hs : sibT m (toFo l) = 0 ∨ (sibT m (toFo l) ∈ (toFo l).ids ∧ sibT m (toFo l) ∉ (toFo l).tops) := by
  by_cases h0 : sibT m (toFo l) = 0
  ·exact Or.inl h0
  ·have so := sib_ok k.v.nd k.v.ne0 k.mem k.top h0
   exact Or.inr ⟨so.mem, so.top⟩
 have ho := opB_mv k.v k.made k.par hs
 refine ⟨ho, ?_⟩
 rw [opDoR_val ho ht, e, move_back k.v.nd k.v.ne0 k.mem k.top o ⟨#[]⟩, toFo_fl k.tree]
theorem empty_size : (⟨#[]⟩ : ByteArray).size ≤ 9223372036854775807 := by show 0 ≤ _; omega
theorem Mk.two {l : List S37} {m : Nat} (k : Mk l m) : 2 ∈ (toFo l).ids := tops_ids (by rw [k.v.tops]; simp)
theorem Mk.two_top {l : List S37} {m : Nat} (k : Mk l m) : 2 ∈ (toFo l).tops := by rw [k.v.tops]; simp
theorem Mk.not_two {l : List S37} {m : Nat} (k : Mk l m) : ¬ under m 2 (toFo l) := tops_not_under k.v.nd k.v.ne0 k.top k.two_top
theorem under_par {G : Fo} (hn : G.ids.Nodup) (h0 : ∀ x ∈ G.ids, x ≠ 0) {u x : Nat} (hu : u ∈ G.ids) (hx : x ∈ G.ids) (hp : par x 0 G = u) : under u x G := ⟨hu, Or.inr (tops_ids ((kids_par hn h0 hu).2 ⟨hx, hp⟩))⟩
theorem gone_do {l : List S37} {m : Nat} (k : Mk l m) : MvOk (toFo l) m (2, 0) ∧ opB 3 (m : Int) 2 0 ⟨#[]⟩ = true ∧ opDoR l 3 m 2 0 ⟨#[]⟩ = (mvF (toFo l) (2, 0) m).fl 0 ∧ treeB (opDoR l 3 m 2 0 ⟨#[]⟩) = true ∧ toFo (opDoR l 3 m 2 0 ⟨#[]⟩) = mvF (toFo l) (2, 0) m ∧ Val (mvF (toFo l) (2, 0) m) := by
 have hn : nearF (toFo l) (m : Int) ((2 : Nat) : Int) ((0 : Nat) : Int) = (2, 0) := near_first (fnd_nat k.two) (by decide) (fnd_not fun g => k.v.ne0 0 g rfl)
 have mo := move_ok k.v.nd k.v.ne0 k.v.three k.mem k.top (up := ((2 : Nat) : Int)) (at_ := ((0 : Nat) : Int)) (by rw [fnd_nat k.two]; exact k.not_two)
 rw [hn] at mo
 exact ⟨mo, mv_do k k.two (Or.inl rfl) k.not_two hn⟩
theorem goneBack_ev {t : List S37} {id : Int} (h : (keyR keyGoneF t id).2.2.2.2.2 = true) : ∃ (m c d : Nat), id = (m : Int) ∧ keyR keyGoneF t id = kMv m 2 0 ∧ keyBackR (opB 3 m 2 0 ⟨#[]⟩) t 3 m 2 0 ⟨#[]⟩ = kMv m c d ∧ opDoR (opDoR t 3 m 2 0 ⟨#[]⟩) 3 m c d ⟨#[]⟩ = t := by
 obtain ⟨m, rfl, k, h1, h2⟩ := key_yes h
 obtain ⟨h3, h4⟩ := keyGone_yes h1
 obtain ⟨mo, o1, o2, o3, o4, o5⟩ := gone_do k
 refine ⟨m, FP.par m 0 (toFo t), sibT m (toFo t), rfl, by rw [h2, h4], ?_, (mv_back k mo o3 o4).2⟩
 unfold keyBackR
 rw [k.tree, if_pos rfl, o1, if_pos rfl]
 rw [← opDoR_val o1 k.tree, o2, if_neg]
 ·unfold backF
  rw [if_neg (by decide), if_neg (by decide), Int.toNat_natCast]
 ·intro e
  have e1 : mvF (toFo t) (2, 0) m = toFo t := fl_inj _ _ 0 (e.trans (toFo_fl k.tree).symm)
  have e2 := mo.par_new
  rw [e1] at e2
  exact h3 (under_par k.v.nd k.v.ne0 k.two k.mem e2)
theorem goneBack_j0 {t : List S37} {id : Int} (d : Dk t id) (r : Int × Int × Int × Int × ByteArray × Bool) (hr : r = keyR keyGoneF t id) (f : Bool) (hf : f = false → r.2.2.2.2.2 = true) : Ev (fun n => laws_FnGoneBack.j0 n t r.2.2.2.2.2 r.2.2.2.2.2 f r.1 r.2.1 r.2.2.1 r.2.2.2.1 r.2.2.2.2.1 r.1 r.2.1 r.2.2.1 r.2.2.2.1 r.2.2.2.2.1) true := by
 cases f with
 | true => exact Ev.step (f := fun _ => some true) (fun n => by simp [laws_FnGoneBack.j0]) (evnow _)
 | false =>
  have h := hf rfl
  rw [hr] at h
  obtain ⟨m, c, e, rfl, h1, h2, h3⟩ := goneBack_ev h
  rw [hr, h1]
  refine Ev.step (fun n => by simp only [laws_FnGoneBack.j0]; rfl) ?_
  refine ev_neg (by decide) (Ev.bind (ikeyBack_f t 3 m 2 0 ⟨#[]⟩ empty_size) ?_)
  rw [h2]
  exact ev_pos rfl (Ev.bind (iopDo_f t 3 m 2 0 ⟨#[]⟩ empty_size) (Ev.bind (iopDo_f _ 3 m c e ⟨#[]⟩ empty_size) (Ev.bind (lpR_eq h3 (le40 ..)) (evnow _))))
theorem FnGoneBack : laws_FnGoneBack.Pure := by
 intro l0 _ _ h0
 refine pure_of ?_
 unfold laws_FnGoneBack.f
 by_cases h : (l0.length : Int) > 1048576
 ·exact ev_pos h (evnow _)
 ·obtain ⟨t, id, hd, d⟩ := drawGone_f l0 h0
  refine ev_neg h (Ev.bind hd (Ev.bind (skeyGone_f t id (by have := d.few; omega) d.wfR d.id64) (Ev.bind (evnow (keyR keyGoneF t id)) (ev_neg (by simp) (ev_neg (by simp) ?_)))))
  exact goneBack_j0 d _ rfl _ fun h => by simpa using h
end Go.Proofs.YtlkheeegkifblaaDoor.PL
namespace Go.Proofs.YtlkheeegkifblaaDoor.P
open Go.ChangeShapes Go.WideShapes Go.ChangeAt Go.RowKit
theorem tOwners : (Tryd.prog.globals[0]?).map (·.type) = some 66 := by kernel_rfl
theorem cOwners : Tryd.prog.cellsOf 66 = 37 := by kernel_rfl
theorem cInt : Tryd.prog.cellsOf 3 = 1 := by kernel_rfl
abbrev ownCells : Array Value := (owners.map fun z => Value.int .i64 z).toArray
theorem glob_of_laid {W : World} (h : laidMet Tryd.prog [("loop.example/plashet/impl.rowOwners", Rows.laid_loop_example_plashet_impl_rowOwners)] W) : Glob W :=
 Lib.tabIs_of_head gOwners tOwners Tryd.underlying66 Tryd.underlying3 cInt cOwners h
theorem door_met (os : Os) (args : Array Value) : laidMet Tryd.prog [("loop.example/plashet/impl.rowOwners", Rows.laid_loop_example_plashet_impl_rowOwners)] ((World.doorLaid Tryd.prog 400 os).forCall (fun _ _ => 0) ⟨#[], args, []⟩).memory :=
 laidMet_of_run' 8 (by kernel_rfl) (by kernel_rfl)
abbrev tableH {H : Type} : DataW H := .agg (owners.map fun z => .lit (.int .i64 z))
theorem reads_table {H : Type} (enc : TypeId × Value → H) (W : World) (sp : Nat → Bool) : DataW.trod enc Tryd.prog W 0 sp true 3 66 ownCells.toList = some (tableH, []) := by kernel_rfl
theorem tab_vars {H : Type} (enc : TypeId × Value → H) {W : World} (h : Glob W) {sp : Nat → Bool} : DataW.TrodVars enc Tryd.prog W sp ["loop.example/plashet/impl.rowOwners"] [tableH] (MemPlace.row ⟨0, 0, none⟩ ownCells.size ++ [] ++ []) :=
 ⟨0, 66, ownCells, 3, [], [], gOwners, tOwners, h, reads_table enc W sp, rfl, rfl⟩
end Go.Proofs.YtlkheeegkifblaaDoor.P
namespace Go.Proofs.YtlkheeegkifblaaDoor.fnGoneBack
open Go.ChangeMaps (open_string shut_string)
open Go.ChangeShapes Go.WideShapes Go.ChangeAt Go.RowKit
theorem own : ownKnob Tryd.prog.godebug = none := by kernel_rfl
theorem laidOut : laidOutB Tryd.prog = true := by kernel_rfl
def IsRow (k : IntKind) (w : World) (a : Option Addr) (len cap : Nat) (zs : List Int) : Prop :=
 (a = none ∧ len = 0 ∧ cap = 0 ∧ zs = []) ∨
 ∃ x, a = some x ∧ len ≤ cap ∧ cap ≤ maxLen ∧ zs.length = cap ∧ (∀ i, i < zs.length → w.cell? (x.add i) = some (.int k (zs.getD i 0))) ∧ ∀ n ∈ zs, (Lit.int k n).wf = true
set_option maxRecDepth 100000 in
theorem lifted (os : Os) (started : os.Started) (H : Type) (enc : TypeId × Value → H) :
  ReturnsInHanded {} Tryd.checked os 6 .any (fun w args => (Rows.fnGoneBackSpec.pre enc Tryd.prog Tryd.f6 [] false w args ∧ laidMet Tryd.prog [("loop.example/plashet/impl.rowOwners", Rows.laid_loop_example_plashet_impl_rowOwners)] w) ∧ sizedMet enc Tryd.prog Tryd.f6 (OpenSpec.ofChange Rows.fnGoneBackSpec) false w args) (Rows.fnGoneBackSpec.post enc Tryd.prog Tryd.f6 false true false false) := by
 refine returnsInHanded_of_change_and (C := Tryd.checked) (X := fun w _ => laidMet Tryd.prog [("loop.example/plashet/impl.rowOwners", Rows.laid_loop_example_plashet_impl_rowOwners)] w) (fun _ _ _ hh h => h.of_heap hh) own started (by kernel_rfl) Tryd.func6
  (ChangeSpec.witness_shaped (enc := enc) (C := Tryd.checked) (os := os) (X := fun w _ => laidMet Tryd.prog [("loop.example/plashet/impl.rowOwners", Rows.laid_loop_example_plashet_impl_rowOwners)] w) false (World.doorLaid Tryd.prog 400 os) #[.slice none 0 0] 8 rfl (World.shaped_of_RefB (by kernel_rfl) (by kernel_rfl)) (by kernel_rfl) (by kernel_rfl) (by kernel_rfl) (P.door_met os _)) ?_
 intro W base args ds gs before hval0 hW _ hsz0 hL _
 have hsz : (DataW.weightsEach Tryd.prog (Tryd.f6.params.toList ++ Rows.fnGoneBackSpec.plain.varTypes Tryd.prog) (ds ++ gs)).all (· ≤ reachBytes) = true := hsz0
 have hval : ∀ (j : Nat) t v, Tryd.f6.params[j]? = some t → args[j]? = some v → Value.okWide Tryd.prog W .any base t v := hval0
 have hW' := hW
 obtain ⟨p, q, hA0, hV, rfl, hfz, hnd⟩ := hW
 have hA : DataW.TrodAll enc Tryd.prog W 0 (fun _ => true) true Tryd.f6.params.toList args.toList ds p := hA0
 rw [Tryd.params6] at hA hval hsz
 obtain ⟨v0, vs0, d0, ds0, p0, q0, hargs, rfl, rfl, h0, r0⟩ := trodAll_cons hA
 obtain ⟨rfl, rfl, rfl⟩ := trodAll_nil r0
 obtain rfl : args = #[v0] := by cases args; simp_all
 have hG : P.Glob W := P.glob_of_laid hL
 obtain ⟨gv, tv, csv, fuelv, dv, pv, rfl, hgv, htv, hvarv, hdv, rfl⟩ := trodVars_one hV
 obtain rfl : csv = P.ownCells := Option.some.inj (hvarv.symm.trans hG)
 obtain rfl := Option.some.inj (P.tOwners.symm.trans (by rw [Option.some.inj (P.gOwners.symm.trans hgv)]; exact htv))
 obtain ⟨rfl, rfl⟩ := DataW.Trod.unique (v := .agg P.ownCells) ⟨fuelv, hdv⟩ ⟨3, P.reads_table enc W _⟩
 obtain ⟨a0, len0, cap0, rfl⟩ := okWide_slice Tryd.underlying22 (hval 0 22 v0 rfl rfl)
 have k0 := h0
 have lt0 : ∀ x ∈ p0, x.block < W.heap.size := by obtain ⟨m, hm⟩ := k0; exact DataW.trod_lt m _ _ _ hm
 obtain ⟨z0, w0⟩ : ∃ zs, IsRow .u8 W a0 len0 cap0 zs := by
  obtain ⟨fuel, hf⟩ := h0
  rcases open_ints Tryd.underlying22 Tryd.underlying5 (by kernel_rfl) hf with ⟨hcs, _⟩ | ⟨x, l, c, zs, hcs, _, hl, hm, hz, _, hcell, hwz⟩
  ·simp [Value.cells] at hcs
   obtain ⟨rfl, rfl, rfl⟩ := hcs
   exact ⟨[], .inl ⟨rfl, rfl, rfl, rfl⟩⟩
  ·simp [Value.cells] at hcs
   obtain ⟨rfl, rfl, rfl⟩ := hcs
   exact ⟨zs, .inr ⟨_, rfl, hl, hm, by simpa using hz, hcell, hwz⟩⟩
 have y0 : len0 * 1 ≤ 140737488351232 := Go.Proofs.YtlkheeegkifblaaDoorW.PrintWords.sized_ints hsz (j := 0) (t := 22) rfl rfl Tryd.underlying22 Tryd.underlying5 (by kernel_rfl) (by kernel_rfl) h0
 clear hA0 hval0 hsz0 hsz
 refine (P.laws_FnGoneBack.walk PL.FnGoneBack a0 len0 cap0 z0 W w0 y0 hG).mono fun e W' ⟨he, bel⟩ => ?_
 subst he
 exact ⟨_, rfl, _, _, _, _, _, _, hW', trodAll_mk1 (shut_bool Tryd.underlying4 _), (trodAll_cons_mk (Below.trod laidOut (by kernel_rfl) (of_decide_eq_true (by kernel_rfl)) k0 bel lt0) trodAll_mk0), P.tab_vars enc (hG.below bel), bel.frame _, fun h => by cases h⟩
theorem over : Rows.fnGoneBackRow.holds Tryd.pinned (OpenSpec.ofChange Rows.fnGoneBackSpec) :=
 OpenClaim.holds_of_wide 6 Tryd.f6 rfl rfl rfl rfl rfl rfl rfl ⟨rfl, rfl, rfl, rfl, rfl⟩ rfl rfl rfl rfl rfl (by kernel_rfl) Tryd.func6 (by kernel_rfl)
  (of_decide_eq_true (by kernel_rfl)) (by unfold Func.isWrapper; first | (rw [if_pos (by decide +kernel)]; kernel_rfl) | (rw [if_neg (by decide +kernel)]; exact ⟨rfl, rfl⟩))
  (fun os started H enc _ => lifted os started H enc)
theorem proved : Rows.FnGoneBackSaid := over
#print axioms proved
end Go.Proofs.YtlkheeegkifblaaDoor.fnGoneBack
namespace Go.Proofs.YtlkheeegkifblaaDoor
theorem fnGoneBack_holds : Rows.FnGoneBackSaid := fnGoneBack.proved
end Go.Proofs.YtlkheeegkifblaaDoor
namespace Go.Proofs.YtlkheeegkifblaaDoor
open Go
theorem fnGoneBackCard_holds : Rows.FnGoneBackCardSaid :=
 Claim7.holds_tied_plain_at .later [] [.data] true (true, "eaacb49e37206468e585e4739738b6d4558eee5b1031375a36bb2efdb5ba73e0") true
  fnGoneBack_holds (fun _ h => by cases h) (by kernel_rfl) (fun _ h => by cases h) fnGoneBack_row_tie rfl ⟨rfl, rfl⟩ (by kernel_rfl) rfl
  (fun f fn hf hfn => by
   obtain rfl : f = 6 := Option.some.inj ((show Tryd.prog.funcNamed "loop.example/plashet/laws.FnGoneBack" = some 6 by kernel_rfl).symm.trans hf) |>.symm
   obtain rfl : fn = Tryd.f6 := (Option.some.inj (Tryd.func6.symm.trans hfn)).symm
   exact ⟨by kernel_rfl, fun j t ht => by
    rw [Tryd.params6] at ht
    have hm : t ∈ [22] := by have := Array.mem_of_getElem? ht; simp at this; first | (subst this; simp; done) | (rcases this with h | h <;> simp [h]; done) | (rcases this with h | h | h <;> simp [h]; done)
    have hall : ([22].all fun u => !Tryd.prog.wantsStandIn u) = true := by kernel_rfl
    exact (show Tryd.prog.wantsStandIn t = false by simpa using List.all_eq_true.1 hall t hm)⟩)
  (by kernel_rfl)
#print axioms fnGoneBackCard_holds
end Go.Proofs.YtlkheeegkifblaaDoor
