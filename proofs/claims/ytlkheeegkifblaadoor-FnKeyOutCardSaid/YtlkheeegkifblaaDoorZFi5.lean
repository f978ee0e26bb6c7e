/- Joined by a program (wip/shake.py): the declarations that 'YtlkheeegkifblaaDoorCardFnKeyOut' reaches. -/
import Derived.Test.YtlkheeegkifblaaDoorZFi4
set_option linter.unusedVariables false
set_option linter.unusedSimpArgs false
set_option linter.unusedSectionVars false
namespace Go.Proofs.YtlkheeegkifblaaDoor.PL
open Go.RowKit Go.Proofs.YtlkheeegkifblaaDoor.P Go.Proofs.YtlkheeegkifblaaDoorW.PrintWords Go.Proofs.YtlkheeegkifblaaDoorW.PrintLast
theorem of_f (b : List Int) (p : Int) (m : Nat) (l : List ByteArray) (hb : Bytes b) (hp : Rd p (m + 1)) (h1 : 1 ≤ l.length) (h2 : l.length ≤ 1000) : ∃ (s : ByteArray), Ev (fun k => spec_l6Rd_of.f k b p l) (s, p + 1) ∧ s ∈ l := by
 obtain ⟨r, hr, _, h0, hlt, _⟩ := pick_f b p (l.length : Int) m hb hp
 have hlt := hlt (by omega)
 have hi : r.toNat < l.length := by omega
 refine ⟨l[r.toNat], ?_, List.getElem_mem hi⟩
 unfold spec_l6Rd_of.f
 refine Ev.bind hr ?_
 refine ev_pos h0 (ev_pos hlt ?_)
 have : rdOf ByteArray.empty l r = l[r.toNat] := by
  unfold rdOf
  rw [List.getD_eq_getElem?_getD, List.getElem?_eq_getElem hi]
  rfl
 rw [this]
 exact evnow _
theorem text_l0_f (b : List Int) (hb : Bytes b) : ∀ (n : Nat) (s : ByteArray) (p : Int) (m : Nat), s.size + n ≤ 1000 → Rd p (m + n + 2) → ∃ (s' : ByteArray) (p' : Int), Ev (fun k => spec_l71Text.l0 k s n b p) (s', p') ∧ Rd p' m ∧ s'.size ≤ 1010
 | 0, s, p, m, hs, hp => by
  obtain ⟨r, hr, hR, _, _, _⟩ := pick_f b p 40 (m + 1) hb hp
  by_cases h0 : r = 0
  ·obtain ⟨u, hu, hm⟩ := of_f b (p + 1) m [(⟨#[101]⟩ : ByteArray), (⟨#[32]⟩ : ByteArray), (⟨#[97, 97, 97, 97]⟩ : ByteArray), (⟨#[39]⟩ : ByteArray)] hb hR (by simp) (by simp)
   have hz : u.size ≤ 4 := by
    simp only [List.mem_cons, List.not_mem_nil, or_false] at hm
    rcases hm with rfl | rfl | rfl | rfl <;> decide
   refine ⟨s ++ u, p + 1 + 1, ?_, ⟨by have := hR.1; omega, by have := hR.2; omega⟩, by rw [ByteArray.size_append]; omega⟩
   refine Ev.step (fun k => by simp only [spec_l71Text.l0]; rfl) ?_
   refine ev_neg (by omega) (Ev.bind hr (ev_pos h0 (Ev.bind hu (ev_pos (show s.size + u.size ≤ 9223372036854775807 by omega) (evnow _)))))
  ·refine ⟨s, p + 1, ?_, hR.less (by omega), by omega⟩
   refine Ev.step (fun k => by simp only [spec_l71Text.l0]; rfl) ?_
   exact ev_neg (by omega) (Ev.bind hr (ev_neg h0 (evnow _)))
 | n + 1, s, p, m, hs, hp => by
  obtain ⟨u, hu, hm⟩ := of_f b p (m + n + 2) [(⟨#[97]⟩ : ByteArray), (⟨#[98]⟩ : ByteArray), (⟨#[99]⟩ : ByteArray), (⟨#[100]⟩ : ByteArray)] hb (hp.less (by omega)) (by simp) (by simp)
  have hz : u.size = 1 := by
   simp only [List.mem_cons, List.not_mem_nil, or_false] at hm
   rcases hm with rfl | rfl | rfl | rfl <;> decide
  obtain ⟨s', p', h1, h2, h3⟩ := text_l0_f b hb n (s ++ u) (p + 1) m (by rw [ByteArray.size_append]; omega) ⟨by have := hp.1; omega, by have := hp.2; omega⟩
  refine ⟨s', p', ?_, h2, h3⟩
  refine Ev.step (fun k => by simp only [spec_l71Text.l0]; rfl) ?_
  refine ev_pos (by omega) (Ev.bind hu (ev_pos (show s.size + u.size ≤ 9223372036854775807 by omega) ?_))
  have hw : wrap64 (((n + 1 : Nat) : Int) - 1) = n := by rw [wrap_id _ (by omega) (by have := hs; omega)]; omega
  rw [hw]
  exact h1
theorem dtext_f (b : List Int) (p : Int) (m : Nat) (hb : Bytes b) (hp : Rd p (m + 6)) : ∃ (s : ByteArray) (p' : Int), Ev (fun k => spec_l71Text.f k b p) (s, p') ∧ Rd p' m ∧ s.size ≤ 1010 := by
 obtain ⟨r, hr, hR, h0, hlt, _⟩ := pick_f b p 4 (m + 5) hb hp
 have hlt := hlt (by omega)
 obtain ⟨n, rfl⟩ : ∃ n : Nat, r = n := ⟨r.toNat, by omega⟩
 obtain ⟨s', p', h1, h2, h3⟩ := text_l0_f b hb n ⟨#[]⟩ (p + 1) m (by show 0 + n ≤ 1000; omega) (hR.less (by omega))
 refine ⟨s', p', ?_, h2, h3⟩
 unfold spec_l71Text.f
 exact Ev.bind hr h1
theorem did_f (b : List Int) (p : Int) (m : Nat) (hb : Bytes b) (hp : Rd p (m + 2)) : ∃ r p' : Int, Ev (fun k => spec_l71Id.f k b p) (r, p') ∧ Rd p' m ∧ 11 ≤ r ∧ r ≤ 44 := by
 obtain ⟨x, hx, hR, x0, x1, _⟩ := pick_f b p 3 (m + 1) hb hp
 obtain ⟨y, hy, hR2, y0, y1, _⟩ := pick_f b (p + 1) 4 m hb hR
 have x1 := x1 (by omega)
 have y1 := y1 (by omega)
 have e : wrap64 (wrap64 (wrap64 (10 * wrap64 (1 + x)) + 1) + y) = 10 * (1 + x) + 1 + y := by
  rw [wrap_id (1 + x) (by omega) (by omega), wrap_id (10 * (1 + x)) (by omega) (by omega), wrap_id (10 * (1 + x) + 1) (by omega) (by omega), wrap_id _ (by omega) (by omega)]
 refine ⟨10 * (1 + x) + 1 + y, p + 1 + 1, ?_, hR2, by omega, by omega⟩
 unfold spec_l71Id.f
 refine Ev.bind hx (Ev.bind hy ?_)
 rw [e]
 exact evnow _
theorem i64_small {x : Int} (h0 : -1000 ≤ x) (h1 : x ≤ 1000) : I64 x := ⟨by omega, by omega⟩
theorem rd_mem (l : List Int) (r : Int) (h0 : 0 ≤ r) (h1 : r < l.length) : rd l r ∈ l := by
 have hi : r.toNat < l.length := by omega
 unfold rd
 rw [List.getD_eq_getElem?_getD, List.getElem?_eq_getElem hi]
 exact List.getElem_mem hi
theorem open_f (code : List Int) (h : ∀ x ∈ code, 0 ≤ x ∧ x ≤ 255) : ∃ b : List Int, spec_l6Open.f code = some (b, 0) ∧ Bytes b := by
 unfold spec_l6Open.f
 by_cases hl : (code.length : Int) > 2000
 ·refine ⟨code.take 2000, by rw [if_pos hl, if_pos (by omega)], by rw [List.length_take]; omega, fun x hx => h x (List.mem_of_mem_take hx)⟩
 ·exact ⟨code, by rw [if_neg hl], by omega, h⟩
theorem byte_of {x : Int} (h : (Lit.int .u8 x).wf = true) : 0 ≤ x ∧ x ≤ 255 := by
 simp only [Lit.wf, Bool.and_eq_true, decide_eq_true_eq] at h
 exact ⟨h.1, h.2⟩
def wfD (r : S37) : Prop := I64 r.f0 ∧ r.f2.size ≤ 2000
theorem do_wf (t : List S37) (B kd id up at_ : Int) (s : ByteArray) (hI : Inv t B) (hB0 : 0 ≤ B) (hB : B ≤ 1099511627776) (hk : kd = 1 ∨ kd = 2 ∨ kd = 3) (hid : id ≠ 3) (hid64 : I64 id) (hl : t.length ≤ 100000) (hs : s.size ≤ 2000) (hw : ∀ r ∈ t, wfD r) :
  ∃ t' : List S37, Ev (fun n => spec_l3Do.f n t kd id up at_ s) t' ∧ Inv t' (2 * B + 1) ∧ (t'.length ≤ t.length + 1 ∧ t.length ≤ t'.length) ∧ ∀ r ∈ t', wfD r := by
 obtain ⟨t', h1, h2, h3⟩ := do_f t B kd id up at_ s hI hB0 hB hk hid hid64 hl hs
 exact ⟨t', h1, h2, h3, h2.ids⟩
theorem mem_set_wf {t : List S37} (h : ∀ r ∈ t, wfD r) {k : Nat} {v : S37} (hv : wfD v) : ∀ r ∈ t.set k v, wfD r := fun r hr => by
 rcases List.mem_or_eq_of_mem_set hr with hr | rfl
 ·exact h r hr
 ·exact hv
theorem tree_l1 (b : List Int) (hb : Bytes b) : ∀ (n : Nat) (t : List S37) (i : Nat) (p : Int) (m : Nat), i + n = t.length → (∀ r ∈ t, wfD r) → 3 ≤ t.length → t.length ≤ 20 → Rd p (m + n + 3) →
  ∃ (t' : List S37) (p' : Int), Ev (fun k => spec_l71Tree.l1 k t i b p) (t', p') ∧ (∀ r ∈ t', wfD r) ∧ 2 ≤ t'.length ∧ t'.length ≤ 21 ∧ Rd p' m
 | 0, t, i, p, m, h, hw, h3, h20, hp => by
  obtain ⟨r, hr, hR, r0, r1, _⟩ := pick_f b p 24 (m + 2) hb hp
  obtain ⟨x, hx, hX, x0, x1, _⟩ := pick_f b (p + 1) (t.length : Int) (m + 1) hb hR
  obtain ⟨y, hy, hY, y0, y1, _⟩ := pick_f b (p + 1 + 1) 5 m hb hX
  have x1 := x1 (by omega)
  obtain ⟨j, rfl⟩ : ∃ n : Nat, x = n := ⟨x.toNat, by omega⟩
  have hj : j < t.length := by omega
  have hwj := hw _ (List.getElem_mem hj)
  by_cases e0 : r = 0
  ·refine ⟨t.set j ⟨t[j].f0, y, t[j].f2⟩, p + 1 + 1 + 1, ?_, mem_set_wf hw hwj, by rw [List.length_set]; omega, by rw [List.length_set]; omega, hY⟩
   refine Ev.step (fun n => by simp only [spec_l71Tree.l1]; rfl) ?_
   refine ev_neg (by omega) (Ev.bind hr (ev_pos e0 (Ev.bind hx (Ev.bind hy (ev_pos x0 (ev_pos x1 ?_))))))
   simp only [rdR_get t j hj, Int.toNat_natCast]
   exact evnow _
  ·by_cases e1 : r = 1
   ·refine ⟨t ++ [⟨t[j].f0, t[j].f1, t[j].f2⟩], p + 1 + 1, ?_, fun q hq => ?_, by simp; omega, by simp; omega, hX.less (by omega)⟩
    ·refine Ev.step (fun n => by simp only [spec_l71Tree.l1]; rfl) ?_
     refine ev_neg (by omega) (Ev.bind hr (ev_neg e0 (ev_pos e1 (Ev.bind hx (ev_pos x0 (ev_pos x1 (ev_pos (by omega) ?_)))))))
     simp only [rdR_get t j hj]
     exact evnow _
    ·rcases List.mem_append.1 hq with hq | hq
     ·exact hw q hq
     ·rw [List.mem_singleton.1 hq]; exact hwj
   ·by_cases e2 : r = 2
    ·refine ⟨t.drop (1 : Int).toNat, p + 1, ?_, fun q hq => hw q (List.mem_of_mem_drop hq), by rw [List.length_drop]; simp; omega, by rw [List.length_drop]; omega, hR.less (by omega)⟩
     refine Ev.step (fun n => by simp only [spec_l71Tree.l1]; rfl) ?_
     exact ev_neg (by omega) (Ev.bind hr (ev_neg e0 (ev_neg e1 (ev_pos e2 (ev_pos (by omega) (evnow _))))))
    ·refine ⟨t, p + 1, ?_, hw, by omega, by omega, hR.less (by omega)⟩
     refine Ev.step (fun n => by simp only [spec_l71Tree.l1]; rfl) ?_
     exact ev_neg (by omega) (Ev.bind hr (ev_neg e0 (ev_neg e1 (ev_neg e2 (evnow _)))))
 | n + 1, t, i, p, m, h, hw, h3, h20, hp => by
  have hi : i < t.length := by omega
  have hwi := hw _ (List.getElem_mem hi)
  have hsz : t[i].f2.size ≤ 2000 := hwi.2
  have ht := text_f t[i].f2 (by omega)
  have wi : wrap64 ((i : Int) + 1) = ((i + 1 : Nat) : Int) := by rw [wrap_id _ (by omega) (by omega)]; omega
  cases hB : textB t[i].f2 with
  | true =>
   rw [hB] at ht
   obtain ⟨t', p', h1, h2⟩ := tree_l1 b hb n t (i + 1) p m (by omega) hw h3 h20 (hp.less (by omega))
   refine ⟨t', p', ?_, h2⟩
   refine Ev.step (fun n => by simp only [spec_l71Tree.l1]; rfl) ?_
   refine ev_pos (by omega) (ev_pos (by omega) ?_)
   rw [rdR_get t i hi, wi]
   exact Ev.bind ht (ev_pos rfl h1)
  | false =>
   rw [hB] at ht
   obtain ⟨r, hr, hR, r0, r1, _⟩ := pick_f b p 2 (m + n + 3) hb (hp.less (by omega))
   by_cases e0 : r = 0
   ·obtain ⟨t', p', h1, h2⟩ := tree_l1 b hb n (t.set i ⟨t[i].f0, t[i].f1, ⟨#[]⟩⟩) (i + 1) (p + 1) m (by rw [List.length_set]; omega) (mem_set_wf hw ⟨hwi.1, by show (0 : Nat) ≤ 2000; omega⟩) (by rw [List.length_set]; omega) (by rw [List.length_set]; omega) hR
    refine ⟨t', p', ?_, h2⟩
    refine Ev.step (fun n => by simp only [spec_l71Tree.l1]; rfl) ?_
    refine ev_pos (by omega) (ev_pos (by omega) ?_)
    rw [rdR_get t i hi, wi, Int.toNat_natCast]
    exact Ev.bind ht (ev_neg (by decide) (Ev.bind hr (ev_pos e0 h1)))
   ·obtain ⟨t', p', h1, h2⟩ := tree_l1 b hb n t (i + 1) (p + 1) m (by omega) hw h3 h20 hR
    refine ⟨t', p', ?_, h2⟩
    refine Ev.step (fun n => by simp only [spec_l71Tree.l1]; rfl) ?_
    refine ev_pos (by omega) (ev_pos (by omega) ?_)
    rw [rdR_get t i hi, wi]
    exact Ev.bind ht (ev_neg (by decide) (Ev.bind hr (ev_neg e0 h1)))
theorem tree_j2 (b : List Int) (hb : Bytes b) (x4 : Int) (t : List S37) (B : Nat) (up p : Int) (m : Nat) (hI : Inv t B) (hB : B ≤ 100000) (hw : ∀ r ∈ t, wfD r) (hl : t.length ≤ 1000) (hp : Rd p (m + 10)) :
  ∃ (t' : List S37) (p' : Int), (∀ (r : List S37 × Int), Ev (fun k => spec_l71Tree.l0 k t' (wrap64 (x4 - 1)) b p') r → Ev (fun k => spec_l71Tree.j2 k t x4 up b p) r) ∧ Inv t' ((2 * B + 1 : Nat) : Int) ∧ (t'.length ≤ t.length + 1 ∧ t.length ≤ t'.length) ∧ (∀ r ∈ t', wfD r) ∧ Rd p' m := by
 obtain ⟨ks, hks, hkl, hkk⟩ := kids_f t up (by omega)
 have tail : ∀ (at_ q : Int), Rd q (m + 8) → ∃ (t' : List S37) (p' : Int), (∀ (f : Nat → Option (List S37 × Int)) (r : List S37 × Int), (∀ n, f n = ((spec_l71Id.f n b q).bind fun z => ((spec_l71Text.f n b z.2).bind fun y => ((spec_l3Do.f n t 1 z.1 up at_ y.1).bind fun t' => (spec_l71Tree.l0 n t' (wrap64 (x4 - 1)) b y.2))))) → Ev (fun k => spec_l71Tree.l0 k t' (wrap64 (x4 - 1)) b p') r → Ev f r) ∧ Inv t' ((2 * B + 1 : Nat) : Int) ∧ (t'.length ≤ t.length + 1 ∧ t.length ≤ t'.length) ∧ (∀ r ∈ t', wfD r) ∧ Rd p' m := by
  intro at_ q hq
  obtain ⟨z, p1, hz, hZ, z0, z1⟩ := did_f b q (m + 6) hb hq
  obtain ⟨y, p2, hy, hY, y0⟩ := dtext_f b p1 m hb hZ
  obtain ⟨t', ht', hI', hlt, hwt⟩ := do_wf t B 1 z up at_ y hI (by omega) (by omega) (Or.inl rfl) (by omega) (i64_small (by omega) (by omega)) (by omega) (by omega) hw
  exact ⟨t', p2, fun f r hf h => Ev.congr hf (Ev.bind hz (Ev.bind hy (Ev.bind ht' h))), hI'.more (by omega), hlt, hwt, hY⟩
 by_cases hz : (ks.length : Int) > 0
 ·obtain ⟨x, hx, hX, x0, x1, _⟩ := pick_f b p 2 (m + 9) hb hp
  by_cases e0 : x = 0
  ·obtain ⟨y, hy, hY, y0, y1, _⟩ := pick_f b (p + 1) (ks.length : Int) (m + 8) hb hX
   have y1 := y1 (by omega)
   obtain ⟨t', p', h1, h2⟩ := tail (rd ks y) (p + 1 + 1) hY
   refine ⟨t', p', fun r hr => ?_, h2⟩
   refine Ev.step (fun n => by simp only [spec_l71Tree.j2]; rfl) ?_
   refine Ev.bind hks (ev_pos hz (Ev.bind hx ?_))
   refine Ev.step (fun n => by simp only [spec_l71Tree.j3]; rfl) ?_
   refine ev_pos (by simp [e0]) (Ev.bind hy (ev_pos y0 (ev_pos y1 ?_)))
   exact h1 _ r (fun n => rfl) hr
  ·obtain ⟨t', p', h1, h2⟩ := tail 0 (p + 1) (hX.less (by omega))
   refine ⟨t', p', fun r hr => ?_, h2⟩
   refine Ev.step (fun n => by simp only [spec_l71Tree.j2]; rfl) ?_
   refine Ev.bind hks (ev_pos hz (Ev.bind hx ?_))
   refine Ev.step (fun n => by simp only [spec_l71Tree.j3]; rfl) ?_
   refine ev_neg (by simp [e0]) ?_
   exact h1 _ r (fun n => rfl) hr
 ·obtain ⟨t', p', h1, h2⟩ := tail 0 p (hp.less (by omega))
  refine ⟨t', p', fun r hr => ?_, h2⟩
  refine Ev.step (fun n => by simp only [spec_l71Tree.j2]; rfl) ?_
  refine Ev.bind hks (ev_neg hz ?_)
  refine Ev.step (fun n => by simp only [spec_l71Tree.j3]; rfl) ?_
  refine ev_neg (by decide) ?_
  exact h1 _ r (fun n => rfl) hr
theorem tree_l0 (b : List Int) (hb : Bytes b) : ∀ (n : Nat) (t : List S37) (B : Nat) (p : Int) (m : Nat), Inv t B → (B + 1) * 2 ^ n ≤ 16384 → (∀ r ∈ t, wfD r) → 3 ≤ t.length → t.length + n ≤ 20 → Rd p (m + 12 * n + 30) →
  ∃ (t' : List S37) (p' : Int), Ev (fun k => spec_l71Tree.l0 k t n b p) (t', p') ∧ (∀ r ∈ t', wfD r) ∧ 2 ≤ t'.length ∧ t'.length ≤ 21 ∧ Rd p' m
 | 0, t, B, p, m, hI, hB, hw, h3, hl, hp => by
  obtain ⟨t', p', h1, h2⟩ := tree_l1 b hb t.length t 0 p m (by omega) hw h3 (by omega) (hp.less (by omega))
  refine ⟨t', p', ?_, h2⟩
  refine Ev.step (fun n => by simp only [spec_l71Tree.l0]; rfl) ?_
  exact ev_neg (by omega) h1
 | n + 1, t, B, p, m, hI, hB, hw, h3, hl, hp => by
  have hB2 : B + 1 ≤ 16384 := Nat.le_trans (Nat.le_mul_of_pos_right _ (Nat.two_pow_pos _)) hB
  have hB3 : (2 * B + 1 + 1) * 2 ^ n ≤ 16384 := by
   have e : (2 * B + 1 + 1) * 2 ^ n = (B + 1) * 2 ^ (n + 1) := by rw [Nat.pow_succ, show 2 * B + 1 + 1 = (B + 1) * 2 by omega, Nat.mul_assoc, Nat.mul_comm 2]
   rw [e]; exact hB
  have wn : wrap64 (((n + 1 : Nat) : Int) - 1) = n := by rw [wrap_id _ (by omega) (by omega)]; omega
  have go : ∀ (up q : Int), Rd q (m + 12 * n + 40) → ∃ (t' : List S37) (p' : Int), Ev (fun k => spec_l71Tree.j2 k t (n + 1 : Nat) up b q) (t', p') ∧ (∀ r ∈ t', wfD r) ∧ 2 ≤ t'.length ∧ t'.length ≤ 21 ∧ Rd p' m := by
   intro up q hq
   obtain ⟨t1, p1, h1, h2, h3', h4, h5⟩ := tree_j2 b hb (n + 1 : Nat) t B up q (m + 12 * n + 30) hI (by omega) hw (by omega) hq
   obtain ⟨t', p', g1, g2⟩ := tree_l0 b hb n t1 (2 * B + 1) p1 m h2 hB3 h4 (by omega) (by omega) h5
   exact ⟨t', p', h1 _ (by rw [wn]; exact g1), g2⟩
  by_cases e3 : (t.length : Int) > 3
  ·obtain ⟨x, hx, hX, x0, x1, _⟩ := pick_f b p 3 (m + 12 * n + 41) hb (hp.less (by omega))
   by_cases e0 : x > 0
   ·obtain ⟨y, hy, hY, y0, y1, _⟩ := pick_f b (p + 1) (t.length : Int) (m + 12 * n + 40) hb hX
    have y1 := y1 (by omega)
    obtain ⟨t', p', g1, g2⟩ := go (rd_T37 t y).f0 (p + 1 + 1) hY
    refine ⟨t', p', ?_, g2⟩
    refine Ev.step (fun n => by simp only [spec_l71Tree.l0]; rfl) ?_
    refine ev_pos (by omega) (ev_pos e3 (Ev.bind hx ?_))
    refine Ev.step (fun n => by simp only [spec_l71Tree.j1]; rfl) ?_
    exact ev_pos (by simpa using e0) (Ev.bind hy (ev_pos y0 (ev_pos y1 g1)))
   ·obtain ⟨t', p', g1, g2⟩ := go 1 (p + 1) (hX.less (by omega))
    refine ⟨t', p', ?_, g2⟩
    refine Ev.step (fun n => by simp only [spec_l71Tree.l0]; rfl) ?_
    refine ev_pos (by omega) (ev_pos e3 (Ev.bind hx ?_))
    refine Ev.step (fun n => by simp only [spec_l71Tree.j1]; rfl) ?_
    exact ev_neg (by simpa using e0) g1
  ·obtain ⟨t', p', g1, g2⟩ := go 1 p (hp.less (by omega))
   refine ⟨t', p', ?_, g2⟩
   refine Ev.step (fun n => by simp only [spec_l71Tree.l0]; rfl) ?_
   refine ev_pos (by omega) (ev_neg e3 ?_)
   refine Ev.step (fun n => by simp only [spec_l71Tree.j1]; rfl) ?_
   exact ev_neg (by decide) g1
theorem tree71_f (b : List Int) (hb : Bytes b) (p : Int) (m : Nat) (hp : Rd p (m + 200)) : ∃ (t : List S37) (p' : Int), Ev (fun k => spec_l71Tree.f k b p) (t, p') ∧ (∀ r ∈ t, wfD r) ∧ 2 ≤ t.length ∧ t.length ≤ 21 ∧ Rd p' m := by
 obtain ⟨r, hr, hR, r0, r1, _⟩ := pick_f b p 11 (m + 199) hb hp
 have r1 := r1 (by omega)
 obtain ⟨n, rfl⟩ : ∃ n : Nat, r = n := ⟨r.toNat, by omega⟩
 have hI : Inv ([⟨1, 0, ⟨#[]⟩⟩, ⟨2, 0, ⟨#[]⟩⟩, ⟨3, 0, ⟨#[]⟩⟩] : List S37) ((0 : Nat) : Int) := by
  refine ⟨fun x hx => ?_, fun x hx h3 => ?_, ⟨⟨3, 0, ⟨#[]⟩⟩, by simp, rfl⟩, fun x hx => ?_⟩
  all_goals simp only [List.mem_cons, List.not_mem_nil, or_false] at hx
  ·rcases hx with rfl | rfl | rfl <;> exact ⟨Int.le_refl _, Int.le_refl _⟩
  ·rcases hx with rfl | rfl | rfl <;> rfl
  ·rcases hx with rfl | rfl | rfl <;> exact ⟨i64_small (by decide) (by decide), by decide⟩
 have hwf : ∀ r ∈ ([⟨1, 0, ⟨#[]⟩⟩, ⟨2, 0, ⟨#[]⟩⟩, ⟨3, 0, ⟨#[]⟩⟩] : List S37), wfD r := fun x hx => by
  simp only [List.mem_cons, List.not_mem_nil, or_false] at hx
  rcases hx with rfl | rfl | rfl <;> exact ⟨i64_small (by decide) (by decide), by decide⟩
 have hpow : (0 + 1) * 2 ^ n ≤ 16384 := by
  have : 2 ^ n ≤ 2 ^ 14 := Nat.pow_le_pow_right (by decide) (by omega)
  omega
 obtain ⟨t, p', h1, h2⟩ := tree_l0 b hb n _ 0 (p + 1) m hI hpow hwf (by simp) (by simp; omega) (hR.less (by omega))
 refine ⟨t, p', ?_, h2⟩
 unfold spec_l71Tree.f spec_TreeNew.f
 simp only [Option.bind_some]
 exact Ev.bind hr h1
theorem row_l0 (b : List Int) (hb : Bytes b) : ∀ (n : Nat) (t : List S37) (i : Nat) (p : Int) (m : Nat), i + n = 6 → (∀ r ∈ t, wfD r) → 2 ≤ t.length → t.length ≤ 21 → Rd p (m + 202 * n + 10) →
  ∃ (t' : List S37) (id p' : Int), Ev (fun k => spec_l71Row.l0 k t i b p) (t', id, p') ∧ (∀ r ∈ t', wfD r) ∧ 2 ≤ t'.length ∧ t'.length ≤ 21 ∧ I64 id ∧ Rd p' m := by
 intro n
 have last : ∀ (t : List S37) (i : Nat) (p : Int) (m : Nat), (∀ r ∈ t, wfD r) → 2 ≤ t.length → t.length ≤ 21 → Rd p (m + 3) → ∃ (t' : List S37) (id p' : Int), Ev (fun k => spec_l71Row.j1 k t i false b p) (t', id, p') ∧ (∀ r ∈ t', wfD r) ∧ 2 ≤ t'.length ∧ t'.length ≤ 21 ∧ I64 id ∧ Rd p' m := by
  intro t i p m hw h2 h21 hp
  obtain ⟨z, p1, hz, hZ, z0, z1⟩ := did_f b p (m + 1) hb hp
  obtain ⟨y, hy, hY, y0, y1, _⟩ := pick_f b p1 5 m hb hZ
  have y1 := y1 (by omega)
  refine ⟨t, rd [1, 2, 3, z, 0] y, p1 + 1, ?_, hw, h2, h21, ?_, hY⟩
  ·refine Ev.step (fun n => by simp only [spec_l71Row.j1]; rfl) ?_
   refine ev_neg (by decide) (Ev.bind hz ?_)
   simp only [Option.bind_some]
   exact Ev.bind hy (ev_pos y0 (ev_pos (by simpa using y1) (evnow _)))
  ·have := rd_mem ([1, 2, 3, z, 0] : List Int) y y0 (by simpa using y1)
   simp only [List.mem_cons, List.not_mem_nil, or_false] at this
   exact i64_small (by omega) (by omega)
 induction n with
 | zero =>
  intro t i p m h hw h2 h21 hp
  obtain ⟨t', id, p', g1, g2⟩ := last t i p m hw h2 h21 (hp.less (by omega))
  refine ⟨t', id, p', ?_, g2⟩
  refine Ev.step (fun n => by simp only [spec_l71Row.l0]; rfl) ?_
  exact ev_neg (by omega) g1
 | succ n ih =>
  intro t i p m h hw h2 h21 hp
  obtain ⟨x, hx, hX, x0, x1, _⟩ := pick_f b p 12 (m + 202 * n + 211) hb (hp.less (by omega))
  by_cases e0 : x > 0
  ·obtain ⟨y, hy, hY, y0, y1, _⟩ := pick_f b (p + 1) (t.length : Int) (m + 202 * n + 210) hb hX
   have y1 := y1 (by omega)
   obtain ⟨j, rfl⟩ : ∃ n : Nat, y = n := ⟨y.toNat, by omega⟩
   have hj : j < t.length := by omega
   have hwj := hw _ (List.getElem_mem hj)
   have wi : wrap64 ((i : Int) + 1) = ((i + 1 : Nat) : Int) := by rw [wrap_id _ (by omega) (by omega)]; omega
   cases hm : madeB t[j].f0 with
   | true =>
    refine ⟨t, t[j].f0, p + 1 + 1, ?_, hw, h2, h21, hwj.1, hY.less (by omega)⟩
    refine Ev.step (fun n => by simp only [spec_l71Row.l0]; rfl) ?_
    refine ev_pos (by omega) (Ev.bind hx ?_)
    refine Ev.step (fun n => by simp only [spec_l71Row.j1]; rfl) ?_
    refine ev_pos (by simpa using e0) (Ev.bind hy (ev_pos y0 (ev_pos y1 ?_)))
    rw [rdR_get t j hj, made_f _ hwj.1, hm]
    simp only [Option.bind_some]
    exact ev_pos (by simp) (evnow _)
   | false =>
    by_cases e3 : (i : Int) = 3
    ·obtain ⟨t1, p1, g1, g2, g3, g4, g5⟩ := tree71_f b hb (p + 1 + 1) (m + 202 * n + 10) hY
     obtain ⟨t', id, p', k1, k2⟩ := ih t1 (i + 1) p1 m (by omega) g2 g3 g4 g5
     refine ⟨t', id, p', ?_, k2⟩
     refine Ev.step (fun n => by simp only [spec_l71Row.l0]; rfl) ?_
     refine ev_pos (by omega) (Ev.bind hx ?_)
     refine Ev.step (fun n => by simp only [spec_l71Row.j1]; rfl) ?_
     refine ev_pos (by simpa using e0) (Ev.bind hy (ev_pos y0 (ev_pos y1 ?_)))
     rw [rdR_get t j hj, made_f _ hwj.1, hm, wi]
     simp only [Option.bind_some]
     exact ev_neg (by decide) (ev_pos e3 (Ev.bind g1 k1))
    ·obtain ⟨t', id, p', k1, k2⟩ := ih t (i + 1) (p + 1 + 1) m (by omega) hw h2 h21 (hY.less (by omega))
     refine ⟨t', id, p', ?_, k2⟩
     refine Ev.step (fun n => by simp only [spec_l71Row.l0]; rfl) ?_
     refine ev_pos (by omega) (Ev.bind hx ?_)
     refine Ev.step (fun n => by simp only [spec_l71Row.j1]; rfl) ?_
     refine ev_pos (by simpa using e0) (Ev.bind hy (ev_pos y0 (ev_pos y1 ?_)))
     rw [rdR_get t j hj, made_f _ hwj.1, hm, wi]
     simp only [Option.bind_some]
     exact ev_neg (by decide) (ev_neg e3 k1)
  ·obtain ⟨t', id, p', g1, g2⟩ := last t i (p + 1) m hw h2 h21 (hX.less (by omega))
   refine ⟨t', id, p', ?_, g2⟩
   refine Ev.step (fun n => by simp only [spec_l71Row.l0]; rfl) ?_
   refine ev_pos (by omega) (Ev.bind hx ?_)
   rw [decide_eq_false e0]
   exact g1
theorem row71_f (b : List Int) (hb : Bytes b) (p : Int) (m : Nat) (hp : Rd p (m + 1500)) : ∃ (t : List S37) (id p' : Int), Ev (fun k => spec_l71Row.f k b p) (t, id, p') ∧ (∀ r ∈ t, wfD r) ∧ 2 ≤ t.length ∧ t.length ≤ 21 ∧ I64 id ∧ Rd p' m := by
 obtain ⟨t, p1, h1, h2, h3, h4, h5⟩ := tree71_f b hb p (m + 1300) hp
 obtain ⟨t', id, p', g1, g2⟩ := row_l0 b hb 6 t 0 p1 m (by omega) h2 h3 h4 (h5.less (by omega))
 exact ⟨t', id, p', Ev.bind h1 g1, g2⟩
end Go.Proofs.YtlkheeegkifblaaDoor.PL
namespace Go.Proofs.YtlkheeegkifblaaDoor.PL
open Go.RowKit Go.Proofs.YtlkheeegkifblaaDoor.P Go.Proofs.YtlkheeegkifblaaDoorW.PrintWords Go.Proofs.YtlkheeegkifblaaDoorW.PrintLast Go.Proofs.YtlkheeegkifblaaDoor.FP
theorem doF_len {G : Fo} (g : Good G) (kd : Int) (i : Nat) (hit : i ∉ G.tops) (up at_ : Int) (s : ByteArray) : (doF G kd (i : Int) up at_ s).ids.length ≤ 2000 := by
 have hg := g.len
 unfold doF
 rcases fndF_cases g i with ⟨hi, hf⟩ | ⟨hi, hf⟩
 ·have hi0 := g.ne0 i hi
  rw [hf, if_neg hi0, if_neg hi0, if_neg hi0]
  split
  ·rw [setF_ids]; omega
  ·split
   ·omega
   ·split
    ·omega
    ·rename_i hu
     obtain ⟨h, hr⟩ := reptop_ex G g.nd g.ne0
     have hp := near_del hr g.nd g.three hi hit (id := (i : Int)) (up := up) (at_ := at_) rfl hu
     have hperm := ids_del i G g.nd hi
     obtain ⟨n1, n2⟩ := List.nodup_cons.1 (hperm.nodup_iff.1 g.nd)
     obtain ⟨n3, n4, n5⟩ := List.nodup_append.1 n2
     have e1 := (putF_ids (p := nearF G (i : Int) up at_) (i := i) (t := txtF i G) (s := sub i G) n4 hp.1 (hp.2.imp id And.left)).length_eq
     have e2 := hperm.length_eq
     simp only [List.length_cons, List.length_append] at e1 e2
     omega
 ·rw [hf, if_pos rfl, if_pos rfl, if_pos rfl]
  have hp := near_ok (G := G) (tops_ids g.three) (i : Int) up at_
  have e1 := (putF_ids (p := nearF G (i : Int) up at_) (i := (i : Int).toNat) (t := s) (s := .nil) g.nd hp.up (hp.at_.imp id And.left)).length_eq
  simp only [List.length_cons, List.length_append, Fo.ids, List.length_nil] at e1
  split
  ·omega
  ·split <;> omega
theorem opDoR_len (l : List S37) (k i u a : Int) (s : ByteArray) : (opDoR l k i u a s).length ≤ 2000 := by
 unfold opDoR
 split
 ·rename_i ho
  split
  ·rename_i ht
   obtain ⟨m, rfl, h4, h37⟩ := made_num (opB_made k i u a s ho)
   have g := good_of ht
   rw [fl_len]
   exact doF_len g k m (by rw [g.tops]; simp; omega) u a s
  ·simp
 ·simp
end Go.Proofs.YtlkheeegkifblaaDoor.PL
namespace Go.Proofs.YtlkheeegkifblaaDoor.P
open Go.RowKit Go.Proofs.YtlkheeegkifblaaDoorW.PrintWords Go.Proofs.YtlkheeegkifblaaDoorW.PrintLast
attribute [local go_sem high] eqA37
end Go.Proofs.YtlkheeegkifblaaDoor.P
namespace Go.Proofs.YtlkheeegkifblaaDoor.PL
open Go.RowKit Go.Proofs.YtlkheeegkifblaaDoor.P Go.Proofs.YtlkheeegkifblaaDoorW.PrintWords Go.Proofs.YtlkheeegkifblaaDoorW.PrintLast Go.Proofs.YtlkheeegkifblaaDoor.FP
theorem le40 (l : List S37) (k i u a : Int) (s : ByteArray) : (opDoR l k i u a s).length ≤ 1099511627776 := by have := opDoR_len l k i u a s; omega
theorem pure_of {f : Nat → Option Bool} (h : Ev f true) : ∃ k, f k = some true := by
 obtain ⟨K, hK⟩ := h
 exact ⟨K, hK K (Nat.le_refl K)⟩
theorem wrapM (i : Int) (h0 : 0 ≤ i) (h : i ≤ 4611686018427387904) : wrap64 (i - 1) = i - 1 := by unfold wrap64; omega
theorem take_rev (t : List S37) (i : Nat) (hi : i < t.length) : (t.take (i + 1)).reverse = t[i] :: (t.take i).reverse := by
 rw [List.take_succ_eq_append_getElem hi, List.reverse_append]; rfl
theorem up_l0 (t : List S37) (a : Nat) (ha : a < t.length) (hl : t.length ≤ 1000000) : ∀ i, i ≤ t.length → Ev (fun k => spec_l2Up.l0 k t a ((i : Int) - 1)) ((upO t[a].f1 (t.take i).reverse).getD 0)
 | 0, _ => by
  refine Ev.step (f := fun _ => some 0) (fun k => ?_) (evnow _)
  simp only [spec_l2Up.l0]; rw [if_neg (by omega)]
 | i + 1, h => by
  have hi : i < t.length := by omega
  rw [take_rev t i hi]
  unfold upO
  rw [show ((i + 1 : Nat) : Int) - 1 = i by omega]
  by_cases hq : t[i].f1 < t[a].f1
  ·rw [if_pos hq]
   refine Ev.step (f := fun _ => some t[i].f0) (fun k => ?_) (evnow _)
   simp only [spec_l2Up.l0]
   rw [if_pos (by omega), if_pos (by omega), if_pos (by omega), if_pos (by omega), if_pos (by omega), rdR_get t i hi, rdR_get t a ha, if_pos hq]
  ·rw [if_neg hq]
   refine Ev.step (fun k => ?_) (up_l0 t a ha hl i (by omega))
   simp only [spec_l2Up.l0]
   rw [if_pos (by omega), if_pos (by omega), if_pos (by omega), if_pos (by omega), if_pos (by omega), rdR_get t i hi, rdR_get t a ha, if_neg hq, wrapM i (by omega) (by omega)]
theorem spot_take {x d : Nat} {G : Fo} {pre post : List S37} (s : Spot x d G pre post) : (G.fl d).take pre.length = pre := by rw [s.all]; exact List.take_left
theorem up_x {G : Fo} (g : Good G) {x : Nat} (hx : x ∈ G.ids) {pre post : List S37} (s : Spot x 0 G pre post) : Ev (fun k => spec_l2Up.f k (G.fl 0) (pre.length : Int)) (par x 0 G : Int) := by
 have hl := spot_len s
 have ha : pre.length < (G.fl 0).length := by omega
 have hn : (G.fl 0).length ≤ 1000 := by rw [fl_len]; exact g.len
 have := up_l0 (G.fl 0) pre.length ha (by omega) pre.length (by omega)
 rw [spot_get s ha, spot_take s] at this
 have hp := spot_pre g.nd hx s
 have hu := up_pre x G 0 0 g.nd hx
 rw [← hp] at hu
 simp only at this
 rw [hu] at this
 unfold spec_l2Up.f
 rw [wrapM _ (by omega) (by omega)]
 refine Eq.mp (congrArg (Ev _) ?_) this
 by_cases ht : x ∈ G.tops
 ·rw [if_pos ht, par_top0 (G := G) g.nd ht]; rfl
 ·rw [if_neg ht]; rfl
theorem found {l : List S37} (ht : treeB l = true) {id : Int} (h : fndF (toFo l) id ≠ 0) : ∃ m : Nat, id = (m : Int) ∧ fndF (toFo l) id = m ∧ m ∈ (toFo l).ids ∧ ∃ pre post, Spot m 0 (toFo l) pre post ∧ atI l id = (pre.length : Int) := by
 obtain ⟨h1, h2⟩ := fndF_mem h
 obtain ⟨pre, post, s⟩ := spot (fndF (toFo l) id) (toFo l) 0 (val_of ht).nd h1
 refine ⟨fndF (toFo l) id, h2.symm, rfl, h1, pre, post, s, ?_⟩
 have := spot_at s
 rw [toFo_fl ht, h2] at this
 exact this
theorem lost {l : List S37} (ht : treeB l = true) {id : Int} (h : fndF (toFo l) id = 0) : atI l id = -1 := by
 have := at_fnd0 h (val_of ht).ne0
 rwa [toFo_fl ht] at this
theorem stup_f (l : List S37) (id : Int) (hl : l.length ≤ 1000000) (hw : ∀ r ∈ l, wfR r) : Ev (fun k => spec_TreeUp.f k l id) (upR l id) := by
 unfold spec_TreeUp.f upR
 refine Ev.bind (at_f l id (by omega)) (Ev.bind (stree_f l (by omega) hw) ?_)
 cases ht : treeB l with
 | false => rw [if_neg (by decide)]; exact ev_neg (by decide) (evnow _)
 | true =>
  rw [if_pos rfl]
  refine ev_pos rfl ?_
  by_cases h0 : fndF (toFo l) id = 0
  ·rw [if_pos h0, lost ht h0]; exact ev_pos (by omega) (evnow _)
  ·rw [if_neg h0]
   obtain ⟨m, rfl, e, hm, pre, post, s, ha⟩ := found ht h0
   rw [ha, e]
   have := up_x (val_of ht).good hm s
   rw [toFo_fl ht] at this
   exact ev_neg (by omega) (Ev.bind this (evnow _))
theorem par_made {l : List S37} (ht : treeB l = true) {m : Nat} (hm : m ∈ (toFo l).ids) : (rootB (m : Int) = true ∧ m ∈ (toFo l).tops ∧ par m 0 (toFo l) = 0) ∨ (rootB (m : Int) = false ∧ madeB (m : Int) = true ∧ m ∉ (toFo l).tops ∧ par m 0 (toFo l) ≠ 0 ∧ par m 0 (toFo l) ∈ (toFo l).ids) := by
 have v := val_of ht
 by_cases h4 : 4 ≤ m
 ·right
  have hmd := (made_of_ok (v.ok m hm) h4).1
  have htop := v.top hmd
  have hp := (back_top (v.ne0 m hm) (toFo l) v.nd v.ne0 hm htop).up
  exact ⟨made_not_root hmd, hmd, htop, v.ne0 _ hp, hp⟩
 ·left
  have h0 := v.ne0 m hm
  have hc : m = 1 ∨ m = 2 ∨ m = 3 := by omega
  have htop : m ∈ (toFo l).tops := by rw [v.tops]; simp; omega
  refine ⟨?_, htop, par_top0 (G := toFo l) v.nd htop⟩
  rcases hc with rfl | rfl | rfl <;> decide
theorem id_small {l : List S37} (ht : treeB l = true) {m : Nat} (hm : m ∈ (toFo l).ids) : m < 37 := (okT_ne ((val_of ht).ok m hm)).2
theorem skeyOut_f (l : List S37) (id : Int) (hl : l.length ≤ 1000000) (hw : ∀ r ∈ l, wfR r) (hid : I64 id) : Ev (fun k => spec_KeyOut.f k l id) (keyR keyOutF l id) := by
 have no : ∀ (a : Int), Ev (fun k => spec_KeyOut.j0 k l id a true) kNo := fun a => by
  refine Ev.step (f := fun _ => some kNo) (fun k => ?_) (evnow _)
  simp only [spec_KeyOut.j0]; rfl
 unfold spec_KeyOut.f
 refine Ev.bind (stup_f l id hl hw) ?_
 cases ht : treeB l with
 | false =>
  unfold upR keyR
  rw [ht, if_neg (by decide), if_neg (by decide)]; exact ev_neg (by decide) (no _)
 | true =>
  have e1 : upR l id = if fndF (toFo l) id = 0 then (0, false) else ((par (fndF (toFo l) id) 0 (toFo l) : Int), true) := by unfold upR; rw [ht, if_pos rfl]
  unfold keyR
  rw [if_pos ht, e1]
  by_cases h0 : fndF (toFo l) id = 0
  ·rw [if_pos h0, if_pos h0, ite_self]; exact ev_neg (by decide) (no _)
  ·rw [if_neg h0, if_neg h0]
   obtain ⟨m, rfl, e, hm, pre, post, s, ha⟩ := found ht h0
   rw [e]
   refine ev_pos rfl ?_
   rw [made_f _ hid]
   simp only [Option.bind_some]
   rcases par_made ht hm with ⟨h1, h2, h3⟩ | ⟨h1, h2, h3, h4, h5⟩
   ·have h6 : madeB (m : Int) = false := by cases h : madeB (m : Int); rfl; rw [made_not_root h] at h1; cases h1
    rw [h6, if_neg (by decide)]
    exact ev_neg (by decide) (no _)
   ·rw [h2, if_pos rfl]
    refine ev_pos rfl ?_
    rw [made_f _ (show I64 _ by have := id_small ht h5; unfold I64; omega)]
    simp only [Option.bind_some]
    unfold keyOutF
    rcases par_made ht h5 with ⟨g1, g2, g3⟩ | ⟨g1, g2, g3, g4, g5⟩
    ·have g6 : madeB ((par m 0 (toFo l) : Nat) : Int) = false := by cases h : madeB ((par m 0 (toFo l) : Nat) : Int); rfl; rw [made_not_root h] at g1; cases g1
     rw [g6, if_pos g1]
     exact no _
    ·rw [g2, if_neg (by rw [g1]; decide)]
     refine Ev.step (fun k => by simp only [spec_KeyOut.j0]; rfl) ?_
     refine ev_neg (by decide) (Ev.bind (stup_f l _ hl hw) ?_)
     have e2 : upR l ((par m 0 (toFo l) : Nat) : Int) = ((par (par m 0 (toFo l)) 0 (toFo l) : Int), true) := by
      unfold upR; rw [ht, if_pos rfl, fnd_nat h5, if_neg h4]
     rw [e2]
     exact evnow _
end Go.Proofs.YtlkheeegkifblaaDoor.PL
namespace Go.Proofs.YtlkheeegkifblaaDoor.PL
open Go.Proofs.YtlkheeegkifblaaDoor.P
structure Line (r : S37) : Prop where
 id0 : 0 ≤ r.f0
 id1 : r.f0 < 100
 deep : 0 ≤ r.f1
 txt : ∀ x ∈ r.f2.data.toList, 97 ≤ x.toNat ∧ x.toNat ≤ 100
end Go.Proofs.YtlkheeegkifblaaDoor.PL
namespace Go.Proofs.YtlkheeegkifblaaDoor.P
open Go.RowKit Go.Shelf Go.Proofs.YtlkheeegkifblaaDoorW.PrintWords Go.Proofs.YtlkheeegkifblaaDoorW.PrintLast Go.Proofs.YtlkheeegkifblaaDoorW.PrintMore Go.Proofs.YtlkheeegkifblaaDoor.PL Go.Proofs.YtlkheeegkifblaaDoor.FP
attribute [local go_sem] Oper.semAt_some

open Go.Maps (Keyed)
attribute [local go_sem] Oper.semAt_some

attribute [local go_sem] Oper.semAt_some

theorem At.mem {w : World} {n0 F : Nat} {A : Nat → Option Nat} {h : Nat → Nd} {G : Fo} (t : At w n0 F A h G) {i b : Nat} (hi : A i = some b) : i ∈ G.ids := (t.dom i).1 (by rw [hi]; simp)
attribute [local go_sem] Oper.semAt_some

attribute [local go_sem] Oper.semAt_some

attribute [local go_sem] Oper.semAt_some

end Go.Proofs.YtlkheeegkifblaaDoor.P
namespace Go.Proofs.YtlkheeegkifblaaDoor.PL
open Go.RowKit Go.Proofs.YtlkheeegkifblaaDoor.P Go.Proofs.YtlkheeegkifblaaDoorW.PrintWords Go.Proofs.YtlkheeegkifblaaDoorW.PrintLast Go.Proofs.YtlkheeegkifblaaDoor.FP
theorem textFrom_all (s : ByteArray) : ∀ (n i : Nat), textFrom s i n = true → ∀ j, i ≤ j → j < i + n → 97 ≤ bt s j ∧ bt s j ≤ 100
 | 0, i, _, j, h1, h2 => absurd h2 (by omega)
 | n + 1, i, h, j, h1, h2 => by
  simp only [textFrom, Bool.and_eq_true, decide_eq_true_eq] at h
  by_cases e : j = i
  ·subst e; exact h.1
  ·exact textFrom_all s n (i + 1) h.2 j (by omega) (by omega)
theorem textB_bytes {s : ByteArray} (h : textB s = true) : s.size ≤ 4 ∧ ∀ x ∈ s.data.toList, 97 ≤ x.toNat ∧ x.toNat ≤ 100 := by
 unfold textB at h
 rw [Bool.and_eq_true, decide_eq_true_eq] at h
 refine ⟨h.2, fun x hx => ?_⟩
 obtain ⟨j, hj, e⟩ := List.mem_iff_getElem.1 hx
 have hj2 : j < s.size := by show j < s.data.size; simpa using hj
 have := textFrom_all s s.size 0 h.1 j (by omega) (by omega)
 unfold bt at this
 rw [Int.toNat_natCast, dif_pos hj2] at this
 have e2 : s[j]'hj2 = x := by rw [← e]; simp; rfl
 rw [e2] at this
 omega
theorem line_of {r : S37} (h : rowB r = true) : Line r ∧ r.f1 ≤ 100 ∧ r.f2.size ≤ 100 := by
 unfold rowB at h
 split at h
 ·rename_i hr
  rw [Bool.and_eq_true, decide_eq_true_eq] at h
  unfold rootB at hr
  rw [Bool.and_eq_true, decide_eq_true_eq, decide_eq_true_eq] at hr
  have e : r.f2.toList = [] := by simpa using h.2
  have e2 : r.f2.data.toList = [] := by rw [← Go.ByteArray.toList_eq]; exact e
  have e3 : r.f2.size = 0 := by show r.f2.data.size = 0; rw [← Array.length_toList, e2]; rfl
  exact ⟨⟨by omega, by omega, by omega, fun x hx => by rw [e2] at hx; cases hx⟩, by omega, by omega⟩
 ·simp only [Bool.and_eq_true, decide_eq_true_eq] at h
  obtain ⟨h1, h2, h3, h4⟩ := h
  obtain ⟨h5, h6⟩ := made_small _ h1
  obtain ⟨h7, h8⟩ := textB_bytes h4
  exact ⟨⟨h5, by omega, by omega, h8⟩, by omega, by omega⟩
structure Dk (t : List S37) (id : Int) : Prop where
 wf : ∀ r ∈ t, wfD r
 few : t.length ≤ 21
 id64 : I64 id
theorem Dk.wfR {t : List S37} {id : Int} (d : Dk t id) : ∀ r ∈ t, wfR r := fun r hr => ⟨(d.wf r hr).1, by have := (d.wf r hr).2; omega⟩
theorem Dk.tree {t : List S37} {id : Int} (d : Dk t id) : Ev (fun n => spec_TreeOk.f n t) (treeB t) := stree_f t (by have := d.few; omega) d.wfR
theorem row_dk (b : List Int) (hb : Bytes b) (p : Int) (m : Nat) (hp : Rd p (m + 1500)) : ∃ (t : List S37) (id p' : Int), Ev (fun k => spec_l71Row.f k b p) (t, id, p') ∧ Dk t id ∧ Rd p' m := by
 obtain ⟨t, id, p', h1, h2, _, h3, h4, h5⟩ := row71_f b hb p m hp
 exact ⟨t, id, p', h1, ⟨h2, h3, h4⟩, h5⟩
theorem drawOut_l0 (b : List Int) (hb : Bytes b) : ∀ (n i : Nat) (t : List S37) (id p : Int), i + n = 6 → Dk t id → Rd p (1501 * n + 1) →
  ∃ (t' : List S37) (id' : Int), Ev (fun m => spec_DrawKeyOut.l0 m t id i b p) (t', id') ∧ Dk t' id'
 | 0, i, t, id, p, h, d, hp => by
  refine ⟨t, id, ?_, d⟩
  refine Ev.step (f := fun m => spec_DrawKeyOut.j1 m t id i false b p) (fun m => ?_) ?_
  ·simp only [spec_DrawKeyOut.l0]; rw [if_neg (by omega)]
  ·refine Ev.step (f := fun _ => some (t, id)) (fun m => ?_) (evnow _)
   simp only [spec_DrawKeyOut.j1]; rfl
 | n + 1, i, t, id, p, h, d, hp => by
  obtain ⟨x, hx, hX, x0, x1, _⟩ := pick_f b p 8 (1501 * n + 1501) hb (hp.less (by omega))
  have stop : Ev (fun m => spec_DrawKeyOut.j1 m t id i false b (p + 1)) (t, id) := by
   refine Ev.step (f := fun _ => some (t, id)) (fun m => ?_) (evnow _)
   simp only [spec_DrawKeyOut.j1]; rfl
  by_cases e0 : x > 0
  ·by_cases e1 : (keyR keyOutF t id).2.2.2.2.2 = true
   ·refine ⟨t, id, ?_, d⟩
    refine Ev.step (fun m => by simp only [spec_DrawKeyOut.l0]; rfl) ?_
    refine ev_pos (by omega) (Ev.bind hx ?_)
    rw [decide_eq_true e0]
    refine Ev.step (fun m => by simp only [spec_DrawKeyOut.j1]; rfl) ?_
    exact ev_pos (by simp) (Ev.bind (skeyOut_f t id (by have := d.few; omega) d.wfR d.id64) (ev_pos e1 (evnow _)))
   ·obtain ⟨t1, id1, p1, h1, d1, r1⟩ := row_dk b hb (p + 1) (1501 * n + 1) (hX.less (by omega))
    obtain ⟨t', id', h2, d2⟩ := drawOut_l0 b hb n (i + 1) t1 id1 p1 (by omega) d1 r1
    refine ⟨t', id', ?_, d2⟩
    refine Ev.step (fun m => by simp only [spec_DrawKeyOut.l0]; rfl) ?_
    refine ev_pos (by omega) (Ev.bind hx ?_)
    rw [decide_eq_true e0]
    refine Ev.step (fun m => by simp only [spec_DrawKeyOut.j1]; rfl) ?_
    refine ev_pos (by simp) (Ev.bind (skeyOut_f t id (by have := d.few; omega) d.wfR d.id64) (ev_neg e1 (Ev.bind h1 ?_)))
    rw [wrapS i (by omega) (by omega)]
    exact h2
  ·refine ⟨t, id, ?_, d⟩
   refine Ev.step (fun m => by simp only [spec_DrawKeyOut.l0]; rfl) ?_
   refine ev_pos (by omega) (Ev.bind hx ?_)
   rw [decide_eq_false e0]
   exact stop
theorem drawOut_f (code : List Int) (h : ∀ x ∈ code, (Lit.int .u8 x).wf = true) : ∃ (t : List S37) (id : Int), Ev (fun n => spec_DrawKeyOut.f n code) (t, id) ∧ Dk t id := by
 obtain ⟨b, hb, hB⟩ := open_f code (fun x hx => byte_of (h x hx))
 obtain ⟨t, id, p, h1, d1, r1⟩ := row_dk b hB 0 9100 ⟨by omega, by omega⟩
 obtain ⟨t', id', h2, d2⟩ := drawOut_l0 b hB 6 0 t id p (by omega) d1 (r1.less (by omega))
 refine ⟨t', id', ?_, d2⟩
 unfold spec_DrawKeyOut.f
 rw [hb]
 simp only [Option.bind_some]
 exact Ev.bind h1 h2
end Go.Proofs.YtlkheeegkifblaaDoor.PL
namespace Go.Proofs.YtlkheeegkifblaaDoor.P
open Go.RowKit Go.Shelf Go.Proofs.YtlkheeegkifblaaDoorW.PrintWords Go.Proofs.YtlkheeegkifblaaDoorW.PrintLast Go.Proofs.YtlkheeegkifblaaDoorW.PrintMore Go.Proofs.YtlkheeegkifblaaDoor.PL Go.Proofs.YtlkheeegkifblaaDoor.FP
attribute [local go_sem] Oper.semAt_some

attribute [local go_sem] Oper.semAt_some

end Go.Proofs.YtlkheeegkifblaaDoor.P
namespace Go.Proofs.YtlkheeegkifblaaDoor.PL
open Go.RowKit Go.Proofs.YtlkheeegkifblaaDoor.P Go.Proofs.YtlkheeegkifblaaDoorW.PrintWords Go.Proofs.YtlkheeegkifblaaDoorW.PrintLast Go.Proofs.YtlkheeegkifblaaDoor.FP
structure Mk (l : List S37) (m : Nat) : Prop where
 tree : treeB l = true
 made : madeB (m : Int) = true
 mem : m ∈ (toFo l).ids
theorem Mk.v {l : List S37} {m : Nat} (k : Mk l m) : Val (toFo l) := val_of k.tree
theorem Mk.top {l : List S37} {m : Nat} (k : Mk l m) : m ∉ (toFo l).tops := k.v.top k.made
theorem Mk.ne {l : List S37} {m : Nat} (k : Mk l m) : m ≠ 0 := k.v.ne0 m k.mem
theorem Mk.par {l : List S37} {m : Nat} (k : Mk l m) : FP.par m 0 (toFo l) ∈ (toFo l).ids := (back_top k.ne (toFo l) k.v.nd k.v.ne0 k.mem k.top).up
theorem Mk.fnd {l : List S37} {m : Nat} (k : Mk l m) : fndF (toFo l) (m : Int) = m := fnd_nat k.mem
theorem Mk.key {l : List S37} {m : Nat} (k : Mk l m) (K : Fo → Nat → Int × Int × Int × Int × ByteArray × Bool) : keyR K l m = K (toFo l) m := by
 unfold keyR; rw [k.tree, k.made, if_pos rfl, if_pos rfl, k.fnd, if_neg k.ne]
theorem key_yes {K : Fo → Nat → Int × Int × Int × Int × ByteArray × Bool} {l : List S37} {id : Int} (h : (keyR K l id).2.2.2.2.2 = true) : ∃ m : Nat, id = (m : Int) ∧ Mk l m ∧ (K (toFo l) m).2.2.2.2.2 = true ∧ keyR K l id = K (toFo l) m := by
 unfold keyR at h ⊢
 cases ht : treeB l with
 | false => rw [ht, if_neg (by decide)] at h; cases h
 | true =>
  rw [ht, if_pos rfl] at h
  cases hm : madeB id with
  | false => rw [hm, if_neg (by decide)] at h; cases h
  | true =>
   rw [hm, if_pos rfl] at h
   by_cases h0 : fndF (toFo l) id = 0
   ·rw [if_pos h0] at h; cases h
   ·rw [if_neg h0] at h
    obtain ⟨h1, h2⟩ := fndF_mem h0
    refine ⟨fndF (toFo l) id, h2.symm, ⟨ht, by rw [h2]; exact hm, h1⟩, h, ?_⟩
    rw [if_pos rfl, if_pos rfl, if_neg h0]
theorem keyOut_yes {G : Fo} {m : Nat} (h : (keyOutF G m).2.2.2.2.2 = true) : rootB (FP.par m 0 G : Nat) = false ∧ keyOutF G m = kMv m (FP.par (FP.par m 0 G) 0 G : Nat) (FP.par m 0 G : Nat) := by
 unfold keyOutF at h ⊢
 by_cases h0 : rootB (FP.par m 0 G : Nat) = true
 ·rw [if_pos h0] at h; cases h
 ·rw [if_neg h0]; exact ⟨by simpa using h0, rfl⟩
theorem id_of {G : Fo} (v : Val G) {x : Nat} (hx : x ∈ G.ids) : idB (x : Int) = true := by
 unfold idB
 by_cases h4 : 4 ≤ x
 ·rw [(made_of_ok (v.ok x hx) h4).1, Bool.or_true]
 ·have := v.ne0 x hx
  have hc : x = 1 ∨ x = 2 ∨ x = 3 := by omega
  rcases hc with rfl | rfl | rfl <;> decide
theorem made_of_top {G : Fo} (v : Val G) {x : Nat} (hx : x ∈ G.ids) (ht : x ∉ G.tops) : madeB (x : Int) = true := by
 have h4 : 4 ≤ x := by
  rw [v.tops] at ht
  simp only [List.mem_cons, List.not_mem_nil, or_false, not_or] at ht
  have := v.ne0 x hx
  omega
 exact (made_of_ok (v.ok x hx) h4).1
theorem opB_mv {G : Fo} (v : Val G) {m u a : Nat} (hm : madeB (m : Int) = true) (hu : u ∈ G.ids) (ha : a = 0 ∨ (a ∈ G.ids ∧ a ∉ G.tops)) : opB 3 (m : Int) (u : Int) (a : Int) ⟨#[]⟩ = true := by
 have he : (⟨#[]⟩ : ByteArray).toList.isEmpty = true := by rw [Go.ByteArray.toList_eq]; rfl
 unfold opB placeB
 rw [hm, id_of v hu, he]
 rcases ha with rfl | ⟨h1, h2⟩
 ·simp
 ·rw [made_of_top v h1 h2]; simp
theorem mv_do {l : List S37} {m u a : Nat} (k : Mk l m) (hu : u ∈ (toFo l).ids) (ha : a = 0 ∨ (a ∈ (toFo l).ids ∧ a ∉ (toFo l).tops)) (hw : ¬ under m u (toFo l)) (hn : nearF (toFo l) (m : Int) (u : Int) (a : Int) = (u, a)) :
  opB 3 (m : Int) (u : Int) (a : Int) ⟨#[]⟩ = true ∧ opDoR l 3 m u a ⟨#[]⟩ = (mvF (toFo l) (u, a) m).fl 0 ∧ treeB (opDoR l 3 m u a ⟨#[]⟩) = true ∧ toFo (opDoR l 3 m u a ⟨#[]⟩) = mvF (toFo l) (u, a) m ∧ Val (mvF (toFo l) (u, a) m) := by
 have ho := opB_mv k.v k.made hu ha
 obtain ⟨e, h2, h3, v'⟩ := opDo_val ho k.tree
 have e2 : FP.doF (toFo l) 3 (m : Int) (u : Int) (a : Int) ⟨#[]⟩ = mvF (toFo l) (u, a) m := by
  rw [doF_move k.mem k.ne _ _ _ (by rw [fnd_nat hu]; exact hw), hn]
 rw [e2] at e h3 v'
 exact ⟨ho, e, h2, h3, v'⟩
theorem Mk.moved {l : List S37} {m : Nat} (k : Mk l m) {x : List S37} {q : Nat × Nat} (o : MvOk (toFo l) m q) (ht : treeB x = true) (e : toFo x = mvF (toFo l) q m) : Mk x m := ⟨ht, k.made, by rw [e, o.ids]; exact k.mem⟩
theorem empty_size : (⟨#[]⟩ : ByteArray).size ≤ 9223372036854775807 := by show 0 ≤ _; omega
end Go.Proofs.YtlkheeegkifblaaDoor.PL
namespace Go.Proofs.YtlkheeegkifblaaDoor.P
open Go.RowKit Go.Shelf Go.Proofs.YtlkheeegkifblaaDoorW.PrintWords Go.Proofs.YtlkheeegkifblaaDoorW.PrintLast Go.Proofs.YtlkheeegkifblaaDoorW.PrintMore Go.Proofs.YtlkheeegkifblaaDoor.PL Go.Proofs.YtlkheeegkifblaaDoor.FP
attribute [local go_sem] Oper.semAt_some

end Go.Proofs.YtlkheeegkifblaaDoor.P
namespace Go.Proofs.YtlkheeegkifblaaDoor.P
open Go.RowKit Go.Proofs.YtlkheeegkifblaaDoorW.PrintWords Go.Proofs.YtlkheeegkifblaaDoorW.PrintLast
attribute [local go_sem high] eqA27
end Go.Proofs.YtlkheeegkifblaaDoor.P
namespace Go.Proofs.YtlkheeegkifblaaDoor.PL
open Go.RowKit Go.Proofs.YtlkheeegkifblaaDoor.P Go.Proofs.YtlkheeegkifblaaDoorW.PrintWords Go.Proofs.YtlkheeegkifblaaDoorW.PrintLast Go.Proofs.YtlkheeegkifblaaDoor.FP
structure Out (t : List S37) (m u v : Nat) : Prop where
 k : Mk t m
 eu : FP.par m 0 (toFo t) = u
 ev : FP.par u 0 (toFo t) = v
 um : u ∈ (toFo t).ids
 vm : v ∈ (toFo t).ids
 ut : u ∉ (toFo t).tops
 ok : OutOk (toFo t) m u
 key : keyR keyOutF t m = kMv m v u
 op : opB 3 (m : Int) (v : Int) (u : Int) ⟨#[]⟩ = true
 all : opDoR t 3 m v u ⟨#[]⟩ = (mvF (toFo t) (v, u) m).fl 0
 tree : treeB (opDoR t 3 m v u ⟨#[]⟩) = true
 fo : toFo (opDoR t 3 m v u ⟨#[]⟩) = mvF (toFo t) (v, u) m
 val : Val (mvF (toFo t) (v, u) m)
 mv : MvOk (toFo t) m (v, u)
theorem out_yes {t : List S37} {id : Int} (h : (keyR keyOutF t id).2.2.2.2.2 = true) : ∃ (m u v : Nat), id = (m : Int) ∧ Out t m u v := by
 obtain ⟨m, rfl, k, h1, h2⟩ := key_yes h
 obtain ⟨h3, h4⟩ := keyOut_yes h1
 have hut : FP.par m 0 (toFo t) ∉ (toFo t).tops := fun g => by
  rcases par_made k.tree k.par with ⟨g1, _⟩ | ⟨_, _, g2, _⟩
  ·rw [g1] at h3; cases h3
  ·exact g2 g
 have oo := out_ok k.v.nd k.v.ne0 k.v.three k.mem k.top hut
 have hvm := (back_top (k.v.ne0 _ k.par) (toFo t) k.v.nd k.v.ne0 k.par hut).up
 obtain ⟨o1, o2, o3, o4, o5⟩ := mv_do k hvm (Or.inr ⟨k.par, hut⟩) oo.wh oo.near
 exact ⟨m, FP.par m 0 (toFo t), FP.par (FP.par m 0 (toFo t)) 0 (toFo t), rfl, k, rfl, rfl, k.par, hvm, hut, oo, by rw [h2, h4], o1, o2, o3, o4, o5, oo.mv⟩
theorem lpAt_l0 (t : List S37) (id : Int) (hl : t.length ≤ 1099511627776) : ∀ (n i : Nat), i + n = t.length → Ev (fun k => laws_lpAt.l0 k t id i) (atFrom id (t.drop i) i)
 | 0, i, h => by
  rw [List.drop_eq_nil_of_le (by omega)]
  refine Ev.step (f := fun _ => some (-1)) (fun k => ?_) (evnow _)
  simp only [laws_lpAt.l0]; rw [if_neg (by omega)]
 | n + 1, i, h => by
  have hi : i < t.length := by omega
  rw [List.drop_eq_getElem_cons hi]
  unfold atFrom
  by_cases hq : t[i].f0 = id
  ·rw [if_pos hq]
   refine Ev.step (f := fun _ => some (i : Int)) (fun k => ?_) (evnow _)
   simp only [laws_lpAt.l0]
   rw [if_pos (by omega), if_pos (by omega), rdR_get t i hi, if_pos hq]
  ·rw [if_neg hq]
   refine Ev.step (fun k => ?_) (lpAt_l0 t id hl n (i + 1) (by omega))
   simp only [laws_lpAt.l0]
   rw [if_pos (by omega), if_pos (by omega), rdR_get t i hi, if_neg hq, wrapS i (by omega) (by omega)]
   rfl
theorem lpAt_f (t : List S37) (id : Int) (hl : t.length ≤ 1099511627776) : Ev (fun k => laws_lpAt.f k t id) (atI t id) := lpAt_l0 t id hl t.length 0 (by omega)
theorem at_row {t : List S37} (ht : treeB t = true) {m : Nat} (hm : m ∈ (toFo t).ids) : ∃ (j : Nat) (h : j < t.length), atI t m = (j : Int) ∧ t[j].f1 = (dep m 0 (toFo t) : Int) := by
 obtain ⟨m', e0, _, _, pre, post, sp, hat⟩ := found ht (id := (m : Int)) (by rw [fnd_nat hm]; exact (val_of ht).ne0 m hm)
 obtain rfl : m = m' := by omega
 have hfl := toFo_fl ht
 have hlt : pre.length < t.length := by
  have := spot_len sp
  rw [hfl] at this
  omega
 have hget : t[pre.length] = ⟨(m : Int), (dep m 0 (toFo t) : Int), txtF m (toFo t)⟩ := by
  have := spot_get sp (by rw [hfl]; exact hlt)
  simpa only [hfl] using this
 exact ⟨pre.length, hlt, hat, by rw [hget]⟩
theorem keyOut_j0 {t : List S37} {id : Int} (d : Dk t id) (r : Int × Int × Int × Int × ByteArray × Bool) (hr : r = keyR keyOutF t id) (f : Bool) (hf : f = false → treeB t = true) : Ev (fun n => laws_FnKeyOut.j0 n t id r.2.2.2.2.2 r.2.2.2.2.2 f r.1 r.2.1 r.2.2.1 r.2.2.2.1 r.2.2.2.2.1 r.1 r.2.1 r.2.2.1 r.2.2.2.1 r.2.2.2.2.1) true := by
 cases f with
 | true => exact Ev.step (f := fun _ => some true) (fun n => by simp [laws_FnKeyOut.j0]) (evnow _)
 | false =>
  have ht := hf rfl
  have hfew := d.few
  refine Ev.step (fun n => by simp only [laws_FnKeyOut.j0]; rfl) ?_
  refine ev_neg (by decide) (Ev.bind (evnow (upR t id)) (Ev.bind (evnow (if ownI (upR t id).1 = 0 then ((0, false) : Int × Bool) else (ownI (upR t id).1 - 1, true))) ?_))
  cases hb : r.2.2.2.2.2 with
  | true =>
   rw [hr] at hb
   obtain ⟨m, u, v, rfl, o⟩ := out_yes hb
   have hu0 := o.k.v.ne0 u o.um
   have k' := o.k.moved o.mv o.tree o.fo
   have e1 : upR t m = ((u : Int), true) := by unfold upR; rw [ht, if_pos rfl, o.k.fnd, if_neg o.k.ne, o.eu]
   have e2 : upR t u = ((v : Int), true) := by unfold upR; rw [ht, if_pos rfl, fnd_nat o.um, if_neg hu0, o.ev]
   have hv0 := o.k.v.ne0 v o.vm
   have hp : FP.par m 0 (mvF (toFo t) (v, u) m) = v := o.mv.par_new
   have e3 : upR (opDoR t 3 m v u ⟨#[]⟩) m = ((v : Int), true) := by unfold upR; rw [o.tree, if_pos rfl, k'.fnd, if_neg o.k.ne, o.fo, hp]
   have e4 : aheadR (opDoR t 3 m v u ⟨#[]⟩) m = ((u : Int), true) := by
    unfold aheadR
    rw [o.tree, if_pos rfl, k'.fnd, if_neg o.k.ne, o.fo, hp, if_neg hv0]
    have : sibT m (mvF (toFo t) (v, u) m) = u := o.mv.sib o.k.v.ne0
    rw [this]
   obtain ⟨j, hj, ha, hdj⟩ := at_row ht o.k.mem
   obtain ⟨j', hj', ha', hdj'⟩ := at_row o.tree k'.mem
   have hdeep := o.ok.deep
   rw [o.ev] at hdeep
   rw [o.fo] at hdj'
   rw [hr, o.key, e1]
   refine ev_pos rfl (Ev.bind (iopDo_f t 3 m v u ⟨#[]⟩ empty_size) (Ev.bind (evnow (upR t u)) (Ev.bind (evnow (upR (opDoR t 3 m v u ⟨#[]⟩) m)) (Ev.bind (evnow (aheadR (opDoR t 3 m v u ⟨#[]⟩) m)) ?_))))
   rw [e2, e3, e4]
   have hop := opOk_f 3 m v u ⟨#[]⟩ empty_size
   rw [o.op] at hop
   refine Ev.bind hop (ev_pos rfl (ev_pos rfl (ev_pos rfl (Ev.bind (lpAt_f _ m (le40 ..)) ?_))))
   rw [ha']
   refine ev_pos (by omega) (ev_pos (by omega) (Ev.bind (lpAt_f t m (by omega)) ?_))
   rw [ha]
   refine ev_pos (by omega) (ev_pos (by omega) ?_)
   rw [rdR_get _ j' hj', rdR_get t j hj, hdj, hdj']
   have hdl : dep m 0 (toFo t) < 1000 := by
    have h1 := treeGo_rows t _ _ _ ht t[j] (List.getElem_mem hj)
    have h2 := (line_of h1).2.1
    omega
   rw [wrapM _ (by omega) (by omega)]
   have : (((dep m 0 (mvF (toFo t) (v, u) m) : Nat) : Int) == ((dep m 0 (toFo t) : Nat) : Int) - 1) = true := beq_iff_eq.2 (by omega)
   rw [this]
   exact evnow _
  | false =>
   refine ev_neg (by decide) ?_
   unfold upR
   rw [ht, if_pos rfl]
   by_cases h0 : fndF (toFo t) id = 0
   ·rw [if_pos h0]; exact ev_neg (by decide) (evnow _)
   ·rw [if_neg h0]
    refine ev_pos rfl ?_
    obtain ⟨h1, h2⟩ := fndF_mem h0
    rcases par_made ht h1 with ⟨g1, g2, g3⟩ | ⟨g1, g2, g3, g4, g5⟩
    ·exact ev_pos (by simp [g3]) (evnow _)
    ·refine ev_neg (by simp only; omega) ?_
     have hk : Mk t (fndF (toFo t) id) := ⟨ht, g2, h1⟩
     have hroot : rootB ((FP.par (fndF (toFo t) id) 0 (toFo t) : Nat) : Int) = true := by
      have e : keyR keyOutF t id = keyOutF (toFo t) (fndF (toFo t) id) := by rw [← hk.key keyOutF, h2]
      rw [hr, e] at hb
      unfold keyOutF at hb
      by_cases h : rootB ((FP.par (fndF (toFo t) id) 0 (toFo t) : Nat) : Int) = true
      ·exact h
      ·rw [if_neg h] at hb; cases hb
     have hown : ∀ p : Nat, rootB (p : Int) = true → ownI (p : Int) = 1 := fun p hp => by
      unfold rootB at hp
      simp only [Bool.and_eq_true, decide_eq_true_eq] at hp
      have hc : p = 1 ∨ p = 2 ∨ p = 3 := by omega
      rcases hc with rfl | rfl | rfl <;> decide
     simp only [hown _ hroot]
     exact evnow _
theorem FnKeyOut : laws_FnKeyOut.Pure := by
 intro l0 _ _ h0
 refine pure_of ?_
 unfold laws_FnKeyOut.f
 by_cases h : (l0.length : Int) > 1048576
 ·exact ev_pos h (evnow _)
 ·obtain ⟨t, id, hd, d⟩ := drawOut_f l0 h0
  refine ev_neg h (Ev.bind hd (Ev.bind (skeyOut_f t id (by have := d.few; omega) d.wfR d.id64) (Ev.bind (evnow (keyR keyOutF t id)) (ev_neg (by simp) (ev_neg (by simp) (Ev.bind d.tree ?_))))))
  exact keyOut_j0 d _ rfl _ fun h => by simpa using h
end Go.Proofs.YtlkheeegkifblaaDoor.PL
namespace Go.Proofs.YtlkheeegkifblaaDoor.P
open Go.ChangeShapes Go.WideShapes Go.ChangeAt Go.RowKit
theorem tOwners : (Tryd.prog.globals[0]?).map (·.type) = some 66 := by kernel_rfl
theorem cOwners : Tryd.prog.cellsOf 66 = 37 := by kernel_rfl
theorem cInt : Tryd.prog.cellsOf 3 = 1 := by kernel_rfl
abbrev ownCells : Array Value := (owners.map fun z => Value.int .i64 z).toArray
theorem glob_of_laid {W : World} (h : laidMet Tryd.prog [("loop.example/plashet/impl.rowOwners", Rows.laid_loop_example_plashet_impl_rowOwners)] W) : Glob W :=
 Lib.tabIs_of_head gOwners tOwners Tryd.underlying66 Tryd.underlying3 cInt cOwners h
theorem door_met (os : Os) (args : Array Value) : laidMet Tryd.prog [("loop.example/plashet/impl.rowOwners", Rows.laid_loop_example_plashet_impl_rowOwners)] ((World.doorLaid Tryd.prog 400 os).forCall (fun _ _ => 0) ⟨#[], args, []⟩).memory :=
 laidMet_of_run' 8 (by kernel_rfl) (by kernel_rfl)
abbrev tableH {H : Type} : DataW H := .agg (owners.map fun z => .lit (.int .i64 z))
theorem reads_table {H : Type} (enc : TypeId × Value → H) (W : World) (sp : Nat → Bool) : DataW.trod enc Tryd.prog W 0 sp true 3 66 ownCells.toList = some (tableH, []) := by kernel_rfl
theorem tab_vars {H : Type} (enc : TypeId × Value → H) {W : World} (h : Glob W) {sp : Nat → Bool} : DataW.TrodVars enc Tryd.prog W sp ["loop.example/plashet/impl.rowOwners"] [tableH] (MemPlace.row ⟨0, 0, none⟩ ownCells.size ++ [] ++ []) :=
 ⟨0, 66, ownCells, 3, [], [], gOwners, tOwners, h, reads_table enc W sp, rfl, rfl⟩
end Go.Proofs.YtlkheeegkifblaaDoor.P
namespace Go.Proofs.YtlkheeegkifblaaDoor.fnKeyOut
open Go.ChangeMaps (open_string shut_string)
open Go.ChangeShapes Go.WideShapes Go.ChangeAt Go.RowKit
theorem own : ownKnob Tryd.prog.godebug = none := by kernel_rfl
theorem laidOut : laidOutB Tryd.prog = true := by kernel_rfl
def IsRow (k : IntKind) (w : World) (a : Option Addr) (len cap : Nat) (zs : List Int) : Prop :=
 (a = none ∧ len = 0 ∧ cap = 0 ∧ zs = []) ∨
 ∃ x, a = some x ∧ len ≤ cap ∧ cap ≤ maxLen ∧ zs.length = cap ∧ (∀ i, i < zs.length → w.cell? (x.add i) = some (.int k (zs.getD i 0))) ∧ ∀ n ∈ zs, (Lit.int k n).wf = true
set_option maxRecDepth 100000 in
theorem lifted (os : Os) (started : os.Started) (H : Type) (enc : TypeId × Value → H) :
  ReturnsInHanded {} Tryd.checked os 7 .any (fun w args => (Rows.fnKeyOutSpec.pre enc Tryd.prog Tryd.f7 [] false w args ∧ laidMet Tryd.prog [("loop.example/plashet/impl.rowOwners", Rows.laid_loop_example_plashet_impl_rowOwners)] w) ∧ sizedMet enc Tryd.prog Tryd.f7 (OpenSpec.ofChange Rows.fnKeyOutSpec) false w args) (Rows.fnKeyOutSpec.post enc Tryd.prog Tryd.f7 false true false false) := by
 refine returnsInHanded_of_change_and (C := Tryd.checked) (X := fun w _ => laidMet Tryd.prog [("loop.example/plashet/impl.rowOwners", Rows.laid_loop_example_plashet_impl_rowOwners)] w) (fun _ _ _ hh h => h.of_heap hh) own started (by kernel_rfl) Tryd.func7
  (ChangeSpec.witness_shaped (enc := enc) (C := Tryd.checked) (os := os) (X := fun w _ => laidMet Tryd.prog [("loop.example/plashet/impl.rowOwners", Rows.laid_loop_example_plashet_impl_rowOwners)] w) false (World.doorLaid Tryd.prog 400 os) #[.slice none 0 0] 8 rfl (World.shaped_of_RefB (by kernel_rfl) (by kernel_rfl)) (by kernel_rfl) (by kernel_rfl) (by kernel_rfl) (P.door_met os _)) ?_
 intro W base args ds gs before hval0 hW _ hsz0 hL _
 have hsz : (DataW.weightsEach Tryd.prog (Tryd.f7.params.toList ++ Rows.fnKeyOutSpec.plain.varTypes Tryd.prog) (ds ++ gs)).all (· ≤ reachBytes) = true := hsz0
 have hval : ∀ (j : Nat) t v, Tryd.f7.params[j]? = some t → args[j]? = some v → Value.okWide Tryd.prog W .any base t v := hval0
 have hW' := hW
 obtain ⟨p, q, hA0, hV, rfl, hfz, hnd⟩ := hW
 have hA : DataW.TrodAll enc Tryd.prog W 0 (fun _ => true) true Tryd.f7.params.toList args.toList ds p := hA0
 rw [Tryd.params7] at hA hval hsz
 obtain ⟨v0, vs0, d0, ds0, p0, q0, hargs, rfl, rfl, h0, r0⟩ := trodAll_cons hA
 obtain ⟨rfl, rfl, rfl⟩ := trodAll_nil r0
 obtain rfl : args = #[v0] := by cases args; simp_all
 have hG : P.Glob W := P.glob_of_laid hL
 obtain ⟨gv, tv, csv, fuelv, dv, pv, rfl, hgv, htv, hvarv, hdv, rfl⟩ := trodVars_one hV
 obtain rfl : csv = P.ownCells := Option.some.inj (hvarv.symm.trans hG)
 obtain rfl := Option.some.inj (P.tOwners.symm.trans (by rw [Option.some.inj (P.gOwners.symm.trans hgv)]; exact htv))
 obtain ⟨rfl, rfl⟩ := DataW.Trod.unique (v := .agg P.ownCells) ⟨fuelv, hdv⟩ ⟨3, P.reads_table enc W _⟩
 obtain ⟨a0, len0, cap0, rfl⟩ := okWide_slice Tryd.underlying22 (hval 0 22 v0 rfl rfl)
 have k0 := h0
 have lt0 : ∀ x ∈ p0, x.block < W.heap.size := by obtain ⟨m, hm⟩ := k0; exact DataW.trod_lt m _ _ _ hm
 obtain ⟨z0, w0⟩ : ∃ zs, IsRow .u8 W a0 len0 cap0 zs := by
  obtain ⟨fuel, hf⟩ := h0
  rcases open_ints Tryd.underlying22 Tryd.underlying5 (by kernel_rfl) hf with ⟨hcs, _⟩ | ⟨x, l, c, zs, hcs, _, hl, hm, hz, _, hcell, hwz⟩
  ·simp [Value.cells] at hcs
   obtain ⟨rfl, rfl, rfl⟩ := hcs
   exact ⟨[], .inl ⟨rfl, rfl, rfl, rfl⟩⟩
  ·simp [Value.cells] at hcs
   obtain ⟨rfl, rfl, rfl⟩ := hcs
   exact ⟨zs, .inr ⟨_, rfl, hl, hm, by simpa using hz, hcell, hwz⟩⟩
 have y0 : len0 * 1 ≤ 140737488351232 := Go.Proofs.YtlkheeegkifblaaDoorW.PrintWords.sized_ints hsz (j := 0) (t := 22) rfl rfl Tryd.underlying22 Tryd.underlying5 (by kernel_rfl) (by kernel_rfl) h0
 clear hA0 hval0 hsz0 hsz
 refine (P.laws_FnKeyOut.walk PL.FnKeyOut a0 len0 cap0 z0 W w0 y0 hG).mono fun e W' ⟨he, bel⟩ => ?_
 subst he
 exact ⟨_, rfl, _, _, _, _, _, _, hW', trodAll_mk1 (shut_bool Tryd.underlying4 _), (trodAll_cons_mk (Below.trod laidOut (by kernel_rfl) (of_decide_eq_true (by kernel_rfl)) k0 bel lt0) trodAll_mk0), P.tab_vars enc (hG.below bel), bel.frame _, fun h => by cases h⟩
theorem over : Rows.fnKeyOutRow.holds Tryd.pinned (OpenSpec.ofChange Rows.fnKeyOutSpec) :=
 OpenClaim.holds_of_wide 7 Tryd.f7 rfl rfl rfl rfl rfl rfl rfl ⟨rfl, rfl, rfl, rfl, rfl⟩ rfl rfl rfl rfl rfl (by kernel_rfl) Tryd.func7 (by kernel_rfl)
  (of_decide_eq_true (by kernel_rfl)) (by unfold Func.isWrapper; first | (rw [if_pos (by decide +kernel)]; kernel_rfl) | (rw [if_neg (by decide +kernel)]; exact ⟨rfl, rfl⟩))
  (fun os started H enc _ => lifted os started H enc)
theorem proved : Rows.FnKeyOutSaid := over
#print axioms proved
end Go.Proofs.YtlkheeegkifblaaDoor.fnKeyOut
namespace Go.Proofs.YtlkheeegkifblaaDoor
theorem fnKeyOut_holds : Rows.FnKeyOutSaid := fnKeyOut.proved
end Go.Proofs.YtlkheeegkifblaaDoor
namespace Go.Proofs.YtlkheeegkifblaaDoor
open Go
theorem fnKeyOutCard_holds : Rows.FnKeyOutCardSaid :=
 Claim7.holds_tied_plain_at .later [] [.data] true (true, "eaacb49e37206468e585e4739738b6d4558eee5b1031375a36bb2efdb5ba73e0") true
  fnKeyOut_holds (fun _ h => by cases h) (by kernel_rfl) (fun _ h => by cases h) fnKeyOut_row_tie rfl ⟨rfl, rfl⟩ (by kernel_rfl) rfl
  (fun f fn hf hfn => by
   obtain rfl : f = 7 := Option.some.inj ((show Tryd.prog.funcNamed "loop.example/plashet/laws.FnKeyOut" = some 7 by kernel_rfl).symm.trans hf) |>.symm
   obtain rfl : fn = Tryd.f7 := (Option.some.inj (Tryd.func7.symm.trans hfn)).symm
   exact ⟨by kernel_rfl, fun j t ht => by
    rw [Tryd.params7] at ht
    have hm : t ∈ [22] := by have := Array.mem_of_getElem? ht; simp at this; first | (subst this; simp; done) | (rcases this with h | h <;> simp [h]; done) | (rcases this with h | h | h <;> simp [h]; done)
    have hall : ([22].all fun u => !Tryd.prog.wantsStandIn u) = true := by kernel_rfl
    exact (show Tryd.prog.wantsStandIn t = false by simpa using List.all_eq_true.1 hall t hm)⟩)
  (by kernel_rfl)
#print axioms fnKeyOutCard_holds
end Go.Proofs.YtlkheeegkifblaaDoor
