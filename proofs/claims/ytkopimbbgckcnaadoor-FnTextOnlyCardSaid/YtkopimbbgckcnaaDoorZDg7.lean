/- Joined by a program (wip/shake.py): the declarations that 'YtkopimbbgckcnaaDoorCardFnTextOnly' reaches. -/
import Derived.Test.YtkopimbbgckcnaaDoorZDg6
set_option linter.unusedVariables false
set_option linter.unusedSimpArgs false
set_option linter.unusedSectionVars false
namespace Go.Proofs.YtkopimbbgckcnaaDoor.PL
open Go.RowKit Go.Proofs.YtkopimbbgckcnaaDoor.P Go.Proofs.YtkopimbbgckcnaaDoorW.PrintWords Go.Proofs.YtkopimbbgckcnaaDoorW.PrintLast Go.Proofs.YtkopimbbgckcnaaDoor.FP
theorem fndF_cases {G : Fo} (g : Good G) (i : Nat) : (i ∈ G.ids ∧ fndF G (i : Int) = i) ∨ (i ∉ G.ids ∧ fndF G (i : Int) = 0) := by
 by_cases hi : i ∈ G.ids
 ·exact Or.inl ⟨hi, fndF_nat hi⟩
 ·exact Or.inr ⟨hi, (fndF_zero g.ne0).2 fun y hy e => hi ((show y = i by omega) ▸ hy)⟩
theorem do_x {G : Fo} (g : Good G) (kd : Int) (i : Nat) (hi0 : i ≠ 0) (hit : i ∉ G.tops) (up at_ : Int) (s : ByteArray) (hk : kd = 1 ∨ kd = 2 ∨ kd = 3) :
  Ev (fun n => spec_l3Do.f n (G.fl 0) kd (i : Int) up at_ s) ((doF G kd (i : Int) up at_ s).fl 0) := by
 have hll := fl_len G 0
 have hg := g.len
 have same : ∀ f : Nat → Option (List S43), (∀ n, f n = ((some (([] : List S43) : List S43)).bind fun y => (if y.length + (G.fl 0).length < 4398046511104 then (some (y ++ G.fl 0)) else none))) → Ev f (G.fl 0) := fun f hf => Ev.congr hf (by
  simp only [Option.bind_some, List.nil_append]
  exact ev_pos (by simp; omega) (evnow _))
 unfold spec_l3Do.f doF
 rcases hk with rfl | rfl | rfl
 ·rw [if_neg (by decide), if_pos rfl]
  refine Ev.bind (at_f (G.fl 0) i (by omega)) (ev_neg (by decide) ?_)
  refine Ev.bind (where_x g 1 i hi0 up at_ s (Or.inl rfl)) ?_
  rcases fndF_cases g i with ⟨hi, hf⟩ | ⟨hi, hf⟩
  ·rw [hf, if_neg hi0, if_neg (by simp [hi])]
   exact ev_neg (by simp) (same _ fun n => rfl)
  ·rw [hf, if_pos rfl, if_pos (Or.inl ⟨rfl, hi⟩)]
   refine ev_pos rfl (ev_pos rfl ?_)
   have hp := near_ok (G := G) (tops_ids g.three) (i : Int) up at_
   have := put_F g.nd g.ne0 hg (nearF G (i : Int) up at_) hp.up (hp.at_.imp id fun ⟨a1, a2, _⟩ => ⟨a1, a2⟩) i 0 s .nil (by omega) (by simp [Fo.ids])
   exact Ev.bind this (evnow _)
 ·rw [if_pos rfl]
  refine Ev.bind (at_f (G.fl 0) i (by omega)) (ev_pos rfl ?_)
  simp only [Option.bind_some]
  refine ev_pos (by simp; omega) ?_
  rcases fndF_cases g i with ⟨hi, hf⟩ | ⟨hi, hf⟩
  ·rw [hf, if_neg hi0]
   obtain ⟨pre, post, sp⟩ := spot i G 0 g.nd hi
   have hl := spot_len sp
   have hj : pre.length < (G.fl 0).length := by omega
   rw [spot_at sp]
   simp only [List.nil_append, Int.toNat_natCast, rdR_get (G.fl 0) pre.length hj]
   refine ev_pos (by omega) (ev_pos (by omega) (ev_pos (by omega) ?_))
   have : (G.fl 0).set pre.length (⟨((G.fl 0)[pre.length]'hj).f0, ((G.fl 0)[pre.length]'hj).f1, s⟩ : S43) = (setF i s G).fl 0 := by
    rw [spot_get sp hj, sp.text, sp.all]
    exact set_mid
   rw [this]
   exact evnow _
  ·rw [hf, if_pos rfl, at_fnd0 hf g.ne0]
   simp only [List.nil_append]
   exact ev_neg (by omega) (evnow _)
 ·rw [if_neg (by decide), if_neg (by decide)]
  refine Ev.bind (at_f (G.fl 0) i (by omega)) (ev_neg (by decide) ?_)
  refine Ev.bind (where_x g 3 i hi0 up at_ s (Or.inr rfl)) ?_
  rcases fndF_cases g i with ⟨hi, hf⟩ | ⟨hi, hf⟩
  ·rw [hf, if_neg hi0]
   by_cases hu : under i (fndF G up) G
   ·rw [if_pos hu, if_neg (by simp [hu])]
    exact ev_neg (by simp) (same _ fun n => rfl)
   ·rw [if_neg hu, if_pos (Or.inr ⟨rfl, hi, hu⟩)]
    obtain ⟨pre, post, sp⟩ := spot i G 0 g.nd hi
    have hl := spot_len sp
    have hj : pre.length < (G.fl 0).length := by omega
    rw [spot_at sp]
    refine ev_pos rfl (ev_neg (by decide) ?_)
    refine Ev.bind (end_f (G.fl 0) pre.length hj (by omega)) ?_
    rw [spot_end sp]
    have e0 : (sub i G).ids.length = ((sub i G).fl (dep i 0 G + 1)).length := (fl_len _ _).symm
    have eall : G.fl 0 = (pre ++ ⟨(i : Int), (dep i 0 G : Int), txtF i G⟩ :: (sub i G).fl (dep i 0 G + 1)) ++ post := by rw [sp.all]; simp
    have eT : (G.fl 0).take (pre.length + 1 + (sub i G).ids.length) = pre ++ ⟨(i : Int), (dep i 0 G : Int), txtF i G⟩ :: (sub i G).fl (dep i 0 G + 1) := by
     rw [eall, e0]; exact List.take_left' (by simp; omega)
    have eD : (G.fl 0).drop (pre.length + 1 + (sub i G).ids.length) = post := by
     rw [eall, e0]; exact List.drop_left' (by simp; omega)
    have eP : (G.fl 0).take pre.length = pre := by rw [sp.all]; exact List.take_left' rfl
    have eM : (pre ++ (⟨(i : Int), (dep i 0 G : Int), txtF i G⟩ : S43) :: (sub i G).fl (dep i 0 G + 1)).drop pre.length = ⟨(i : Int), (dep i 0 G : Int), txtF i G⟩ :: (sub i G).fl (dep i 0 G + 1) := List.drop_left' rfl
    simp only [Option.bind_some, Int.toNat_natCast]
    refine ev_pos (by omega) (ev_pos (by omega) (ev_pos (by omega) ?_))
    refine ev_pos (by rw [List.length_drop, List.length_take]; simp; omega) ?_
    refine ev_pos (by omega) ?_
    refine ev_pos (by rw [List.length_take]; simp; omega) ?_
    refine ev_pos (by omega) ?_
    refine ev_pos (by rw [List.length_append, List.length_take, List.length_drop]; simp; omega) ?_
    simp only [List.nil_append]
    rw [eT, eM, eP, eD, ← sp.del]
    obtain ⟨h, hr⟩ := reptop_ex G g.nd g.ne0
    have hp := near_del hr g.nd g.three hi hit (id := (i : Int)) (up := up) (at_ := at_) rfl hu
    have hperm := ids_del i G g.nd hi
    obtain ⟨n1, n2⟩ := List.nodup_cons.1 (hperm.nodup_iff.1 g.nd)
    obtain ⟨n3, n4, n5⟩ := List.nodup_append.1 n2
    have hlens := hperm.length_eq
    simp only [List.length_cons, List.length_append] at hlens
    have hd := dep_le i G 0 g.nd hi
    have := put_F (G := FP.del i G) n4 (fun x hx => g.ne0 x (del_ids_sub i hx)) (by omega) (nearF G (i : Int) up at_) hp.1 (hp.2.imp id fun ⟨a1, a2, _⟩ => ⟨a1, by
     rw [par_del i _ G 0 g.nd a1, ← reptop_par hr g.nd (del_ids_sub i a1)]; exact a2⟩) i (dep i 0 G) (txtF i G) (sub i G) (by omega) (by omega)
    exact Ev.bind this (evnow _)
  ·rw [hf, if_pos rfl, if_neg (by simp [hi])]
   exact ev_neg (by simp) (same _ fun n => rfl)
def wfR (r : S43) : Prop := I64 r.f0 ∧ r.f2.size ≤ 9223372036854775807
theorem treeGo_congr : ∀ (l : List S43) (s s' : List Int) (roots d : Int), (∀ x, x ∈ s ↔ x ∈ s') → treeGo s roots d l = treeGo s' roots d l
 | [], _, _, _, _, _ => rfl
 | r :: rest, s, s', roots, d, h => by
  have hc : ∀ x, x ∈ r.f0 :: s ↔ x ∈ r.f0 :: s' := fun x => by simp only [List.mem_cons, h x]
  have hd : decide (r.f0 ∉ s) = decide (r.f0 ∉ s') := by simp only [h r.f0]
  unfold treeGo
  rw [hd, treeGo_congr rest _ _ (roots + 1) r.f1 hc, treeGo_congr rest _ _ roots r.f1 hc]
theorem rowB_deep {r : S43} (h : rowB r = true) : 0 ≤ r.f1 ∧ r.f1 ≤ 18 := by
 obtain ⟨_, _, d0, d18⟩ := rowB_id h
 exact ⟨d0, d18⟩
theorem st_l1 (t : List S43) (hl : t.length ≤ 1000000000) (roots : Int) (i : Nat) (hi : i < t.length) (b : Bool) (hnext : Ev (fun k => spec_TreeOk.l0 k t roots ((i : Int) + 1)) b) : ∀ (n j : Nat), j + n = i → Ev (fun k => spec_TreeOk.l1 k t roots i j) (decide (t[i].f0 ∉ ((t.take i).drop j).map (·.f0)) && b)
 | 0, j, h => by
  have hji : j = i := by omega
  subst hji
  rw [List.drop_eq_nil_of_le (by rw [List.length_take]; omega)]
  refine Ev.step (fun k => by simp only [spec_TreeOk.l1]; rfl) ?_
  refine ev_neg (by omega) ?_
  rw [wrapS j (by omega) (by omega)]
  simpa using hnext
 | n + 1, j, h => by
  have hj : j < (t.take i).length := by rw [List.length_take]; omega
  have hjt : j < t.length := by omega
  rw [List.drop_eq_getElem_cons hj, List.map_cons, List.getElem_take]
  refine Ev.step (fun k => by simp only [spec_TreeOk.l1]; rfl) ?_
  refine ev_pos (by omega) (ev_pos (by omega) (ev_pos (by omega) (ev_pos (by omega) (ev_pos (by omega) ?_))))
  rw [rdR_get t j hjt, rdR_get t i hi, wrapS j (by omega) (by omega)]
  by_cases hq : t[j].f0 = t[i].f0
  ·refine ev_pos hq ?_
   rw [decide_eq_false (by simp [hq]), Bool.false_and]
   exact evnow _
  ·refine ev_neg hq ?_
   have ih := st_l1 t hl roots i hi b hnext n (j + 1) (by omega)
   have e : decide (t[i].f0 ∉ t[j].f0 :: ((t.take i).drop (j + 1)).map (·.f0)) = decide (t[i].f0 ∉ ((t.take i).drop (j + 1)).map (·.f0)) := by
    rw [decide_eq_decide, List.mem_cons, not_or]
    exact ⟨fun q => q.2, fun q => ⟨fun e => hq e.symm, q⟩⟩
   rw [e]
   exact ih
theorem st_l0 (t : List S43) (hl : t.length ≤ 1000000000) (hw : ∀ r ∈ t, wfR r) : ∀ (n i : Nat) (roots : Int) (h : i + n = t.length) (h1 : 0 < i) (h2 : i ≤ t.length), 0 ≤ roots → roots ≤ i → rowB (t[i - 1]'(by omega)) = true →
  Ev (fun k => spec_TreeOk.l0 k t roots i) (treeGo ((t.take i).map (·.f0)) roots (t[i - 1]'(by omega)).f1 (t.drop i) && ((t[0]'(by omega)).f0 == 1))
 | 0, i, roots, h, h1, h2, r0, r1, hp => by
  rw [List.drop_eq_nil_of_le (by omega)]
  refine Ev.step (fun k => by simp only [spec_TreeOk.l0]; rfl) ?_
  refine ev_neg (by omega) ?_
  unfold treeGo
  by_cases hr : roots = 3
  ·refine ev_pos hr (ev_pos (by omega) ?_)
   rw [decide_eq_true hr, Bool.true_and, show rd_T43 t 0 = t[0]'(by omega) from rdR_get t 0 (by omega)]
   exact evnow _
  ·refine ev_neg hr ?_
   rw [decide_eq_false hr, Bool.false_and]
   exact evnow _
 | n + 1, i, roots, h, h1, h2, r0, r1, hp => by
  have hi : i < t.length := by omega
  have hi1 : i - 1 < t.length := by omega
  obtain ⟨w0, w1⟩ := hw t[i] (List.getElem_mem hi)
  obtain ⟨d0, d18⟩ := rowB_deep hp
  rw [List.drop_eq_getElem_cons hi]
  refine Ev.step (fun k => by simp only [spec_TreeOk.l0]; rfl) ?_
  refine ev_pos (by omega) (ev_pos (by omega) ?_)
  rw [rdR_get t i hi]
  refine Ev.bind (srow_f t[i] w0 w1) ?_
  unfold treeGo
  cases hrow : rowB t[i] with
  | false =>
   simp only [Bool.false_eq_true, if_false, Bool.false_and]
   refine Ev.step (fun k => by simp only [spec_TreeOk.j1]; rfl) ?_
   exact ev_pos trivial (evnow _)
  | true =>
   simp only [if_true, Bool.true_and]
   have hw1 : wrap64 ((i : Int) - 1) = ((i - 1 : Nat) : Int) := by rw [wrap_id _ (by omega) (by omega)]; omega
   rw [hw1]
   refine ev_pos (by omega) (ev_pos (by omega) (ev_pos (by omega) ?_))
   rw [rdR_get t (i - 1) hi1, wrap_id (t[i - 1].f1 + 1) (by omega) (by omega)]
   refine Ev.step (fun k => by simp only [spec_TreeOk.j1]; rfl) ?_
   by_cases hd : t[i].f1 > t[i - 1].f1 + 1
   ·refine ev_pos (by simpa using hd) ?_
    rw [decide_eq_false (show ¬ t[i].f1 ≤ t[i - 1].f1 + 1 by omega), Bool.false_and, Bool.and_false, Bool.false_and]
    exact evnow _
   ·refine ev_neg (by simpa using hd) (ev_pos (by omega) (ev_pos (by omega) ?_))
    rw [decide_eq_true (show t[i].f1 ≤ t[i - 1].f1 + 1 by omega), Bool.true_and, rdR_get t i hi, root_f]
    simp only [Option.bind_some]
    have hseen : ∀ x, x ∈ (t.take (i + 1)).map (·.f0) ↔ x ∈ t[i].f0 :: (t.take i).map (·.f0) := fun x => by
     rw [List.take_succ_eq_append_getElem hi, List.map_append, List.mem_append, List.mem_cons]
     simp [or_comm]
    have hstep : ∀ (roots' : Int), 0 ≤ roots' → roots' ≤ (i + 1 : Nat) → Ev (fun k => spec_TreeOk.j2 k t roots' i) (decide (t[i].f0 ∉ (t.take i).map (·.f0)) && (treeGo (t[i].f0 :: (t.take i).map (·.f0)) roots' t[i].f1 (t.drop (i + 1)) && ((t[0]'(by omega)).f0 == 1))) := fun roots' q0 q1 => by
     refine Ev.step (fun k => by simp only [spec_TreeOk.j2]; rfl) ?_
     have ih := st_l0 t hl hw n (i + 1) roots' (by omega) (by omega) (by omega) q0 q1 hrow
     have ih2 : Ev (fun k => spec_TreeOk.l0 k t roots' ((i : Int) + 1)) (treeGo (t[i].f0 :: (t.take i).map (·.f0)) roots' t[i].f1 (t.drop (i + 1)) && ((t[0]'(by omega)).f0 == 1)) := by
      rw [← treeGo_congr (t.drop (i + 1)) _ _ roots' t[i].f1 hseen]
      exact ih
     have := st_l1 t hl roots' i hi _ ih2 i 0 (by omega)
     rw [List.drop_zero] at this
     exact this
    cases hroot : rootB t[i].f0 with
    | true =>
     simp only [if_true]
     have hw2 : wrap64 (roots + 1) = roots + 1 := wrap_id _ (by omega) (by omega)
     rw [hw2]
     by_cases he : t[i].f0 = roots + 1
     ·refine ev_pos he ?_
      rw [decide_eq_true he, Bool.true_and, Bool.and_assoc]
      exact hstep (roots + 1) (by omega) (by omega)
     ·refine ev_neg he ?_
      rw [decide_eq_false he, Bool.false_and, Bool.and_false, Bool.false_and]
      exact evnow _
    | false =>
     simp only [Bool.false_eq_true, if_false]
     rw [Bool.and_assoc]
     exact hstep roots r0 (by omega)
theorem stree_f (t : List S43) (hl : t.length ≤ 1000000000) (hw : ∀ r ∈ t, wfR r) : Ev (fun k => spec_TreeOk.f k t) (treeB t) := by
 unfold spec_TreeOk.f treeB
 cases t with
 | nil =>
  refine Ev.step (fun k => by simp only [spec_TreeOk.l0]; rfl) ?_
  exact ev_neg (by simp) (ev_neg (by decide) (evnow _))
 | cons r rest =>
  obtain ⟨w0, w1⟩ := hw r List.mem_cons_self
  have hr0 : rd_T43 (r :: rest) 0 = r := rdR_get (r :: rest) 0 (by simp)
  refine Ev.step (fun k => by simp only [spec_TreeOk.l0]; rfl) ?_
  refine ev_pos (by simp) (ev_pos (by omega) ?_)
  rw [hr0]
  refine Ev.bind (srow_f r w0 w1) ?_
  unfold treeGo
  cases hrow : rowB r with
  | false =>
   simp only [Bool.false_eq_true, if_false, Bool.false_and]
   refine Ev.step (fun k => by simp only [spec_TreeOk.j1]; rfl) ?_
   exact ev_pos trivial (evnow _)
  | true =>
   simp only [if_true, Bool.true_and]
   refine ev_neg (by omega) ?_
   refine Ev.step (fun k => by simp only [spec_TreeOk.j1]; rfl) ?_
   refine ev_neg (by decide) (ev_pos (by omega) (ev_pos (by simp) ?_))
   rw [hr0, root_f]
   simp only [Option.bind_some]
   have hstep : ∀ (roots' : Int), 0 ≤ roots' → roots' ≤ 1 → Ev (fun k => spec_TreeOk.j2 k (r :: rest) roots' 0) (treeGo [r.f0] roots' r.f1 rest && (r.f0 == 1)) := fun roots' q0 q1 => by
    refine Ev.step (fun k => by simp only [spec_TreeOk.j2]; rfl) ?_
    have ih := st_l0 (r :: rest) hl hw rest.length 1 roots' (by simp; omega) (by omega) (by simp) q0 (by omega) hrow
    have := st_l1 (r :: rest) hl roots' 0 (by simp) _ ih 0 0 rfl
    simpa using this
   have hdp := rowB_deep hrow
   cases hroot : rootB r.f0 with
   | true =>
    simp only [if_true]
    have hd : r.f1 = 0 := by
     unfold rowB at hrow
     rw [if_pos hroot] at hrow
     simp only [Bool.and_eq_true, decide_eq_true_eq] at hrow
     exact hrow.1
    rw [decide_eq_true (show r.f1 ≤ -1 + 1 by omega), Bool.true_and, show wrap64 (0 + 1) = 1 from wrap_id (0 + 1) (by omega) (by omega)]
    by_cases he : r.f0 = 1
    ·refine ev_pos he ?_
     have := hstep 1 (by omega) (by omega)
     have e1 : (r.f0 == 1) = true := beq_iff_eq.2 he
     rw [e1, Bool.and_true] at this
     simpa [he] using this
    ·refine ev_neg he ?_
     rw [decide_eq_false (show ¬ r.f0 = 0 + 1 by omega), Bool.false_and, Bool.and_false]
     exact evnow _
   | false =>
    simp only [Bool.false_eq_true, if_false]
    have hd : 1 ≤ r.f1 := by
     unfold rowB at hrow
     rw [if_neg (by rw [hroot]; decide)] at hrow
     simp only [Bool.and_eq_true, decide_eq_true_eq] at hrow
     exact hrow.2.1
    have hne : (r.f0 == 1) = false := beq_eq_false_iff_ne.2 fun e => by rw [e] at hroot; exact absurd hroot (by decide)
    rw [decide_eq_false (show ¬ r.f1 ≤ -1 + 1 by omega), Bool.false_and, Bool.and_false]
    have := hstep 0 (by omega) (by omega)
    rwa [hne, Bool.and_false] at this
theorem good_fold : ∀ (l : List S43) (G : Fo) (seen : List Int) (roots : Nat), treeGo seen (roots : Int) ((dpth G : Int) - 1) l = true → G.ids.Nodup → (∀ x ∈ G.ids, x ≠ 0 ∧ x < 37 ∧ (x : Int) ∈ seen) → G.tops = List.range' 1 roots →
  (l.foldl (fun G x => snoc x.f0.toNat x.f2 x.f1.toNat G) G).ids.Nodup ∧ (∀ x ∈ (l.foldl (fun G x => snoc x.f0.toNat x.f2 x.f1.toNat G) G).ids, x ≠ 0 ∧ x < 37) ∧ (l.foldl (fun G x => snoc x.f0.toNat x.f2 x.f1.toNat G) G).tops = [1, 2, 3]
 | [], G, seen, roots, h, hn, hs, ht => by
  unfold treeGo at h
  have h3 := of_decide_eq_true h
  refine ⟨hn, fun x hx => ⟨(hs x hx).1, (hs x hx).2.1⟩, ?_⟩
  show G.tops = _
  rw [ht, show roots = 3 by omega]; rfl
 | x :: l, G, seen, roots, h, hn, hs, ht => by
  unfold treeGo at h
  simp only [Bool.and_eq_true, decide_eq_true_eq] at h
  obtain ⟨hrow, hns, hdep, hrest⟩ := h
  obtain ⟨b0, b37, d0, d18⟩ := rowB_id hrow
  have he : x.f1.toNat ≤ dpth G := by omega
  have hd : ((dpth (snoc x.f0.toNat x.f2 x.f1.toNat G) : Int) - 1) = x.f1 := by rw [snoc_dpth _ _ G _ he]; omega
  have hx0 : x.f0.toNat ≠ 0 := by
   intro e
   have e2 : x.f0 = 0 := by omega
   unfold rowB at hrow
   rw [e2] at hrow
   have r0 : rootB (0 : Int) = false := by decide
   have m0 : madeB (0 : Int) = false := by decide
   simp [r0, m0] at hrow
  have hi : x.f0.toNat ∉ G.ids := fun hc => hns (by have := (hs _ hc).2.2; rwa [show ((x.f0.toNat : Nat) : Int) = x.f0 by omega] at this)
  have hn2 : (snoc x.f0.toNat x.f2 x.f1.toNat G).ids.Nodup := by
   rw [snoc_ids]
   exact List.nodup_append.2 ⟨hn, by simp, fun a ha b hb e => by rw [List.mem_singleton.1 hb] at e; exact hi (e ▸ ha)⟩
  have hs2 : ∀ y ∈ (snoc x.f0.toNat x.f2 x.f1.toNat G).ids, y ≠ 0 ∧ y < 37 ∧ (y : Int) ∈ x.f0 :: seen := fun y hy => by
   rw [snoc_ids] at hy
   rcases List.mem_append.1 hy with hy | hy
   ·obtain ⟨q1, q2, q3⟩ := hs y hy; exact ⟨q1, q2, List.mem_cons_of_mem _ q3⟩
   ·rw [List.mem_singleton.1 hy]
    exact ⟨hx0, by omega, by rw [show ((x.f0.toNat : Nat) : Int) = x.f0 by omega]; exact List.mem_cons_self⟩
  rw [List.foldl_cons]
  by_cases hroot : rootB x.f0 = true
  ·rw [if_pos hroot, Bool.and_eq_true, decide_eq_true_eq] at hrest
   have hd0 : x.f1 = 0 := by
    unfold rowB at hrow
    rw [if_pos hroot] at hrow
    simp only [Bool.and_eq_true, decide_eq_true_eq] at hrow
    exact hrow.1
   refine good_fold l _ (x.f0 :: seen) (roots + 1) ?_ hn2 hs2 ?_
   ·rw [hd]; exact hrest.2
   ·rw [snoc_tops _ _ G _ he, if_pos (by omega), ht, List.range'_concat]
    rw [show x.f0.toNat = 1 + 1 * roots by omega]
  ·rw [if_neg hroot] at hrest
   have hd1 : 1 ≤ x.f1 := by
    unfold rowB at hrow
    rw [if_neg hroot] at hrow
    simp only [Bool.and_eq_true, decide_eq_true_eq] at hrow
    exact hrow.2.1
   refine good_fold l _ (x.f0 :: seen) roots ?_ hn2 hs2 ?_
   ·rw [hd]; exact hrest
   ·rw [snoc_tops _ _ G _ he, if_neg (by omega), ht]
theorem good_of {l : List S43} (h : treeB l = true) : Good (toFo l) := by
 obtain ⟨h1, h2, h3⟩ := good_fold l .nil [] 0 h (by simp [Fo.ids]) (by simp [Fo.ids]) rfl
 exact ⟨h1, fun x hx => (h2 x hx).1, h3, by have := nodup_len 37 _ h1 (fun x hx => (h2 x hx).2); unfold toFo; omega⟩
theorem opB_kind {k i u a : Int} {s : ByteArray} (h : opB k i u a s = true) : k = 1 ∨ k = 2 ∨ k = 3 := by
 unfold opB at h
 by_cases h1 : k = 1
 ·exact Or.inl h1
 ·by_cases h2 : k = 2
  ·exact Or.inr (Or.inl h2)
  ·by_cases h3 : k = 3
   ·exact Or.inr (Or.inr h3)
   ·rw [if_neg h1, if_neg h2, if_neg h3] at h; simp at h
def opDoR (l : List S43) (k i u a : Int) (s : ByteArray) : List S43 := if opB k i u a s = true then (if treeB l = true then (doF (toFo l) k i u a s).fl 0 else []) else []
theorem iopDo_f (l : List S43) (k i u a : Int) (s : ByteArray) (hs : s.size ≤ 9223372036854775807) : Ev (fun n => impl_OpDo.f n l k i u a s) (opDoR l k i u a s) := by
 unfold impl_OpDo.f opDoR
 exact Ev.bind (opOk_f k i u a s hs) (evnow _)
theorem sopDo_f (l : List S43) (k i u a : Int) (s : ByteArray) (hl : l.length ≤ 1000000000) (hw : ∀ r ∈ l, wfR r) (hi : I64 i) (hu : I64 u) (ha : I64 a) (hs : s.size ≤ 9223372036854775807) : Ev (fun n => spec_OpDo.f n l k i u a s) (opDoR l k i u a s) := by
 unfold spec_OpDo.f opDoR
 refine Ev.bind (stree_f l hl hw) ?_
 cases ht : treeB l with
 | false =>
  simp only [Bool.false_eq_true, if_false, ite_self]
  exact evnow _
 | true =>
  simp only [if_true]
  refine Ev.bind (sop_f k i u a s hi hu ha hs) ?_
  cases ho : opB k i u a s with
  | false =>
   simp only [Bool.false_eq_true, if_false]
   exact evnow _
  | true =>
   simp only [if_true]
   obtain ⟨m, rfl, h4, h37⟩ := made_num (opB_made k i u a s ho)
   have g := good_of ht
   have := do_x g k m (by omega) (by rw [g.tops]; simp; omega) u a s (opB_kind ho)
   rw [toFo_fl ht] at this
   exact Ev.bind this (evnow _)
def okT (x : Nat) (t : ByteArray) : Bool := if rootB (x : Int) then (t.toList == ([] : List UInt8)) else madeB (x : Int) && textB t
structure Val (G : Fo) : Prop where
 nd : G.ids.Nodup
 tops : G.tops = [1, 2, 3]
 ok : ∀ x ∈ G.ids, okT x (txtF x G) = true
theorem okT_ne {x : Nat} {t : ByteArray} (h : okT x t = true) : 1 ≤ x ∧ x < 37 := by
 unfold okT at h
 by_cases hr : rootB (x : Int) = true
 ·unfold rootB at hr; simp only [Bool.and_eq_true, decide_eq_true_eq] at hr; omega
 ·rw [if_neg hr, Bool.and_eq_true] at h
  have := made_small _ h.1
  obtain ⟨m, hm, h4, h37⟩ := made_num h.1
  omega
theorem Val.ne0 {G : Fo} (v : Val G) : ∀ x ∈ G.ids, x ≠ 0 := fun x hx => by have := okT_ne (v.ok x hx); omega
theorem Val.three {G : Fo} (v : Val G) : 3 ∈ G.tops := by rw [v.tops]; simp
theorem made_not_root {x : Int} (h : madeB x = true) : rootB x = false := by
 obtain ⟨m, rfl, h4, h37⟩ := made_num h
 unfold rootB; simp; omega
theorem Val.top {G : Fo} (v : Val G) {x : Nat} (hm : madeB (x : Int) = true) : x ∉ G.tops := by
 have := made_not_root hm
 rw [v.tops]
 intro h
 simp only [List.mem_cons, List.not_mem_nil, or_false] at h
 rcases h with rfl | rfl | rfl <;> exact absurd this (by decide)
theorem sub_len : ∀ (l m : List Nat), l.Nodup → (∀ x ∈ l, x ∈ m) → l.length ≤ m.length
 | [], m, _, _ => Nat.zero_le _
 | x :: l, m, hn, h => by
  obtain ⟨h1, h2⟩ := List.nodup_cons.1 hn
  have := sub_len l (m.erase x) h2 fun y hy => (List.mem_erase_of_ne (fun (e : y = x) => h1 (e ▸ hy))).2 (h y (List.mem_cons_of_mem _ hy))
  rw [List.length_erase_of_mem (h x List.mem_cons_self)] at this
  have := List.length_pos_of_mem (h x List.mem_cons_self)
  simp only [List.length_cons]; omega
theorem made_list : ∀ n : Nat, n < 37 → madeB (n : Int) = true → n ∈ [11, 12, 13, 14, 15, 16, 21, 22, 23, 24, 25, 26, 31, 32, 33, 34, 35, 36] := by decide
theorem all_list : ∀ n : Nat, n < 37 → (rootB (n : Int) || madeB (n : Int)) = true → n ∈ [1, 2, 3, 11, 12, 13, 14, 15, 16, 21, 22, 23, 24, 25, 26, 31, 32, 33, 34, 35, 36] := by decide
theorem Val.len {G : Fo} (v : Val G) : G.ids.length ≤ 21 := sub_len _ [1, 2, 3, 11, 12, 13, 14, 15, 16, 21, 22, 23, 24, 25, 26, 31, 32, 33, 34, 35, 36] v.nd fun x hx => by
 have h := v.ok x hx
 have h2 := okT_ne h
 refine all_list x h2.2 ?_
 unfold okT at h
 by_cases hr : rootB (x : Int) = true
 ·rw [hr]; rfl
 ·rw [if_neg hr, Bool.and_eq_true] at h
  rw [h.1, Bool.or_true]
theorem Val.good {G : Fo} (v : Val G) : Good G := ⟨v.nd, v.ne0, v.tops, by have := v.len; omega⟩
theorem made_of_ok {x : Nat} {t : ByteArray} (h : okT x t = true) (h3 : 4 ≤ x) : madeB (x : Int) = true ∧ textB t = true := by
 unfold okT at h
 have hr : ¬ rootB (x : Int) = true := by unfold rootB; simp; omega
 rwa [if_neg hr, Bool.and_eq_true] at h
theorem treeGo_rows : ∀ (l : List S43) (seen : List Int) (roots d : Int), treeGo seen roots d l = true → ∀ r ∈ l, rowB r = true
 | [], _, _, _, _, r, hr => by cases hr
 | x :: l, seen, roots, d, h, r, hr => by
  unfold treeGo at h
  simp only [Bool.and_eq_true] at h
  obtain ⟨h1, _, _, h2⟩ := h
  rcases List.mem_cons.1 hr with rfl | hr
  ·exact h1
  ·split at h2
   ·simp only [Bool.and_eq_true] at h2; exact treeGo_rows l _ _ _ h2.2 r hr
   ·exact treeGo_rows l _ _ _ h2 r hr
theorem row_fl {G : Fo} (hn : G.ids.Nodup) {x d : Nat} (hx : x ∈ G.ids) : (⟨(x : Int), (dep x d G : Int), txtF x G⟩ : S43) ∈ G.fl d := by
 obtain ⟨pre, post, s⟩ := spot x G d hn hx
 rw [s.all]; simp
theorem val_of {l : List S43} (h : treeB l = true) : Val (toFo l) := by
 have g := good_of h
 refine ⟨g.nd, g.tops, fun x hx => ?_⟩
 have hr := row_fl g.nd (d := 0) hx
 rw [toFo_fl h] at hr
 have := treeGo_rows l _ _ _ h _ hr
 unfold rowB at this
 unfold okT
 simp only at this
 split
 ·rename_i e; rw [if_pos e, Bool.and_eq_true] at this; exact this.2
 ·rename_i e; rw [if_neg e] at this; simp only [Bool.and_eq_true] at this; rw [this.1, this.2.2.2]; rfl
theorem go_in : ∀ (F : Fo) (d : Nat) (seen : List Int) (roots prev : Int) (rest : List S43), 1 ≤ d → (d : Int) ≤ prev + 1 → F.ids.Nodup → (∀ x ∈ F.ids, (x : Int) ∉ seen) → (∀ r ∈ F.fl d, rowB r = true ∧ rootB r.f0 = false) →
  (∀ (seen' : List Int) (prev' : Int), (d : Int) ≤ prev' + 1 → (∀ y, y ∈ seen' ↔ y ∈ seen ∨ ∃ x ∈ F.ids, y = (x : Int)) → treeGo seen' roots prev' rest = true) → treeGo seen roots prev (F.fl d ++ rest) = true
 | .nil, d, seen, roots, prev, rest, h1, hd, hn, hs, hr, k => k seen prev hd fun y => by simp [Fo.ids]
 | .nd j t k n, d, seen, roots, prev, rest, h1, hd, hn, hs, hr, kk => by
  obtain ⟨n1, n2, n3, n4, n5⟩ := nodup_nd hn
  obtain ⟨q1, q2⟩ := hr ⟨(j : Int), (d : Int), t⟩ (by simp [Fo.fl])
  simp only at q2
  rw [Fo.fl, List.cons_append, List.append_assoc]
  unfold treeGo
  simp only [q1, q2, Bool.true_and, Bool.false_eq_true, if_false]
  rw [decide_eq_true (hs j (by simp [Fo.ids])), decide_eq_true hd, Bool.true_and, Bool.true_and]
  refine go_in k (d + 1) _ roots d _ (by omega) (by omega) n3 (fun x hx => ?_) (fun r hr' => hr r (by simp [Fo.fl, hr'])) fun seen1 prev1 hp1 hs1 => ?_
  ·rw [List.mem_cons, not_or]
   exact ⟨fun e => n1 (by rw [show j = x by omega]; exact hx), hs x (by simp [Fo.ids, hx])⟩
  ·refine go_in n d seen1 roots prev1 rest h1 (by omega) n4 (fun x hx => ?_) (fun r hr' => hr r (by simp [Fo.fl, hr'])) fun seen2 prev2 hp2 hs2 => ?_
   ·rw [hs1, List.mem_cons]
    rintro ((e | e) | ⟨z, hz, e⟩)
    ·exact n2 (by rw [show j = x by omega]; exact hx)
    ·exact hs x (by simp [Fo.ids, hx]) e
    ·exact n5 z hz (by rw [show z = x by omega]; exact hx)
   ·refine kk seen2 prev2 hp2 fun y => ?_
    rw [hs2, hs1]
    simp only [Fo.ids, List.mem_cons, List.mem_append]
    constructor
    ·rintro (((e | e) | ⟨x, hx, e⟩) | ⟨x, hx, e⟩)
     ·exact Or.inr ⟨j, Or.inl rfl, e⟩
     ·exact Or.inl e
     ·exact Or.inr ⟨x, Or.inr (Or.inl hx), e⟩
     ·exact Or.inr ⟨x, Or.inr (Or.inr hx), e⟩
    ·rintro (e | ⟨x, rfl | hx | hx, e⟩)
     ·exact Or.inl (Or.inl (Or.inr e))
     ·exact Or.inl (Or.inl (Or.inl e))
     ·exact Or.inl (Or.inr ⟨x, hx, e⟩)
     ·exact Or.inr ⟨x, hx, e⟩
theorem fl_get {F : Fo} {d : Nat} {r : S43} (hn : F.ids.Nodup) (h : r ∈ F.fl d) : ∃ x ∈ F.ids, r = ⟨(x : Int), (dep x d F : Int), txtF x F⟩ := by
 obtain ⟨x, hx, e⟩ := fl_ids F d h
 obtain ⟨pre, post, s⟩ := spot x F d hn hx
 refine ⟨x, hx, ?_⟩
 have hm := fl_map F d
 have hnd : ((F.fl d).map (·.f0)).Nodup := by
  rw [hm]
  exact (List.pairwise_map.2 (List.Pairwise.imp (fun {a b} (hne : a ≠ b) => (by intro e2; exact hne (Int.ofNat.inj e2) : Int.ofNat a ≠ Int.ofNat b)) hn))
 rw [s.all] at h hnd
 rw [List.map_append, List.map_cons, List.nodup_append] at hnd
 obtain ⟨_, h2, h3⟩ := hnd
 rcases List.mem_append.1 h with h | h
 ·exact absurd e (s.out r h)
 ·rcases List.mem_cons.1 h with h | h
  ·exact h
  ·exfalso
   refine (List.nodup_cons.1 h2).1 ?_
   rw [← e]
   exact List.mem_map.2 ⟨r, h, rfl⟩
theorem three_shape {G : Fo} (h : G.tops = [1, 2, 3]) : ∃ t1 k1 t2 k2 t3 k3, G = .nd 1 t1 k1 (.nd 2 t2 k2 (.nd 3 t3 k3 .nil)) := by
 match G, h with
 | .nd a t1 k1 (.nd b t2 k2 (.nd c t3 k3 .nil)), h =>
  simp only [Fo.tops, List.cons.injEq, and_true] at h
  obtain ⟨rfl, rfl, rfl⟩ := h
  exact ⟨t1, k1, t2, k2, t3, k3, rfl⟩
theorem treeB_fl {G : Fo} (v : Val G) : treeB (G.fl 0) = true := by
 have hok := v.ok
 have hnd := v.nd
 obtain ⟨t1, k1, t2, k2, t3, k3, rfl⟩ := three_shape v.tops
 obtain ⟨a1, a2, a3, a4, a5⟩ := nodup_nd hnd
 obtain ⟨b1, b2, b3, b4, b5⟩ := nodup_nd a4
 obtain ⟨c1, c2, c3, c4, c5⟩ := nodup_nd b4
 simp only [Fo.ids, List.mem_cons, List.mem_append, not_or, List.not_mem_nil, or_false, not_false_eq_true, and_true] at a2 a5 b2 b5
 replace a5 : ∀ x ∈ k1.ids, (x = 2 ∨ x ∈ k2.ids ∨ x = 3 ∨ x ∈ k3.ids) → False := fun x hx g => by have := a5 x hx; grind
 replace b5 : ∀ x ∈ k2.ids, (x = 3 ∨ x ∈ k3.ids) → False := fun x hx g => by have := b5 x hx; grind
 have big : ∀ k : Fo, k.ids.Nodup → (∀ x ∈ k.ids, x ≠ 1 ∧ x ≠ 2 ∧ x ≠ 3) → (∀ x ∈ k.ids, okT x (txtF x k) = true) → ∀ r ∈ k.fl 1, rowB r = true ∧ rootB r.f0 = false := by
  intro k hn hne hk r hr
  obtain ⟨x, hx, rfl⟩ := fl_get hn hr
  have h4 := hne x hx
  have h5 := okT_ne (hk x hx)
  obtain ⟨m1, m2⟩ := made_of_ok (hk x hx) (by omega)
  have mr := made_not_root m1
  have hd := fl_deep k 1 hr
  have hl := fl_le k 1 hr
  have hlen : k.ids.length ≤ 18 := sub_len _ [11, 12, 13, 14, 15, 16, 21, 22, 23, 24, 25, 26, 31, 32, 33, 34, 35, 36] hn fun y hy => by
   have g4 := hne y hy
   have g5 := okT_ne (hk y hy)
   exact made_list y g5.2 (made_of_ok (hk y hy) (by omega)).1
  simp only at hd hl
  refine ⟨?_, mr⟩
  unfold rowB
  simp only [mr, Bool.false_eq_true, if_false, m1, m2, Bool.true_and, Bool.and_true]
  rw [decide_eq_true (by omega), decide_eq_true (by omega)]; rfl
 have root : ∀ (x : Nat) (t : ByteArray), rootB (x : Int) = true → okT x t = true → rowB ⟨(x : Int), 0, t⟩ = true := by
  intro x t hr h
  unfold okT at h
  rw [if_pos hr] at h
  unfold rowB
  simp only [hr, if_true, h]; rfl
 have o1 : okT 1 t1 = true := by have := hok 1 (by simp [Fo.ids]); rwa [txtF, if_pos rfl] at this
 have o2 : okT 2 t2 = true := by have := hok 2 (by simp [Fo.ids]); rwa [txtF, if_neg (by decide), if_neg (fun g => a5 2 g (Or.inl rfl)), txtF, if_pos rfl] at this
 have o3 : okT 3 t3 = true := by have := hok 3 (by simp [Fo.ids]); rwa [txtF, if_neg (by decide), if_neg (fun g => a5 3 g (Or.inr (Or.inr (Or.inl rfl)))), txtF, if_neg (by decide), if_neg (fun g => b5 3 g (Or.inl rfl)), txtF, if_pos rfl] at this
 have i1 : ∀ x ∈ k1.ids, okT x (txtF x k1) = true := fun x hx => by
  have := hok x (by simp [Fo.ids, hx])
  rwa [txtF, if_neg (fun e => a1 (by rw [e]; exact hx)), if_pos hx] at this
 have i2 : ∀ x ∈ k2.ids, okT x (txtF x k2) = true := fun x hx => by
  have := hok x (by simp [Fo.ids, hx])
  rwa [txtF, if_neg (fun e => a2.2.1 (by rw [e]; exact hx)), if_neg (fun g => a5 x g (by grind)), txtF, if_neg (fun e => b1 (by rw [e]; exact hx)), if_pos hx] at this
 have i3 : ∀ x ∈ k3.ids, okT x (txtF x k3) = true := fun x hx => by
  have := hok x (by simp [Fo.ids, hx])
  rwa [txtF, if_neg (fun e => a2.2.2.2 (by rw [e]; exact hx)), if_neg (fun g => a5 x g (by grind)), txtF, if_neg (fun e => b2.2 (by rw [e]; exact hx)), if_neg (fun g => b5 x g (by grind)), txtF, if_neg (fun e => c1 (by rw [e]; exact hx)), if_pos hx] at this
 have e1 := big k1 a3 (fun x hx => ⟨fun e => a1 (e ▸ hx), fun e => a5 x hx (Or.inl e), fun e => a5 x hx (Or.inr (Or.inr (Or.inl e)))⟩) i1
 have e2 := big k2 b3 (fun x hx => ⟨fun e => a2.2.1 (e ▸ hx), fun e => b1 (e ▸ hx), fun e => b5 x hx (Or.inl e)⟩) i2
 have e3 := big k3 c3 (fun x hx => ⟨fun e => a2.2.2.2 (e ▸ hx), fun e => b2.2 (e ▸ hx), fun e => c1 (e ▸ hx)⟩) i3
 have r1 := root 1 t1 (by decide) o1
 have r2 := root 2 t2 (by decide) o2
 have r3 := root 3 t3 (by decide) o3
 simp only [Fo.fl, Nat.zero_add, List.append_nil]
 unfold treeB
 have q1 : rootB ((1 : Nat) : Int) = true := by decide
 have q2 : rootB ((2 : Nat) : Int) = true := by decide
 have q3 : rootB ((3 : Nat) : Int) = true := by decide
 unfold treeGo
 simp only [Int.natCast_zero] at r1 r2 r3 ⊢
 rw [r1, Bool.true_and, decide_eq_true (by simp), Bool.true_and, decide_eq_true (by omega), Bool.true_and, if_pos q1, decide_eq_true (by omega), Bool.true_and]
 refine go_in k1 1 _ _ _ _ (by omega) (by omega) a3 (fun x hx => ?_) e1 fun s1 p1 hp1 hs1 => ?_
 ·simp only [List.mem_cons, List.not_mem_nil, or_false]
  intro e; exact a1 (by rw [show 1 = x by omega]; exact hx)
 unfold treeGo
 have z2 : ((2 : Nat) : Int) ∉ s1 := by
  rw [hs1]; simp only [List.mem_cons, List.not_mem_nil, or_false]
  rintro (e | ⟨x, hx, e⟩)
  ·omega
  ·exact a5 x hx (Or.inl (by omega))
 simp only
 rw [r2, Bool.true_and, decide_eq_true z2, Bool.true_and, decide_eq_true (by omega), Bool.true_and, if_pos q2, decide_eq_true (by omega), Bool.true_and]
 refine go_in k2 1 _ _ _ _ (by omega) (by omega) b3 (fun x hx => ?_) e2 fun s2 p2 hp2 hs2 => ?_
 ·rw [List.mem_cons, hs1]; simp only [List.mem_cons, List.not_mem_nil, or_false]
  rintro (e | e | ⟨y, hy, e⟩)
  ·exact b1 (by rw [show 2 = x by omega]; exact hx)
  ·exact a2.2.1 (by rw [show 1 = x by omega]; exact hx)
  ·exact a5 y hy (by rw [show y = x by omega]; exact Or.inr (Or.inl hx))
 unfold treeGo
 have z3 : ((3 : Nat) : Int) ∉ s2 := by
  rw [hs2, List.mem_cons, hs1]; simp only [List.mem_cons, List.not_mem_nil, or_false]
  rintro ((e | e | ⟨x, hx, e⟩) | ⟨x, hx, e⟩)
  ·omega
  ·omega
  ·exact a5 x hx (Or.inr (Or.inr (Or.inl (by omega))))
  ·exact b5 x hx (Or.inl (by omega))
 simp only
 rw [r3, Bool.true_and, decide_eq_true z3, Bool.true_and, decide_eq_true (by omega), Bool.true_and, if_pos q3, decide_eq_true (by omega), Bool.true_and]
 rw [← List.append_nil (k3.fl 1)]
 refine go_in k3 1 _ _ _ _ (by omega) (by omega) c3 (fun x hx => ?_) e3 fun s3 p3 hp3 hs3 => ?_
 ·rw [List.mem_cons, hs2, List.mem_cons, hs1]; simp only [List.mem_cons, List.not_mem_nil, or_false]
  rintro (e | (e | e | ⟨y, hy, e⟩) | ⟨y, hy, e⟩)
  ·exact c1 (by rw [show 3 = x by omega]; exact hx)
  ·exact b2.2 (by rw [show 2 = x by omega]; exact hx)
  ·exact a2.2.2.2 (by rw [show 1 = x by omega]; exact hx)
  ·exact a5 y hy (by rw [show y = x by omega]; exact Or.inr (Or.inr (Or.inr hx)))
  ·exact b5 y hy (by rw [show y = x by omega]; exact Or.inr hx)
 unfold treeGo
 exact decide_eq_true (by omega)
theorem made_nat {k i u a : Int} {s : ByteArray} (h : opB k i u a s = true) : ∃ m : Nat, i = (m : Int) ∧ 4 ≤ m ∧ m < 37 ∧ madeB (m : Int) = true := by
 obtain ⟨m, rfl, h4, h37⟩ := made_num (opB_made k i u a s h)
 exact ⟨m, rfl, h4, h37, opB_made k _ u a s h⟩
theorem Val.does {G : Fo} (v : Val G) {k u a : Int} {i : Nat} {s : ByteArray} (h : opB k (i : Int) u a s = true) : Does G k i u a s (doF G k i u a s) :=
 FP.does v.nd v.ne0 v.three k i (v.top (opB_made _ _ _ _ _ h)) u a s (opB_kind h)
theorem opB_text {k i u a : Int} {s : ByteArray} (h : opB k i u a s = true) (hk : k = 1 ∨ k = 2) : textB s = true := by
 unfold opB at h
 simp only [Bool.and_eq_true] at h
 rcases hk with rfl | rfl
 ·rw [if_pos rfl, Bool.and_eq_true] at h; exact h.2.2
 ·rw [if_neg (by decide), if_pos rfl] at h; simp only [Bool.and_eq_true] at h; exact h.2.2
theorem okT_made {x : Nat} {t : ByteArray} (h : madeB (x : Int) = true) (ht : textB t = true) : okT x t = true := by
 unfold okT; rw [made_not_root h, h, ht]; rfl
theorem Val.done {G : Fo} (v : Val G) {k u a : Int} {i : Nat} {s : ByteArray} (h : opB k (i : Int) u a s = true) {G' : Fo} (hd : Does G k i u a s G') : Val G' := by
 have hm := opB_made _ _ _ _ _ h
 have hi0 : i ≠ 0 := by rintro rfl; exact absurd hm (by decide)
 obtain ⟨h1, h2, h3⟩ := do_tops v.nd v.ne0 hi0 (v.top hm) hd
 refine ⟨h2, h1.trans v.tops, fun x hx => ?_⟩
 cases hd with
 | text hk hi =>
  rw [setF_ids] at hx
  by_cases e : x = i
  ·subst e; rw [set_txt_eq _ _ hi]; exact okT_made hm (opB_text h (Or.inr hk))
  ·rw [set_txt_ne _ _ e]; exact v.ok x hx
 | make hk hi o =>
  rcases (o.mem x).1 hx with rfl | g | g
  ·rw [o.txt]; exact okT_made hm (opB_text h (Or.inl hk))
  ·simp [Fo.ids] at g
  ·rw [o.txt_old g]; exact v.ok x g
 | move hk hi hw o => rw [o.txt ((o.ids x).1 hx)]; exact v.ok x ((o.ids x).1 hx)
 | none hk => exact v.ok x hx
theorem Val.doF {G : Fo} (v : Val G) {k u a : Int} {i : Nat} {s : ByteArray} (h : opB k (i : Int) u a s = true) : Val (doF G k i u a s) := v.done h (v.does h)
theorem opDo_val {l : List S43} {k u a : Int} {i : Nat} {s : ByteArray} (ho : opB k (i : Int) u a s = true) (ht : treeB l = true) :
  opDoR l k i u a s = (FP.doF (toFo l) k i u a s).fl 0 ∧ treeB (opDoR l k i u a s) = true ∧ toFo (opDoR l k i u a s) = FP.doF (toFo l) k i u a s ∧ Val (FP.doF (toFo l) k i u a s) := by
 have e : opDoR l k i u a s = (FP.doF (toFo l) k i u a s).fl 0 := by unfold opDoR; rw [if_pos ho, if_pos ht]
 have v := (val_of ht).doF ho
 have ht2 : treeB (opDoR l k i u a s) = true := by rw [e]; exact treeB_fl v
 exact ⟨e, ht2, toFo_of ht2 e.symm, v⟩
end Go.Proofs.YtkopimbbgckcnaaDoor.PL
namespace Go.Proofs.YtkopimbbgckcnaaDoor.FP
open Go.Proofs.YtkopimbbgckcnaaDoor.P
theorem sib_insFirst_new (p i : Nat) (t : ByteArray) (s : Fo) : ∀ {F : Fo} (q : Nat), i ∉ F.ids → p ∈ F.ids → sib i q (insFirst p i t s F) = 0
 | .nil, _, _, h => by simp [Fo.ids] at h
 | .nd j u k n, q, h, hp => by
  simp only [Fo.ids, List.mem_cons, List.mem_append, not_or] at h hp
  have hj : ¬ j = i := fun e => h.1 e.symm
  rw [insFirst]
  by_cases e : j = p
  ·rw [if_pos e, sib, if_neg hj, if_pos (by simp [Fo.ids]), sib, if_pos rfl]
  ·rw [if_neg e, sib, if_neg hj]
   by_cases hk : p ∈ k.ids
   ·rw [if_pos ((mem_insFirst p i t s i k).2 (Or.inr ⟨hk, Or.inl rfl⟩)), sib_insFirst_new p i t s 0 h.2.1 hk]
   ·rw [if_neg (by rw [mem_insFirst]; grind), sib_insFirst_new p i t s j h.2.2 (by grind)]
theorem sib_insAfter_new (a i : Nat) (t : ByteArray) (s : Fo) : ∀ {F : Fo} (q : Nat), i ∉ F.ids → a ∈ F.ids → sib i q (insAfter a i t s F) = a
 | .nil, _, _, h => by simp [Fo.ids] at h
 | .nd j u k n, q, h, hp => by
  simp only [Fo.ids, List.mem_cons, List.mem_append, not_or] at h hp
  have hj : ¬ j = i := fun e => h.1 e.symm
  rw [insAfter]
  by_cases e : j = a
  ·rw [if_pos e, sib, if_neg hj, if_neg h.2.1, sib, if_pos rfl, e]
  ·rw [if_neg e, sib, if_neg hj]
   by_cases hk : a ∈ k.ids
   ·rw [if_pos ((mem_insAfter a i t s i k).2 (Or.inr ⟨hk, Or.inl rfl⟩)), sib_insAfter_new a i t s 0 h.2.1 hk]
   ·rw [if_neg (by rw [mem_insAfter]; grind), sib_insAfter_new a i t s j h.2.2 (by grind)]
theorem sibT_insFirst_new (p i : Nat) (t : ByteArray) (s : Fo) : ∀ {F : Fo}, i ∉ F.ids → p ∈ F.ids → sibT i (insFirst p i t s F) = 0
 | .nil, _, h => by simp [Fo.ids] at h
 | .nd j u k n, h, hp => by
  simp only [Fo.ids, List.mem_cons, List.mem_append, not_or] at h hp
  rw [insFirst]
  by_cases e : j = p
  ·rw [if_pos e, sibT, if_pos (by simp [Fo.ids]), sib, if_pos rfl]
  ·rw [if_neg e, sibT]
   by_cases hk : p ∈ k.ids
   ·rw [if_pos ((mem_insFirst p i t s i k).2 (Or.inr ⟨hk, Or.inl rfl⟩)), sib_insFirst_new p i t s 0 h.2.1 hk]
   ·rw [if_neg (by rw [mem_insFirst]; grind), sibT_insFirst_new p i t s h.2.2 (by grind)]
theorem sibT_insAfter_new (a i : Nat) (t : ByteArray) (s : Fo) : ∀ {F : Fo}, i ∉ F.ids → a ∈ F.ids → a ∉ F.tops → sibT i (insAfter a i t s F) = a
 | .nil, _, h, _ => by simp [Fo.ids] at h
 | .nd j u k n, h, hp, ht => by
  simp only [Fo.ids, Fo.tops, List.mem_cons, List.mem_append, not_or] at h hp ht
  have e : ¬ j = a := fun g => ht.1 g.symm
  rw [insAfter, if_neg e, sibT]
  by_cases hk : a ∈ k.ids
  ·rw [if_pos ((mem_insAfter a i t s i k).2 (Or.inr ⟨hk, Or.inl rfl⟩)), sib_insAfter_new a i t s 0 h.2.1 hk]
  ·rw [if_neg (by rw [mem_insAfter]; grind), sibT_insAfter_new a i t s h.2.2 (by grind) ht.2]
theorem PutOk.sib {H : Fo} {q : Nat × Nat} {i : Nat} {s : Fo} {t : ByteArray} (o : PutOk H q i s) (h0 : ∀ x ∈ H.ids, x ≠ 0) : sibT i (putF H q i t s) = q.2 := by
 have ht := near_at_top (G := H) o.nd h0 o h0
 unfold putF
 by_cases h : q.2 = 0
 ·rw [if_pos h, sibT_insFirst_new _ _ _ _ o.iH o.up, h]
 ·rw [if_neg h, sibT_insAfter_new _ _ _ _ o.iH (o.at_.resolve_left h).1 (ht.resolve_left h)]
theorem MvOk.sib {G : Fo} {q : Nat × Nat} {i : Nat} (o : MvOk G i q) (h0 : ∀ x ∈ G.ids, x ≠ 0) : sibT i (mvF G q i) = q.2 := o.put.sib fun x hx => h0 x (del_ids_sub i hx)
theorem MvOk.par_new {G : Fo} {q : Nat × Nat} {i : Nat} (o : MvOk G i q) : par i 0 (mvF G q i) = q.1 := o.put.par
end Go.Proofs.YtkopimbbgckcnaaDoor.FP
namespace Go.Proofs.YtkopimbbgckcnaaDoor.PL
open Go.RowKit Go.Proofs.YtkopimbbgckcnaaDoor.P Go.Proofs.YtkopimbbgckcnaaDoorW.PrintWords Go.Proofs.YtkopimbbgckcnaaDoorW.PrintLast
theorem of_f (b : List Int) (p : Int) (m : Nat) (l : List ByteArray) (hb : Bytes b) (hp : Rd p (m + 1)) (h1 : 1 ≤ l.length) (h2 : l.length ≤ 1000) : ∃ (s : ByteArray), Ev (fun k => spec_l6Rd_of.f k b p l) (s, p + 1) ∧ s ∈ l := by
 obtain ⟨r, hr, _, h0, hlt, _⟩ := pick_f b p (l.length : Int) m hb hp
 have hlt := hlt (by omega)
 have hi : r.toNat < l.length := by omega
 refine ⟨l[r.toNat], ?_, List.getElem_mem hi⟩
 unfold spec_l6Rd_of.f
 refine Ev.bind hr ?_
 refine ev_pos h0 (ev_pos hlt ?_)
 have : rdOf ByteArray.empty l r = l[r.toNat] := by
  unfold rdOf
  rw [List.getD_eq_getElem?_getD, List.getElem?_eq_getElem hi]
  rfl
 rw [this]
 exact evnow _
theorem text_l0_f (b : List Int) (hb : Bytes b) : ∀ (n : Nat) (s : ByteArray) (p : Int) (m : Nat), s.size + n ≤ 1000 → Rd p (m + n + 2) → ∃ (s' : ByteArray) (p' : Int), Ev (fun k => spec_l71Text.l0 k s n b p) (s', p') ∧ Rd p' m ∧ s'.size ≤ 1010
 | 0, s, p, m, hs, hp => by
  obtain ⟨r, hr, hR, _, _, _⟩ := pick_f b p 40 (m + 1) hb hp
  by_cases h0 : r = 0
  ·obtain ⟨u, hu, hm⟩ := of_f b (p + 1) m [(⟨#[101]⟩ : ByteArray), (⟨#[32]⟩ : ByteArray), (⟨#[97, 97, 97, 97]⟩ : ByteArray), (⟨#[39]⟩ : ByteArray)] hb hR (by simp) (by simp)
   have hz : u.size ≤ 4 := by
    simp only [List.mem_cons, List.not_mem_nil, or_false] at hm
    rcases hm with rfl | rfl | rfl | rfl <;> decide
   refine ⟨s ++ u, p + 1 + 1, ?_, ⟨by have := hR.1; omega, by have := hR.2; omega⟩, by rw [ByteArray.size_append]; omega⟩
   refine Ev.step (fun k => by simp only [spec_l71Text.l0]; rfl) ?_
   refine ev_neg (by omega) (Ev.bind hr (ev_pos h0 (Ev.bind hu (ev_pos (show s.size + u.size ≤ 9223372036854775807 by omega) (evnow _)))))
  ·refine ⟨s, p + 1, ?_, hR.less (by omega), by omega⟩
   refine Ev.step (fun k => by simp only [spec_l71Text.l0]; rfl) ?_
   exact ev_neg (by omega) (Ev.bind hr (ev_neg h0 (evnow _)))
 | n + 1, s, p, m, hs, hp => by
  obtain ⟨u, hu, hm⟩ := of_f b p (m + n + 2) [(⟨#[97]⟩ : ByteArray), (⟨#[98]⟩ : ByteArray), (⟨#[99]⟩ : ByteArray), (⟨#[100]⟩ : ByteArray)] hb (hp.less (by omega)) (by simp) (by simp)
  have hz : u.size = 1 := by
   simp only [List.mem_cons, List.not_mem_nil, or_false] at hm
   rcases hm with rfl | rfl | rfl | rfl <;> decide
  obtain ⟨s', p', h1, h2, h3⟩ := text_l0_f b hb n (s ++ u) (p + 1) m (by rw [ByteArray.size_append]; omega) ⟨by have := hp.1; omega, by have := hp.2; omega⟩
  refine ⟨s', p', ?_, h2, h3⟩
  refine Ev.step (fun k => by simp only [spec_l71Text.l0]; rfl) ?_
  refine ev_pos (by omega) (Ev.bind hu (ev_pos (show s.size + u.size ≤ 9223372036854775807 by omega) ?_))
  have hw : wrap64 (((n + 1 : Nat) : Int) - 1) = n := by rw [wrap_id _ (by omega) (by have := hs; omega)]; omega
  rw [hw]
  exact h1
theorem dtext_f (b : List Int) (p : Int) (m : Nat) (hb : Bytes b) (hp : Rd p (m + 6)) : ∃ (s : ByteArray) (p' : Int), Ev (fun k => spec_l71Text.f k b p) (s, p') ∧ Rd p' m ∧ s.size ≤ 1010 := by
 obtain ⟨r, hr, hR, h0, hlt, _⟩ := pick_f b p 4 (m + 5) hb hp
 have hlt := hlt (by omega)
 obtain ⟨n, rfl⟩ : ∃ n : Nat, r = n := ⟨r.toNat, by omega⟩
 obtain ⟨s', p', h1, h2, h3⟩ := text_l0_f b hb n ⟨#[]⟩ (p + 1) m (by show 0 + n ≤ 1000; omega) (hR.less (by omega))
 refine ⟨s', p', ?_, h2, h3⟩
 unfold spec_l71Text.f
 exact Ev.bind hr h1
theorem did_f (b : List Int) (p : Int) (m : Nat) (hb : Bytes b) (hp : Rd p (m + 2)) : ∃ r p' : Int, Ev (fun k => spec_l71Id.f k b p) (r, p') ∧ Rd p' m ∧ 11 ≤ r ∧ r ≤ 44 := by
 obtain ⟨x, hx, hR, x0, x1, _⟩ := pick_f b p 3 (m + 1) hb hp
 obtain ⟨y, hy, hR2, y0, y1, _⟩ := pick_f b (p + 1) 4 m hb hR
 have x1 := x1 (by omega)
 have y1 := y1 (by omega)
 have e : wrap64 (wrap64 (wrap64 (10 * wrap64 (1 + x)) + 1) + y) = 10 * (1 + x) + 1 + y := by
  rw [wrap_id (1 + x) (by omega) (by omega), wrap_id (10 * (1 + x)) (by omega) (by omega), wrap_id (10 * (1 + x) + 1) (by omega) (by omega), wrap_id _ (by omega) (by omega)]
 refine ⟨10 * (1 + x) + 1 + y, p + 1 + 1, ?_, hR2, by omega, by omega⟩
 unfold spec_l71Id.f
 refine Ev.bind hx (Ev.bind hy ?_)
 rw [e]
 exact evnow _
theorem i64_small {x : Int} (h0 : -1000 ≤ x) (h1 : x ≤ 1000) : I64 x := ⟨by omega, by omega⟩
def OpX (k i u a : Int) (s : ByteArray) : Prop := I64 k ∧ I64 i ∧ I64 u ∧ I64 a ∧ s.size ≤ 2000
theorem opx_j1 (b : List Int) (hb : Bytes b) (k i u a p : Int) (s : ByteArray) (m : Nat) (h : OpX k i u a s) (hp : Rd p (m + 2)) :
  ∃ (k' i' u' a' : Int) (s' : ByteArray) (p' : Int), Ev (fun n => spec_l71Op.j1 n b p k i u a s) (k', i', u', a', s', p') ∧ OpX k' i' u' a' s' ∧ Rd p' m := by
 obtain ⟨h1, h2, h3, h4, h5⟩ := h
 obtain ⟨r, hr, hR, r0, r1, _⟩ := pick_f b p 30 (m + 1) hb hp
 obtain ⟨x, hx, hX, x0, x1, _⟩ := pick_f b (p + 1) 5 m hb hR
 obtain ⟨y, hy, hY, y0, y1, _⟩ := pick_f b (p + 1) 50 m hb hR
 have x1 := x1 (by omega)
 have y1 := y1 (by omega)
 have ix : I64 x := i64_small (by omega) (by omega)
 have iy : I64 y := i64_small (by omega) (by omega)
 by_cases e0 : r = 0
 ·refine ⟨x, i, u, a, s, p + 1 + 1, ?_, ⟨ix, h2, h3, h4, h5⟩, hX⟩
  refine Ev.step (fun n => by simp only [spec_l71Op.j1]; rfl) ?_
  exact Ev.bind hr (ev_pos e0 (Ev.bind hx (evnow _)))
 ·by_cases e1 : r = 1
  ·refine ⟨k, y, u, a, s, p + 1 + 1, ?_, ⟨h1, iy, h3, h4, h5⟩, hX⟩
   refine Ev.step (fun n => by simp only [spec_l71Op.j1]; rfl) ?_
   exact Ev.bind hr (ev_neg e0 (ev_pos e1 (Ev.bind hy (evnow _))))
  ·by_cases e2 : r = 2
   ·refine ⟨k, i, y, a, s, p + 1 + 1, ?_, ⟨h1, h2, iy, h4, h5⟩, hX⟩
    refine Ev.step (fun n => by simp only [spec_l71Op.j1]; rfl) ?_
    exact Ev.bind hr (ev_neg e0 (ev_neg e1 (ev_pos e2 (Ev.bind hy (evnow _)))))
   ·by_cases e3 : r = 3
    ·refine ⟨k, i, u, y, s, p + 1 + 1, ?_, ⟨h1, h2, h3, iy, h5⟩, hX⟩
     refine Ev.step (fun n => by simp only [spec_l71Op.j1]; rfl) ?_
     exact Ev.bind hr (ev_neg e0 (ev_neg e1 (ev_neg e2 (ev_pos e3 (Ev.bind hy (evnow _))))))
    ·refine ⟨k, i, u, a, s, p + 1, ?_, ⟨h1, h2, h3, h4, h5⟩, hR.less (by omega)⟩
     refine Ev.step (fun n => by simp only [spec_l71Op.j1]; rfl) ?_
     exact Ev.bind hr (ev_neg e0 (ev_neg e1 (ev_neg e2 (ev_neg e3 (evnow _)))))
theorem opx_j0 (b : List Int) (hb : Bytes b) (up at_ w : Int) (f : Bool) (k i u a p : Int) (s : ByteArray) (m : Nat) (h : OpX k i u a s) (hu : I64 up) (ha : I64 at_) (hp : Rd p (m + 2)) :
  ∃ (k' i' u' a' : Int) (s' : ByteArray) (p' : Int), Ev (fun n => spec_l71Op.j0 n up at_ w f b p k i u a s) (k', i', u', a', s', p') ∧ OpX k' i' u' a' s' ∧ Rd p' m := by
 obtain ⟨h1, h2, h3, h4, h5⟩ := h
 have j1 : I64 1 := i64_small (by omega) (by omega)
 have j3 : I64 3 := i64_small (by omega) (by omega)
 cases f with
 | true =>
  obtain ⟨k', i', u', a', s', p', g1, g2, g3⟩ := opx_j1 b hb 1 i up at_ p s m ⟨j1, h2, hu, ha, h5⟩ hp
  refine ⟨k', i', u', a', s', p', ?_, g2, g3⟩
  refine Ev.step (fun n => by simp only [spec_l71Op.j0]; rfl) ?_
  exact ev_pos (by simp) g1
 | false =>
  obtain ⟨k', i', u', a', s', p', g1, g2, g3⟩ := opx_j1 b hb 3 i up at_ p ⟨#[]⟩ m ⟨j3, h2, hu, ha, by decide⟩ hp
  by_cases w2 : w = 2
  ·refine ⟨k', i', u', a', s', p', ?_, g2, g3⟩
   refine Ev.step (fun n => by simp only [spec_l71Op.j0]; rfl) ?_
   exact ev_neg (by decide) (ev_pos w2 g1)
  ·by_cases w3 : w = 3
   ·refine ⟨k', i', u', a', s', p', ?_, g2, g3⟩
    refine Ev.step (fun n => by simp only [spec_l71Op.j0]; rfl) ?_
    exact ev_neg (by decide) (ev_neg w2 (ev_pos w3 g1))
   ·obtain ⟨k', i', u', a', s', p', g1, g2, g3⟩ := opx_j1 b hb k i u a p s m ⟨h1, h2, h3, h4, h5⟩ hp
    refine ⟨k', i', u', a', s', p', ?_, g2, g3⟩
    refine Ev.step (fun n => by simp only [spec_l71Op.j0]; rfl) ?_
    exact ev_neg (by decide) (ev_neg w2 (ev_neg w3 g1))
theorem rd_mem (l : List Int) (r : Int) (h0 : 0 ≤ r) (h1 : r < l.length) : rd l r ∈ l := by
 have hi : r.toNat < l.length := by omega
 unfold rd
 rw [List.getD_eq_getElem?_getD, List.getElem?_eq_getElem hi]
 exact List.getElem_mem hi
theorem op71_f (b : List Int) (hb : Bytes b) (p : Int) (m : Nat) (hp : Rd p (m + 17)) :
  ∃ (k i u a : Int) (s : ByteArray) (p' : Int), Ev (fun n => spec_l71Op.f n b p) (k, i, u, a, s, p') ∧ OpX k i u a s ∧ Rd p' m := by
 obtain ⟨i, p1, hi, R1, i0, i1⟩ := did_f b p (m + 15) hb hp
 obtain ⟨s, p2, hs, R2, s0⟩ := dtext_f b p1 (m + 9) hb R1
 obtain ⟨u, p3, hu, R3, u0, u1⟩ := did_f b p2 (m + 7) hb R2
 obtain ⟨x, hx, R4, x0, x1, _⟩ := pick_f b p3 5 (m + 6) hb R3
 have x1 := x1 (by omega)
 obtain ⟨v, p5, hv, R5, v0, v1⟩ := did_f b (p3 + 1) (m + 4) hb R4
 obtain ⟨y, hy, R6, y0, y1, _⟩ := pick_f b p5 2 (m + 3) hb R5
 have y1 := y1 (by omega)
 obtain ⟨z, hz, R7, z0, z1, _⟩ := pick_f b (p5 + 1) 5 (m + 2) hb R6
 have iu : I64 (rd ([1, 1, u, 2, 3] : List Int) x) := by
  have := rd_mem ([1, 1, u, 2, 3] : List Int) x x0 (by simpa using x1)
  simp only [List.mem_cons, List.not_mem_nil, or_false] at this
  exact i64_small (by omega) (by omega)
 have ia : I64 (rd ([0, v] : List Int) y) := by
  have := rd_mem ([0, v] : List Int) y y0 (by simpa using y1)
  simp only [List.mem_cons, List.not_mem_nil, or_false] at this
  exact i64_small (by omega) (by omega)
 have hX : OpX 2 i 0 0 s := ⟨i64_small (by omega) (by omega), i64_small (by omega) (by omega), i64_small (by omega) (by omega), i64_small (by omega) (by omega), by omega⟩
 unfold spec_l71Op.f
 by_cases e0 : z = 0
 ·obtain ⟨k', i', u', a', s', p', g1, g2, g3⟩ := opx_j0 b hb _ _ z (z == 0) 2 i 0 0 (p5 + 1 + 1) s m hX iu ia R7
  refine ⟨k', i', u', a', s', p', ?_, g2, g3⟩
  refine Ev.bind hi (Ev.bind hs (Ev.bind hu ?_))
  simp only [Option.bind_some]
  refine Ev.bind hx (ev_pos x0 (ev_pos (by simpa using x1) (Ev.bind hv ?_)))
  refine Ev.bind hy (ev_pos y0 (ev_pos (by simpa using y1) (Ev.bind hz (ev_pos e0 g1))))
 ·obtain ⟨k', i', u', a', s', p', g1, g2, g3⟩ := opx_j0 b hb _ _ z (z == 1) 2 i 0 0 (p5 + 1 + 1) s m hX iu ia R7
  refine ⟨k', i', u', a', s', p', ?_, g2, g3⟩
  refine Ev.bind hi (Ev.bind hs (Ev.bind hu ?_))
  simp only [Option.bind_some]
  refine Ev.bind hx (ev_pos x0 (ev_pos (by simpa using x1) (Ev.bind hv ?_)))
  refine Ev.bind hy (ev_pos y0 (ev_pos (by simpa using y1) (Ev.bind hz (ev_neg e0 g1))))
theorem open_f (code : List Int) (h : ∀ x ∈ code, 0 ≤ x ∧ x ≤ 255) : ∃ b : List Int, spec_l6Open.f code = some (b, 0) ∧ Bytes b := by
 unfold spec_l6Open.f
 by_cases hl : (code.length : Int) > 2000
 ·refine ⟨code.take 2000, by rw [if_pos hl, if_pos (by omega)], by rw [List.length_take]; omega, fun x hx => h x (List.mem_of_mem_take hx)⟩
 ·exact ⟨code, by rw [if_neg hl], by omega, h⟩
theorem byte_of {x : Int} (h : (Lit.int .u8 x).wf = true) : 0 ≤ x ∧ x ≤ 255 := by
 simp only [Lit.wf, Bool.and_eq_true, decide_eq_true_eq] at h
 exact ⟨h.1, h.2⟩
def wfD (r : S43) : Prop := I64 r.f0 ∧ r.f2.size ≤ 2000
theorem do_wf (t : List S43) (B kd id up at_ : Int) (s : ByteArray) (hI : Inv t B) (hB0 : 0 ≤ B) (hB : B ≤ 1099511627776) (hk : kd = 1 ∨ kd = 2 ∨ kd = 3) (hid : id ≠ 3) (hid64 : I64 id) (hl : t.length ≤ 100000) (hs : s.size ≤ 2000) (hw : ∀ r ∈ t, wfD r) :
  ∃ t' : List S43, Ev (fun n => spec_l3Do.f n t kd id up at_ s) t' ∧ Inv t' (2 * B + 1) ∧ (t'.length ≤ t.length + 1 ∧ t.length ≤ t'.length) ∧ ∀ r ∈ t', wfD r := by
 obtain ⟨t', h1, h2, h3⟩ := do_f t B kd id up at_ s hI hB0 hB hk hid hid64 hl hs
 exact ⟨t', h1, h2, h3, h2.ids⟩
theorem mem_set_wf {t : List S43} (h : ∀ r ∈ t, wfD r) {k : Nat} {v : S43} (hv : wfD v) : ∀ r ∈ t.set k v, wfD r := fun r hr => by
 rcases List.mem_or_eq_of_mem_set hr with hr | rfl
 ·exact h r hr
 ·exact hv
theorem tree_l1 (b : List Int) (hb : Bytes b) : ∀ (n : Nat) (t : List S43) (i : Nat) (p : Int) (m : Nat), i + n = t.length → (∀ r ∈ t, wfD r) → 3 ≤ t.length → t.length ≤ 20 → Rd p (m + n + 3) →
  ∃ (t' : List S43) (p' : Int), Ev (fun k => spec_l71Tree.l1 k t i b p) (t', p') ∧ (∀ r ∈ t', wfD r) ∧ 2 ≤ t'.length ∧ t'.length ≤ 21 ∧ Rd p' m
 | 0, t, i, p, m, h, hw, h3, h20, hp => by
  obtain ⟨r, hr, hR, r0, r1, _⟩ := pick_f b p 24 (m + 2) hb hp
  obtain ⟨x, hx, hX, x0, x1, _⟩ := pick_f b (p + 1) (t.length : Int) (m + 1) hb hR
  obtain ⟨y, hy, hY, y0, y1, _⟩ := pick_f b (p + 1 + 1) 5 m hb hX
  have x1 := x1 (by omega)
  obtain ⟨j, rfl⟩ : ∃ n : Nat, x = n := ⟨x.toNat, by omega⟩
  have hj : j < t.length := by omega
  have hwj := hw _ (List.getElem_mem hj)
  by_cases e0 : r = 0
  ·refine ⟨t.set j ⟨t[j].f0, y, t[j].f2⟩, p + 1 + 1 + 1, ?_, mem_set_wf hw hwj, by rw [List.length_set]; omega, by rw [List.length_set]; omega, hY⟩
   refine Ev.step (fun n => by simp only [spec_l71Tree.l1]; rfl) ?_
   refine ev_neg (by omega) (Ev.bind hr (ev_pos e0 (Ev.bind hx (Ev.bind hy (ev_pos x0 (ev_pos x1 ?_))))))
   simp only [rdR_get t j hj, Int.toNat_natCast]
   exact evnow _
  ·by_cases e1 : r = 1
   ·refine ⟨t ++ [⟨t[j].f0, t[j].f1, t[j].f2⟩], p + 1 + 1, ?_, fun q hq => ?_, by simp; omega, by simp; omega, hX.less (by omega)⟩
    ·refine Ev.step (fun n => by simp only [spec_l71Tree.l1]; rfl) ?_
     refine ev_neg (by omega) (Ev.bind hr (ev_neg e0 (ev_pos e1 (Ev.bind hx (ev_pos x0 (ev_pos x1 (ev_pos (by omega) ?_)))))))
     simp only [rdR_get t j hj]
     exact evnow _
    ·rcases List.mem_append.1 hq with hq | hq
     ·exact hw q hq
     ·rw [List.mem_singleton.1 hq]; exact hwj
   ·by_cases e2 : r = 2
    ·refine ⟨t.drop (1 : Int).toNat, p + 1, ?_, fun q hq => hw q (List.mem_of_mem_drop hq), by rw [List.length_drop]; simp; omega, by rw [List.length_drop]; omega, hR.less (by omega)⟩
     refine Ev.step (fun n => by simp only [spec_l71Tree.l1]; rfl) ?_
     exact ev_neg (by omega) (Ev.bind hr (ev_neg e0 (ev_neg e1 (ev_pos e2 (ev_pos (by omega) (evnow _))))))
    ·refine ⟨t, p + 1, ?_, hw, by omega, by omega, hR.less (by omega)⟩
     refine Ev.step (fun n => by simp only [spec_l71Tree.l1]; rfl) ?_
     exact ev_neg (by omega) (Ev.bind hr (ev_neg e0 (ev_neg e1 (ev_neg e2 (evnow _)))))
 | n + 1, t, i, p, m, h, hw, h3, h20, hp => by
  have hi : i < t.length := by omega
  have hwi := hw _ (List.getElem_mem hi)
  have hsz : t[i].f2.size ≤ 2000 := hwi.2
  have ht := text_f t[i].f2 (by omega)
  have wi : wrap64 ((i : Int) + 1) = ((i + 1 : Nat) : Int) := by rw [wrap_id _ (by omega) (by omega)]; omega
  cases hB : textB t[i].f2 with
  | true =>
   rw [hB] at ht
   obtain ⟨t', p', h1, h2⟩ := tree_l1 b hb n t (i + 1) p m (by omega) hw h3 h20 (hp.less (by omega))
   refine ⟨t', p', ?_, h2⟩
   refine Ev.step (fun n => by simp only [spec_l71Tree.l1]; rfl) ?_
   refine ev_pos (by omega) (ev_pos (by omega) ?_)
   rw [rdR_get t i hi, wi]
   exact Ev.bind ht (ev_pos rfl h1)
  | false =>
   rw [hB] at ht
   obtain ⟨r, hr, hR, r0, r1, _⟩ := pick_f b p 2 (m + n + 3) hb (hp.less (by omega))
   by_cases e0 : r = 0
   ·obtain ⟨t', p', h1, h2⟩ := tree_l1 b hb n (t.set i ⟨t[i].f0, t[i].f1, ⟨#[]⟩⟩) (i + 1) (p + 1) m (by rw [List.length_set]; omega) (mem_set_wf hw ⟨hwi.1, by show (0 : Nat) ≤ 2000; omega⟩) (by rw [List.length_set]; omega) (by rw [List.length_set]; omega) hR
    refine ⟨t', p', ?_, h2⟩
    refine Ev.step (fun n => by simp only [spec_l71Tree.l1]; rfl) ?_
    refine ev_pos (by omega) (ev_pos (by omega) ?_)
    rw [rdR_get t i hi, wi, Int.toNat_natCast]
    exact Ev.bind ht (ev_neg (by decide) (Ev.bind hr (ev_pos e0 h1)))
   ·obtain ⟨t', p', h1, h2⟩ := tree_l1 b hb n t (i + 1) (p + 1) m (by omega) hw h3 h20 hR
    refine ⟨t', p', ?_, h2⟩
    refine Ev.step (fun n => by simp only [spec_l71Tree.l1]; rfl) ?_
    refine ev_pos (by omega) (ev_pos (by omega) ?_)
    rw [rdR_get t i hi, wi]
    exact Ev.bind ht (ev_neg (by decide) (Ev.bind hr (ev_neg e0 h1)))
theorem tree_j2 (b : List Int) (hb : Bytes b) (x4 : Int) (t : List S43) (B : Nat) (up p : Int) (m : Nat) (hI : Inv t B) (hB : B ≤ 100000) (hw : ∀ r ∈ t, wfD r) (hl : t.length ≤ 1000) (hp : Rd p (m + 10)) :
  ∃ (t' : List S43) (p' : Int), (∀ (r : List S43 × Int), Ev (fun k => spec_l71Tree.l0 k t' (wrap64 (x4 - 1)) b p') r → Ev (fun k => spec_l71Tree.j2 k t x4 up b p) r) ∧ Inv t' ((2 * B + 1 : Nat) : Int) ∧ (t'.length ≤ t.length + 1 ∧ t.length ≤ t'.length) ∧ (∀ r ∈ t', wfD r) ∧ Rd p' m := by
 obtain ⟨ks, hks, hkl, hkk⟩ := kids_f t up (by omega)
 have tail : ∀ (at_ q : Int), Rd q (m + 8) → ∃ (t' : List S43) (p' : Int), (∀ (f : Nat → Option (List S43 × Int)) (r : List S43 × Int), (∀ n, f n = ((spec_l71Id.f n b q).bind fun z => ((spec_l71Text.f n b z.2).bind fun y => ((spec_l3Do.f n t 1 z.1 up at_ y.1).bind fun t' => (spec_l71Tree.l0 n t' (wrap64 (x4 - 1)) b y.2))))) → Ev (fun k => spec_l71Tree.l0 k t' (wrap64 (x4 - 1)) b p') r → Ev f r) ∧ Inv t' ((2 * B + 1 : Nat) : Int) ∧ (t'.length ≤ t.length + 1 ∧ t.length ≤ t'.length) ∧ (∀ r ∈ t', wfD r) ∧ Rd p' m := by
  intro at_ q hq
  obtain ⟨z, p1, hz, hZ, z0, z1⟩ := did_f b q (m + 6) hb hq
  obtain ⟨y, p2, hy, hY, y0⟩ := dtext_f b p1 m hb hZ
  obtain ⟨t', ht', hI', hlt, hwt⟩ := do_wf t B 1 z up at_ y hI (by omega) (by omega) (Or.inl rfl) (by omega) (i64_small (by omega) (by omega)) (by omega) (by omega) hw
  exact ⟨t', p2, fun f r hf h => Ev.congr hf (Ev.bind hz (Ev.bind hy (Ev.bind ht' h))), hI'.more (by omega), hlt, hwt, hY⟩
 by_cases hz : (ks.length : Int) > 0
 ·obtain ⟨x, hx, hX, x0, x1, _⟩ := pick_f b p 2 (m + 9) hb hp
  by_cases e0 : x = 0
  ·obtain ⟨y, hy, hY, y0, y1, _⟩ := pick_f b (p + 1) (ks.length : Int) (m + 8) hb hX
   have y1 := y1 (by omega)
   obtain ⟨t', p', h1, h2⟩ := tail (rd ks y) (p + 1 + 1) hY
   refine ⟨t', p', fun r hr => ?_, h2⟩
   refine Ev.step (fun n => by simp only [spec_l71Tree.j2]; rfl) ?_
   refine Ev.bind hks (ev_pos hz (Ev.bind hx ?_))
   refine Ev.step (fun n => by simp only [spec_l71Tree.j3]; rfl) ?_
   refine ev_pos (by simp [e0]) (Ev.bind hy (ev_pos y0 (ev_pos y1 ?_)))
   exact h1 _ r (fun n => rfl) hr
  ·obtain ⟨t', p', h1, h2⟩ := tail 0 (p + 1) (hX.less (by omega))
   refine ⟨t', p', fun r hr => ?_, h2⟩
   refine Ev.step (fun n => by simp only [spec_l71Tree.j2]; rfl) ?_
   refine Ev.bind hks (ev_pos hz (Ev.bind hx ?_))
   refine Ev.step (fun n => by simp only [spec_l71Tree.j3]; rfl) ?_
   refine ev_neg (by simp [e0]) ?_
   exact h1 _ r (fun n => rfl) hr
 ·obtain ⟨t', p', h1, h2⟩ := tail 0 p (hp.less (by omega))
  refine ⟨t', p', fun r hr => ?_, h2⟩
  refine Ev.step (fun n => by simp only [spec_l71Tree.j2]; rfl) ?_
  refine Ev.bind hks (ev_neg hz ?_)
  refine Ev.step (fun n => by simp only [spec_l71Tree.j3]; rfl) ?_
  refine ev_neg (by decide) ?_
  exact h1 _ r (fun n => rfl) hr
theorem tree_l0 (b : List Int) (hb : Bytes b) : ∀ (n : Nat) (t : List S43) (B : Nat) (p : Int) (m : Nat), Inv t B → (B + 1) * 2 ^ n ≤ 16384 → (∀ r ∈ t, wfD r) → 3 ≤ t.length → t.length + n ≤ 20 → Rd p (m + 12 * n + 30) →
  ∃ (t' : List S43) (p' : Int), Ev (fun k => spec_l71Tree.l0 k t n b p) (t', p') ∧ (∀ r ∈ t', wfD r) ∧ 2 ≤ t'.length ∧ t'.length ≤ 21 ∧ Rd p' m
 | 0, t, B, p, m, hI, hB, hw, h3, hl, hp => by
  obtain ⟨t', p', h1, h2⟩ := tree_l1 b hb t.length t 0 p m (by omega) hw h3 (by omega) (hp.less (by omega))
  refine ⟨t', p', ?_, h2⟩
  refine Ev.step (fun n => by simp only [spec_l71Tree.l0]; rfl) ?_
  exact ev_neg (by omega) h1
 | n + 1, t, B, p, m, hI, hB, hw, h3, hl, hp => by
  have hB2 : B + 1 ≤ 16384 := Nat.le_trans (Nat.le_mul_of_pos_right _ (Nat.two_pow_pos _)) hB
  have hB3 : (2 * B + 1 + 1) * 2 ^ n ≤ 16384 := by
   have e : (2 * B + 1 + 1) * 2 ^ n = (B + 1) * 2 ^ (n + 1) := by rw [Nat.pow_succ, show 2 * B + 1 + 1 = (B + 1) * 2 by omega, Nat.mul_assoc, Nat.mul_comm 2]
   rw [e]; exact hB
  have wn : wrap64 (((n + 1 : Nat) : Int) - 1) = n := by rw [wrap_id _ (by omega) (by omega)]; omega
  have go : ∀ (up q : Int), Rd q (m + 12 * n + 40) → ∃ (t' : List S43) (p' : Int), Ev (fun k => spec_l71Tree.j2 k t (n + 1 : Nat) up b q) (t', p') ∧ (∀ r ∈ t', wfD r) ∧ 2 ≤ t'.length ∧ t'.length ≤ 21 ∧ Rd p' m := by
   intro up q hq
   obtain ⟨t1, p1, h1, h2, h3', h4, h5⟩ := tree_j2 b hb (n + 1 : Nat) t B up q (m + 12 * n + 30) hI (by omega) hw (by omega) hq
   obtain ⟨t', p', g1, g2⟩ := tree_l0 b hb n t1 (2 * B + 1) p1 m h2 hB3 h4 (by omega) (by omega) h5
   exact ⟨t', p', h1 _ (by rw [wn]; exact g1), g2⟩
  by_cases e3 : (t.length : Int) > 3
  ·obtain ⟨x, hx, hX, x0, x1, _⟩ := pick_f b p 3 (m + 12 * n + 41) hb (hp.less (by omega))
   by_cases e0 : x > 0
   ·obtain ⟨y, hy, hY, y0, y1, _⟩ := pick_f b (p + 1) (t.length : Int) (m + 12 * n + 40) hb hX
    have y1 := y1 (by omega)
    obtain ⟨t', p', g1, g2⟩ := go (rd_T43 t y).f0 (p + 1 + 1) hY
    refine ⟨t', p', ?_, g2⟩
    refine Ev.step (fun n => by simp only [spec_l71Tree.l0]; rfl) ?_
    refine ev_pos (by omega) (ev_pos e3 (Ev.bind hx ?_))
    refine Ev.step (fun n => by simp only [spec_l71Tree.j1]; rfl) ?_
    exact ev_pos (by simpa using e0) (Ev.bind hy (ev_pos y0 (ev_pos y1 g1)))
   ·obtain ⟨t', p', g1, g2⟩ := go 1 (p + 1) (hX.less (by omega))
    refine ⟨t', p', ?_, g2⟩
    refine Ev.step (fun n => by simp only [spec_l71Tree.l0]; rfl) ?_
    refine ev_pos (by omega) (ev_pos e3 (Ev.bind hx ?_))
    refine Ev.step (fun n => by simp only [spec_l71Tree.j1]; rfl) ?_
    exact ev_neg (by simpa using e0) g1
  ·obtain ⟨t', p', g1, g2⟩ := go 1 p (hp.less (by omega))
   refine ⟨t', p', ?_, g2⟩
   refine Ev.step (fun n => by simp only [spec_l71Tree.l0]; rfl) ?_
   refine ev_pos (by omega) (ev_neg e3 ?_)
   refine Ev.step (fun n => by simp only [spec_l71Tree.j1]; rfl) ?_
   exact ev_neg (by decide) g1
theorem tree71_f (b : List Int) (hb : Bytes b) (p : Int) (m : Nat) (hp : Rd p (m + 200)) : ∃ (t : List S43) (p' : Int), Ev (fun k => spec_l71Tree.f k b p) (t, p') ∧ (∀ r ∈ t, wfD r) ∧ 2 ≤ t.length ∧ t.length ≤ 21 ∧ Rd p' m := by
 obtain ⟨r, hr, hR, r0, r1, _⟩ := pick_f b p 11 (m + 199) hb hp
 have r1 := r1 (by omega)
 obtain ⟨n, rfl⟩ : ∃ n : Nat, r = n := ⟨r.toNat, by omega⟩
 have hI : Inv ([⟨1, 0, ⟨#[]⟩⟩, ⟨2, 0, ⟨#[]⟩⟩, ⟨3, 0, ⟨#[]⟩⟩] : List S43) ((0 : Nat) : Int) := by
  refine ⟨fun x hx => ?_, fun x hx h3 => ?_, ⟨⟨3, 0, ⟨#[]⟩⟩, by simp, rfl⟩, fun x hx => ?_⟩
  all_goals simp only [List.mem_cons, List.not_mem_nil, or_false] at hx
  ·rcases hx with rfl | rfl | rfl <;> exact ⟨Int.le_refl _, Int.le_refl _⟩
  ·rcases hx with rfl | rfl | rfl <;> rfl
  ·rcases hx with rfl | rfl | rfl <;> exact ⟨i64_small (by decide) (by decide), by decide⟩
 have hwf : ∀ r ∈ ([⟨1, 0, ⟨#[]⟩⟩, ⟨2, 0, ⟨#[]⟩⟩, ⟨3, 0, ⟨#[]⟩⟩] : List S43), wfD r := fun x hx => by
  simp only [List.mem_cons, List.not_mem_nil, or_false] at hx
  rcases hx with rfl | rfl | rfl <;> exact ⟨i64_small (by decide) (by decide), by decide⟩
 have hpow : (0 + 1) * 2 ^ n ≤ 16384 := by
  have : 2 ^ n ≤ 2 ^ 14 := Nat.pow_le_pow_right (by decide) (by omega)
  omega
 obtain ⟨t, p', h1, h2⟩ := tree_l0 b hb n _ 0 (p + 1) m hI hpow hwf (by simp) (by simp; omega) (hR.less (by omega))
 refine ⟨t, p', ?_, h2⟩
 unfold spec_l71Tree.f spec_TreeNew.f
 simp only [Option.bind_some]
 exact Ev.bind hr h1
theorem row_l0 (b : List Int) (hb : Bytes b) : ∀ (n : Nat) (t : List S43) (i : Nat) (p : Int) (m : Nat), i + n = 6 → (∀ r ∈ t, wfD r) → 2 ≤ t.length → t.length ≤ 21 → Rd p (m + 202 * n + 10) →
  ∃ (t' : List S43) (id p' : Int), Ev (fun k => spec_l71Row.l0 k t i b p) (t', id, p') ∧ (∀ r ∈ t', wfD r) ∧ 2 ≤ t'.length ∧ t'.length ≤ 21 ∧ I64 id ∧ Rd p' m := by
 intro n
 have last : ∀ (t : List S43) (i : Nat) (p : Int) (m : Nat), (∀ r ∈ t, wfD r) → 2 ≤ t.length → t.length ≤ 21 → Rd p (m + 3) → ∃ (t' : List S43) (id p' : Int), Ev (fun k => spec_l71Row.j1 k t i false b p) (t', id, p') ∧ (∀ r ∈ t', wfD r) ∧ 2 ≤ t'.length ∧ t'.length ≤ 21 ∧ I64 id ∧ Rd p' m := by
  intro t i p m hw h2 h21 hp
  obtain ⟨z, p1, hz, hZ, z0, z1⟩ := did_f b p (m + 1) hb hp
  obtain ⟨y, hy, hY, y0, y1, _⟩ := pick_f b p1 5 m hb hZ
  have y1 := y1 (by omega)
  refine ⟨t, rd [1, 2, 3, z, 0] y, p1 + 1, ?_, hw, h2, h21, ?_, hY⟩
  ·refine Ev.step (fun n => by simp only [spec_l71Row.j1]; rfl) ?_
   refine ev_neg (by decide) (Ev.bind hz ?_)
   simp only [Option.bind_some]
   exact Ev.bind hy (ev_pos y0 (ev_pos (by simpa using y1) (evnow _)))
  ·have := rd_mem ([1, 2, 3, z, 0] : List Int) y y0 (by simpa using y1)
   simp only [List.mem_cons, List.not_mem_nil, or_false] at this
   exact i64_small (by omega) (by omega)
 induction n with
 | zero =>
  intro t i p m h hw h2 h21 hp
  obtain ⟨t', id, p', g1, g2⟩ := last t i p m hw h2 h21 (hp.less (by omega))
  refine ⟨t', id, p', ?_, g2⟩
  refine Ev.step (fun n => by simp only [spec_l71Row.l0]; rfl) ?_
  exact ev_neg (by omega) g1
 | succ n ih =>
  intro t i p m h hw h2 h21 hp
  obtain ⟨x, hx, hX, x0, x1, _⟩ := pick_f b p 12 (m + 202 * n + 211) hb (hp.less (by omega))
  by_cases e0 : x > 0
  ·obtain ⟨y, hy, hY, y0, y1, _⟩ := pick_f b (p + 1) (t.length : Int) (m + 202 * n + 210) hb hX
   have y1 := y1 (by omega)
   obtain ⟨j, rfl⟩ : ∃ n : Nat, y = n := ⟨y.toNat, by omega⟩
   have hj : j < t.length := by omega
   have hwj := hw _ (List.getElem_mem hj)
   have wi : wrap64 ((i : Int) + 1) = ((i + 1 : Nat) : Int) := by rw [wrap_id _ (by omega) (by omega)]; omega
   cases hm : madeB t[j].f0 with
   | true =>
    refine ⟨t, t[j].f0, p + 1 + 1, ?_, hw, h2, h21, hwj.1, hY.less (by omega)⟩
    refine Ev.step (fun n => by simp only [spec_l71Row.l0]; rfl) ?_
    refine ev_pos (by omega) (Ev.bind hx ?_)
    refine Ev.step (fun n => by simp only [spec_l71Row.j1]; rfl) ?_
    refine ev_pos (by simpa using e0) (Ev.bind hy (ev_pos y0 (ev_pos y1 ?_)))
    rw [rdR_get t j hj, made_f _ hwj.1, hm]
    simp only [Option.bind_some]
    exact ev_pos (by simp) (evnow _)
   | false =>
    by_cases e3 : (i : Int) = 3
    ·obtain ⟨t1, p1, g1, g2, g3, g4, g5⟩ := tree71_f b hb (p + 1 + 1) (m + 202 * n + 10) hY
     obtain ⟨t', id, p', k1, k2⟩ := ih t1 (i + 1) p1 m (by omega) g2 g3 g4 g5
     refine ⟨t', id, p', ?_, k2⟩
     refine Ev.step (fun n => by simp only [spec_l71Row.l0]; rfl) ?_
     refine ev_pos (by omega) (Ev.bind hx ?_)
     refine Ev.step (fun n => by simp only [spec_l71Row.j1]; rfl) ?_
     refine ev_pos (by simpa using e0) (Ev.bind hy (ev_pos y0 (ev_pos y1 ?_)))
     rw [rdR_get t j hj, made_f _ hwj.1, hm, wi]
     simp only [Option.bind_some]
     exact ev_neg (by decide) (ev_pos e3 (Ev.bind g1 k1))
    ·obtain ⟨t', id, p', k1, k2⟩ := ih t (i + 1) (p + 1 + 1) m (by omega) hw h2 h21 (hY.less (by omega))
     refine ⟨t', id, p', ?_, k2⟩
     refine Ev.step (fun n => by simp only [spec_l71Row.l0]; rfl) ?_
     refine ev_pos (by omega) (Ev.bind hx ?_)
     refine Ev.step (fun n => by simp only [spec_l71Row.j1]; rfl) ?_
     refine ev_pos (by simpa using e0) (Ev.bind hy (ev_pos y0 (ev_pos y1 ?_)))
     rw [rdR_get t j hj, made_f _ hwj.1, hm, wi]
     simp only [Option.bind_some]
     exact ev_neg (by decide) (ev_neg e3 k1)
  ·obtain ⟨t', id, p', g1, g2⟩ := last t i (p + 1) m hw h2 h21 (hX.less (by omega))
   refine ⟨t', id, p', ?_, g2⟩
   refine Ev.step (fun n => by simp only [spec_l71Row.l0]; rfl) ?_
   refine ev_pos (by omega) (Ev.bind hx ?_)
   rw [decide_eq_false e0]
   exact g1
theorem row71_f (b : List Int) (hb : Bytes b) (p : Int) (m : Nat) (hp : Rd p (m + 1500)) : ∃ (t : List S43) (id p' : Int), Ev (fun k => spec_l71Row.f k b p) (t, id, p') ∧ (∀ r ∈ t, wfD r) ∧ 2 ≤ t.length ∧ t.length ≤ 21 ∧ I64 id ∧ Rd p' m := by
 obtain ⟨t, p1, h1, h2, h3, h4, h5⟩ := tree71_f b hb p (m + 1300) hp
 obtain ⟨t', id, p', g1, g2⟩ := row_l0 b hb 6 t 0 p1 m (by omega) h2 h3 h4 (h5.less (by omega))
 exact ⟨t', id, p', Ev.bind h1 g1, g2⟩
structure Dr (t : List S43) (k i u a : Int) (s : ByteArray) : Prop where
 wf : ∀ r ∈ t, wfD r
 two : 2 ≤ t.length
 few : t.length ≤ 21
 op : OpX k i u a s
theorem fits_j2 (b : List Int) (hb : Bytes b) (t : List S43) (f : Bool) (k i u a p : Int) (s : ByteArray) (m : Nat) (d : Dr t k i u a s) (hp : Rd p (m + 2)) :
  ∃ (k' i' u' a' : Int) (s' : ByteArray) (p' : Int), Ev (fun n => spec_l71Fits.j2 n t f b p k i u a s) (t, k', i', u', a', s', p') ∧ Dr t k' i' u' a' s' ∧ Rd p' m := by
 obtain ⟨hw, h2, h21, h3, h4, h5, h6, h7⟩ := d
 cases f with
 | false =>
  refine ⟨k, i, u, a, s, p, ?_, ⟨hw, h2, h21, h3, h4, h5, h6, h7⟩, hp.less (by omega)⟩
  refine Ev.step (fun n => by simp only [spec_l71Fits.j2]; rfl) ?_
  exact ev_neg (by decide) (evnow _)
 | true =>
  obtain ⟨y, hy, hY, y0, y1, _⟩ := pick_f b p (t.length : Int) (m + 1) hb hp
  have y1 := y1 (by omega)
  obtain ⟨j, rfl⟩ : ∃ n : Nat, y = n := ⟨y.toNat, by omega⟩
  have hj : j < t.length := by omega
  have hwj := hw _ (List.getElem_mem hj)
  obtain ⟨ks, hks, hkl, hkk⟩ := kids_f t t[j].f0 (by omega)
  have hk64 : ∀ x ∈ ks, I64 x := fun x hx => by
   obtain ⟨_, _, _, q, hq, _, _, e, _⟩ := hkk x hx
   rw [← e]
   exact (hw _ (List.getElem_mem hq)).1
  by_cases hz : (ks.length : Int) > 0
  ·obtain ⟨x, hx, hX, x0, x1, _⟩ := pick_f b (p + 1) (ks.length : Int) m hb hY
   have x1 := x1 (by omega)
   refine ⟨k, i, t[j].f0, rd ks x, s, p + 1 + 1, ?_, ⟨hw, h2, h21, h3, h4, hwj.1, hk64 _ (rd_mem ks x x0 x1), h7⟩, hX⟩
   refine Ev.step (fun n => by simp only [spec_l71Fits.j2]; rfl) ?_
   refine ev_pos (by simp) (Ev.bind hy (ev_pos y0 (ev_pos y1 ?_)))
   simp only [rdR_get t j hj]
   exact Ev.bind hks (ev_pos hz (Ev.bind hx (ev_pos x0 (ev_pos x1 (evnow _)))))
  ·refine ⟨k, i, t[j].f0, a, s, p + 1, ?_, ⟨hw, h2, h21, h3, h4, hwj.1, h6, h7⟩, hY.less (by omega)⟩
   refine Ev.step (fun n => by simp only [spec_l71Fits.j2]; rfl) ?_
   refine ev_pos (by simp) (Ev.bind hy (ev_pos y0 (ev_pos y1 ?_)))
   simp only [rdR_get t j hj]
   exact Ev.bind hks (ev_neg hz (evnow _))
theorem fits_j1 (b : List Int) (hb : Bytes b) (t : List S43) (k i u a p : Int) (s : ByteArray) (m : Nat) (d : Dr t k i u a s) (hp : Rd p (m + 3)) :
  ∃ (k' i' u' a' : Int) (s' : ByteArray) (p' : Int), Ev (fun n => spec_l71Fits.j1 n t b p k i u a s) (t, k', i', u', a', s', p') ∧ Dr t k' i' u' a' s' ∧ Rd p' m := by
 obtain ⟨x, hx, hX, x0, x1, _⟩ := pick_f b p 3 (m + 2) hb hp
 by_cases e0 : x = 0
 ·by_cases e3 : k = 3
  ·obtain ⟨k', i', u', a', s', p', h1, h2⟩ := fits_j2 b hb t true k i u a (p + 1) s m d hX
   refine ⟨k', i', u', a', s', p', ?_, h2⟩
   refine Ev.step (fun n => by simp only [spec_l71Fits.j1]; rfl) ?_
   exact Ev.bind hx (ev_pos e0 (ev_pos e3 h1))
  ·obtain ⟨k', i', u', a', s', p', h1, h2⟩ := fits_j2 b hb t (k == 1) k i u a (p + 1) s m d hX
   refine ⟨k', i', u', a', s', p', ?_, h2⟩
   refine Ev.step (fun n => by simp only [spec_l71Fits.j1]; rfl) ?_
   exact Ev.bind hx (ev_pos e0 (ev_neg e3 h1))
 ·obtain ⟨k', i', u', a', s', p', h1, h2⟩ := fits_j2 b hb t false k i u a (p + 1) s m d hX
  refine ⟨k', i', u', a', s', p', ?_, h2⟩
  refine Ev.step (fun n => by simp only [spec_l71Fits.j1]; rfl) ?_
  exact Ev.bind hx (ev_neg e0 h1)
theorem fits_j0 (b : List Int) (hb : Bytes b) (t : List S43) (id : Int) (f : Bool) (k i u a p : Int) (s : ByteArray) (m : Nat) (d : Dr t k i u a s) (hid : I64 id) (hp : Rd p (m + 3)) :
  ∃ (k' i' u' a' : Int) (s' : ByteArray) (p' : Int), Ev (fun n => spec_l71Fits.j0 n t id f b p k i u a s) (t, k', i', u', a', s', p') ∧ Dr t k' i' u' a' s' ∧ Rd p' m := by
 cases f with
 | true =>
  obtain ⟨k', i', u', a', s', p', h1, h2⟩ := fits_j1 b hb t k id u a p s m ⟨d.wf, d.two, d.few, d.op.1, hid, d.op.2.2.1, d.op.2.2.2.1, d.op.2.2.2.2⟩ hp
  refine ⟨k', i', u', a', s', p', ?_, h2⟩
  refine Ev.step (fun n => by simp only [spec_l71Fits.j0]; rfl) ?_
  exact ev_pos (by simp) h1
 | false =>
  obtain ⟨k', i', u', a', s', p', h1, h2⟩ := fits_j1 b hb t k i u a p s m d hp
  refine ⟨k', i', u', a', s', p', ?_, h2⟩
  refine Ev.step (fun n => by simp only [spec_l71Fits.j0]; rfl) ?_
  exact ev_neg (by decide) h1
theorem fits71_f (b : List Int) (hb : Bytes b) (p : Int) (m : Nat) (hp : Rd p (m + 1530)) :
  ∃ (t : List S43) (k i u a : Int) (s : ByteArray) (p' : Int), Ev (fun n => spec_l71Fits.f n b p) (t, k, i, u, a, s, p') ∧ Dr t k i u a s ∧ Rd p' m := by
 obtain ⟨t, id, p1, h1, h2, h3, h4, h5, h6⟩ := row71_f b hb p (m + 30) hp
 obtain ⟨k, i, u, a, s, p2, g1, g2, g3⟩ := op71_f b hb p1 (m + 13) h6
 obtain ⟨x, hx, hX, x0, x1, _⟩ := pick_f b p2 5 (m + 12) hb g3
 have d : Dr t k i u a s := ⟨h2, h3, h4, g2⟩
 unfold spec_l71Fits.f
 by_cases e0 : x > 0
 ·by_cases e1 : k = 1
  ·obtain ⟨k', i', u', a', s', p', q1, q2⟩ := fits_j0 b hb t id false k i u a (p2 + 1) s m d h5 (hX.less (by omega))
   exact ⟨t, k', i', u', a', s', p', Ev.bind h1 (Ev.bind g1 (Ev.bind hx (ev_pos e0 (ev_pos e1 q1)))), q2⟩
  ·obtain ⟨k', i', u', a', s', p', q1, q2⟩ := fits_j0 b hb t id (madeB id) k i u a (p2 + 1) s m d h5 (hX.less (by omega))
   refine ⟨t, k', i', u', a', s', p', Ev.bind h1 (Ev.bind g1 (Ev.bind hx (ev_pos e0 (ev_neg e1 ?_)))), q2⟩
   simp only [made_f id h5, Option.bind_some]
   exact q1
 ·obtain ⟨k', i', u', a', s', p', q1, q2⟩ := fits_j0 b hb t id false k i u a (p2 + 1) s m d h5 (hX.less (by omega))
  exact ⟨t, k', i', u', a', s', p', Ev.bind h1 (Ev.bind g1 (Ev.bind hx (ev_neg e0 q1))), q2⟩
theorem drawOpDo_f (code : List Int) (h : ∀ x ∈ code, (Lit.int .u8 x).wf = true) : ∃ (t : List S43) (k i u a : Int) (s : ByteArray), Ev (fun n => spec_DrawOpDo.f n code) (t, k, i, u, a, s) ∧ Dr t k i u a s := by
 obtain ⟨b, hb, hB⟩ := open_f code (fun x hx => byte_of (h x hx))
 obtain ⟨t, k, i, u, a, s, p', h1, h2, _⟩ := fits71_f b hB 0 0 ⟨by omega, by omega⟩
 refine ⟨t, k, i, u, a, s, ?_, h2⟩
 unfold spec_DrawOpDo.f
 rw [hb]
 simp only [Option.bind_some]
 exact Ev.bind h1 (evnow _)
end Go.Proofs.YtkopimbbgckcnaaDoor.PL
namespace Go.Proofs.YtkopimbbgckcnaaDoor.PL
open Go.RowKit Go.Proofs.YtkopimbbgckcnaaDoor.P Go.Proofs.YtkopimbbgckcnaaDoorW.PrintWords Go.Proofs.YtkopimbbgckcnaaDoorW.PrintLast Go.Proofs.YtkopimbbgckcnaaDoor.FP
theorem doF_len {G : Fo} (g : Good G) (kd : Int) (i : Nat) (hit : i ∉ G.tops) (up at_ : Int) (s : ByteArray) : (doF G kd (i : Int) up at_ s).ids.length ≤ 2000 := by
 have hg := g.len
 unfold doF
 rcases fndF_cases g i with ⟨hi, hf⟩ | ⟨hi, hf⟩
 ·have hi0 := g.ne0 i hi
  rw [hf, if_neg hi0, if_neg hi0, if_neg hi0]
  split
  ·rw [setF_ids]; omega
  ·split
   ·omega
   ·split
    ·omega
    ·rename_i hu
     obtain ⟨h, hr⟩ := reptop_ex G g.nd g.ne0
     have hp := near_del hr g.nd g.three hi hit (id := (i : Int)) (up := up) (at_ := at_) rfl hu
     have hperm := ids_del i G g.nd hi
     obtain ⟨n1, n2⟩ := List.nodup_cons.1 (hperm.nodup_iff.1 g.nd)
     obtain ⟨n3, n4, n5⟩ := List.nodup_append.1 n2
     have e1 := (putF_ids (p := nearF G (i : Int) up at_) (i := i) (t := txtF i G) (s := sub i G) n4 hp.1 (hp.2.imp id And.left)).length_eq
     have e2 := hperm.length_eq
     simp only [List.length_cons, List.length_append] at e1 e2
     omega
 ·rw [hf, if_pos rfl, if_pos rfl, if_pos rfl]
  have hp := near_ok (G := G) (tops_ids g.three) (i : Int) up at_
  have e1 := (putF_ids (p := nearF G (i : Int) up at_) (i := (i : Int).toNat) (t := s) (s := .nil) g.nd hp.up (hp.at_.imp id And.left)).length_eq
  simp only [List.length_cons, List.length_append, Fo.ids, List.length_nil] at e1
  split
  ·omega
  ·split <;> omega
theorem opDoR_len (l : List S43) (k i u a : Int) (s : ByteArray) : (opDoR l k i u a s).length ≤ 2000 := by
 unfold opDoR
 split
 ·rename_i ho
  split
  ·rename_i ht
   obtain ⟨m, rfl, h4, h37⟩ := made_num (opB_made k i u a s ho)
   have g := good_of ht
   rw [fl_len]
   exact doF_len g k m (by rw [g.tops]; simp; omega) u a s
  ·simp
 ·simp
theorem lpR_l0 (l : List S43) (hl : l.length ≤ 1099511627776) : ∀ (n i : Nat), i + n = l.length → Ev (fun k => laws_lpRows.l0 k l l i) true
 | 0, i, h => by
  refine Ev.step (f := fun _ => some true) (fun k => ?_) (evnow _)
  simp only [laws_lpRows.l0]; rw [if_neg (by omega)]
 | n + 1, i, h => by
  refine Ev.step (fun k => ?_) (lpR_l0 l hl n (i + 1) (by omega))
  simp only [laws_lpRows.l0]
  rw [if_pos (by omega), if_pos (by omega), if_pos (by omega)]
  simp only [BEq.rfl, Bool.not_true, Bool.or_false, Bool.false_eq_true, if_false]
  rw [wrapS i (by omega) (by omega)]
  rfl
theorem lpR_f (l : List S43) (hl : l.length ≤ 1099511627776) : Ev (fun k => laws_lpRows.f k l l) true := by
 unfold laws_lpRows.f
 exact ev_pos rfl (lpR_l0 l hl l.length 0 (by omega))
theorem lpR_eq {a b : List S43} (h : a = b) (hl : a.length ≤ 1099511627776) : Ev (fun k => laws_lpRows.f k a b) true := h ▸ lpR_f a hl
theorem lpR_do (l : List S43) (k i u a : Int) (s : ByteArray) : Ev (fun n => laws_lpRows.f n (opDoR l k i u a s) (opDoR l k i u a s)) true := lpR_f _ (by have := opDoR_len l k i u a s; omega)
theorem Dr.wfR {t : List S43} {k i u a : Int} {s : ByteArray} (d : Dr t k i u a s) : ∀ r ∈ t, wfR r := fun r hr => ⟨(d.wf r hr).1, by have := (d.wf r hr).2; omega⟩
theorem Dr.size {t : List S43} {k i u a : Int} {s : ByteArray} (d : Dr t k i u a s) : s.size ≤ 9223372036854775807 := by have := d.op.2.2.2.2; omega
theorem Dr.iop {t : List S43} {k i u a : Int} {s : ByteArray} (d : Dr t k i u a s) : Ev (fun n => impl_OpDo.f n t k i u a s) (opDoR t k i u a s) := iopDo_f t k i u a s d.size
theorem Dr.sop {t : List S43} {k i u a : Int} {s : ByteArray} (d : Dr t k i u a s) : Ev (fun n => spec_OpDo.f n t k i u a s) (opDoR t k i u a s) :=
 sopDo_f t k i u a s (by have := d.few; omega) d.wfR d.op.2.1 d.op.2.2.1 d.op.2.2.2.1 d.size
theorem Dr.tree {t : List S43} {k i u a : Int} {s : ByteArray} (d : Dr t k i u a s) : Ev (fun n => spec_TreeOk.f n t) (treeB t) := stree_f t (by have := d.few; omega) d.wfR
theorem Dr.opOk {t : List S43} {k i u a : Int} {s : ByteArray} (d : Dr t k i u a s) : Ev (fun n => spec_OpOk.f n k i u a s) (opB k i u a s) := sop_f k i u a s d.op.2.1 d.op.2.2.1 d.op.2.2.2.1 d.size
theorem Dr.same {t : List S43} {k i u a : Int} {s : ByteArray} (d : Dr t k i u a s) {f : Nat → Option Bool} (hf : ∀ n, f n = ((spec_OpDo.f n t k i u a s).bind fun y => ((laws_lpRows.f n (opDoR t k i u a s) y).bind fun z => (some z)))) : Ev f true :=
 Ev.congr hf (Ev.bind d.sop (Ev.bind (lpR_do t k i u a s) (evnow _)))
theorem opDoR_val {l : List S43} {k u a : Int} {i : Nat} {s : ByteArray} (ho : opB k (i : Int) u a s = true) (ht : treeB l = true) : opDoR l k i u a s = (FP.doF (toFo l) k i u a s).fl 0 := (opDo_val ho ht).1
theorem le40 (l : List S43) (k i u a : Int) (s : ByteArray) : (opDoR l k i u a s).length ≤ 1099511627776 := by have := opDoR_len l k i u a s; omega
theorem pure_of {f : Nat → Option Bool} (h : Ev f true) : ∃ k, f k = some true := by
 obtain ⟨K, hK⟩ := h
 exact ⟨K, hK K (Nat.le_refl K)⟩
theorem lpAt_l0 (t : List S43) (id : Int) (hl : t.length ≤ 1099511627776) : ∀ (n i : Nat), i + n = t.length → Ev (fun k => laws_lpAt.l0 k t id i) (atFrom id (t.drop i) i)
 | 0, i, h => by
  rw [List.drop_eq_nil_of_le (by omega)]
  refine Ev.step (f := fun _ => some (-1)) (fun k => ?_) (evnow _)
  simp only [laws_lpAt.l0]; rw [if_neg (by omega)]
 | n + 1, i, h => by
  have hi : i < t.length := by omega
  rw [List.drop_eq_getElem_cons hi]
  unfold atFrom
  by_cases hq : t[i].f0 = id
  ·rw [if_pos hq]
   refine Ev.step (f := fun _ => some (i : Int)) (fun k => ?_) (evnow _)
   simp only [laws_lpAt.l0]
   rw [if_pos (by omega), if_pos (by omega), rdR_get t i hi, if_pos hq]
  ·rw [if_neg hq]
   refine Ev.step (fun k => ?_) (lpAt_l0 t id hl n (i + 1) (by omega))
   simp only [laws_lpAt.l0]
   rw [if_pos (by omega), if_pos (by omega), rdR_get t i hi, if_neg hq, wrapS i (by omega) (by omega)]
   rfl
theorem lpAt_f (t : List S43) (id : Int) (hl : t.length ≤ 1099511627776) : Ev (fun k => laws_lpAt.f k t id) (atI t id) := lpAt_l0 t id hl t.length 0 (by omega)
theorem textOnly_ev {l : List S43} {i u a : Int} {s : ByteArray} (ho : opB 2 i u a s = true) (ht : treeB l = true) : (atI l i = -1 ∧ opDoR l 2 i u a s = l) ∨ ∃ (j : Nat) (h : j < l.length) (h' : j < (opDoR l 2 i u a s).length), atI l i = (j : Int) ∧ (opDoR l 2 i u a s)[j].f2 = s ∧ (opDoR l 2 i u a s).set j ⟨(opDoR l 2 i u a s)[j].f0, (opDoR l 2 i u a s)[j].f1, l[j].f2⟩ = l := by
 obtain ⟨m, rfl, h4, h37, hm⟩ := made_nat ho
 have v := val_of ht
 have el := toFo_fl ht
 rw [opDoR_val ho ht]
 by_cases hi : m ∈ (toFo l).ids
 ·right
  rw [doF_text hi (by omega)]
  obtain ⟨pre, post, sp⟩ := spot m (toFo l) 0 v.nd hi
  have h1 := spot_len sp
  have h2 := spot_at sp
  have h3 := sp.all
  rw [el] at h1 h2 h3
  have h5 := sp.text s
  have h6 : pre.length < l.length := by omega
  have h7 : pre.length < ((setF m s (toFo l)).fl 0).length := by rw [h5]; simp
  refine ⟨pre.length, h6, h7, h2, ?_, ?_⟩
  ·simp only [h5, List.getElem_append_right (Nat.le_refl _), Nat.sub_self, List.getElem_cons_zero]
  ·have hg : l[pre.length] = ⟨(m : Int), (dep m 0 (toFo l) : Int), txtF m (toFo l)⟩ := by
    have := spot_get sp (by rw [el]; exact h6)
    simpa only [el] using this
   rw [hg]
   simp only [h5, List.getElem_append_right (Nat.le_refl _), Nat.sub_self, List.getElem_cons_zero]
   rw [set_mid]
   exact h3.symm
 ·left
  rw [doF_text_not hi, el]
  refine ⟨?_, rfl⟩
  have := at_fnd0 (G := toFo l) (x := (m : Int)) (fnd_not hi) v.ne0
  rwa [el] at this
theorem textOnly_j0 {t : List S43} {k i u a : Int} {s : ByteArray} (d : Dr t k i u a s) (f : Bool) (hf : f = false → treeB t = true ∧ opB k i u a s = true ∧ k = 2) : Ev (fun n => laws_FnTextOnly.j0 n t (opDoR t k i u a s) f k i u a s) true := by
 cases f with
 | true =>
  refine Ev.step (fun n => by simp only [laws_FnTextOnly.j0]; rfl) ?_
  exact ev_pos (by simp) (d.same fun n => rfl)
 | false =>
  obtain ⟨ht, ho, rfl⟩ := hf rfl
  have hl := opDoR_len t 2 i u a s
  refine Ev.step (fun n => by simp only [laws_FnTextOnly.j0]; rfl) ?_
  refine ev_neg (by decide) (Ev.bind (lpAt_f t i (by have := d.few; omega)) ?_)
  rcases textOnly_ev ho ht with ⟨h1, h2⟩ | ⟨j, h, h', h1, h2, h3⟩
  ·exact ev_pos (by omega) (Ev.bind (lpR_eq h2 (le40 ..)) (evnow _))
  ·refine ev_neg (by omega) ?_
   rw [h1]
   simp only [Option.bind_some, List.nil_append]
   refine ev_pos (by simp; omega) (ev_pos (by omega) (ev_pos (by omega) (ev_pos (by omega) (ev_pos (by omega) ?_))))
   rw [rdR_get _ j h', rdR_get t j h, Int.toNat_natCast]
   exact ev_pos (by rw [h2]) (Ev.bind (lpR_eq h3 (by rw [List.length_set]; omega)) (evnow _))
theorem FnTextOnly : laws_FnTextOnly.Pure := by
 intro l0 _ _ h0
 refine pure_of ?_
 unfold laws_FnTextOnly.f
 by_cases h : (l0.length : Int) > 1048576
 ·exact ev_pos h (evnow _)
 ·obtain ⟨t, k, i, u, a, s, hd, d⟩ := drawOpDo_f l0 h0
  refine ev_neg h (Ev.bind hd (Ev.bind d.iop (Ev.bind d.sop (Ev.bind (lpR_do t k i u a s) (ev_pos rfl (Ev.bind d.tree ?_))))))
  cases ht : treeB t with
  | false => exact ev_neg (by simp) (textOnly_j0 d true fun h => by cases h)
  | true =>
   refine ev_pos rfl (Ev.bind d.opOk ?_)
   cases ho : opB k i u a s with
   | false => exact ev_neg (by simp) (textOnly_j0 d true fun h => by cases h)
   | true => exact ev_pos rfl (textOnly_j0 d _ fun h => ⟨ht, ho, by simpa using h⟩)
end Go.Proofs.YtkopimbbgckcnaaDoor.PL
namespace Go.Proofs.YtkopimbbgckcnaaDoor.P
open Go.ChangeShapes Go.WideShapes Go.ChangeAt Go.RowKit
theorem tOwners : (Tryd.prog.globals[0]?).map (·.type) = some 73 := by kernel_rfl
theorem cOwners : Tryd.prog.cellsOf 73 = 37 := by kernel_rfl
theorem cInt : Tryd.prog.cellsOf 3 = 1 := by kernel_rfl
abbrev ownCells : Array Value := (owners.map fun z => Value.int .i64 z).toArray
theorem glob_of_laid {W : World} (h : laidMet Tryd.prog [("loop.example/plashet/impl.rowOwners", Rows.laid_loop_example_plashet_impl_rowOwners)] W) : Glob W :=
 Lib.tabIs_of_head gOwners tOwners Tryd.underlying73 Tryd.underlying3 cInt cOwners h
theorem door_met (os : Os) (args : Array Value) : laidMet Tryd.prog [("loop.example/plashet/impl.rowOwners", Rows.laid_loop_example_plashet_impl_rowOwners)] ((World.doorLaid Tryd.prog 400 os).forCall (fun _ _ => 0) ⟨#[], args, []⟩).memory :=
 laidMet_of_run' 8 (by kernel_rfl) (by kernel_rfl)
abbrev tableH {H : Type} : DataW H := .agg (owners.map fun z => .lit (.int .i64 z))
theorem reads_table {H : Type} (enc : TypeId × Value → H) (W : World) (sp : Nat → Bool) : DataW.trod enc Tryd.prog W 0 sp true 3 73 ownCells.toList = some (tableH, []) := by kernel_rfl
theorem tab_vars {H : Type} (enc : TypeId × Value → H) {W : World} (h : Glob W) {sp : Nat → Bool} : DataW.TrodVars enc Tryd.prog W sp ["loop.example/plashet/impl.rowOwners"] [tableH] (MemPlace.row ⟨0, 0, none⟩ ownCells.size ++ [] ++ []) :=
 ⟨0, 73, ownCells, 3, [], [], gOwners, tOwners, h, reads_table enc W sp, rfl, rfl⟩
end Go.Proofs.YtkopimbbgckcnaaDoor.P
namespace Go.Proofs.YtkopimbbgckcnaaDoor.fnTextOnly
open Go.ChangeMaps (open_string shut_string)
open Go.ChangeShapes Go.WideShapes Go.ChangeAt Go.RowKit
theorem own : ownKnob Tryd.prog.godebug = none := by kernel_rfl
theorem laidOut : laidOutB Tryd.prog = true := by kernel_rfl
def IsRow (k : IntKind) (w : World) (a : Option Addr) (len cap : Nat) (zs : List Int) : Prop :=
 (a = none ∧ len = 0 ∧ cap = 0 ∧ zs = []) ∨
 ∃ x, a = some x ∧ len ≤ cap ∧ cap ≤ maxLen ∧ zs.length = cap ∧ (∀ i, i < zs.length → w.cell? (x.add i) = some (.int k (zs.getD i 0))) ∧ ∀ n ∈ zs, (Lit.int k n).wf = true
set_option maxRecDepth 100000 in
theorem lifted (os : Os) (started : os.Started) (H : Type) (enc : TypeId × Value → H) :
  ReturnsInHanded {} Tryd.checked os 10 .any (fun w args => (Rows.fnTextOnlySpec.pre enc Tryd.prog Tryd.f10 [] false w args ∧ laidMet Tryd.prog [("loop.example/plashet/impl.rowOwners", Rows.laid_loop_example_plashet_impl_rowOwners)] w) ∧ sizedMet enc Tryd.prog Tryd.f10 (OpenSpec.ofChange Rows.fnTextOnlySpec) false w args) (Rows.fnTextOnlySpec.post enc Tryd.prog Tryd.f10 false true false false) := by
 refine returnsInHanded_of_change_and (C := Tryd.checked) (X := fun w _ => laidMet Tryd.prog [("loop.example/plashet/impl.rowOwners", Rows.laid_loop_example_plashet_impl_rowOwners)] w) (fun _ _ _ hh h => h.of_heap hh) own started (by kernel_rfl) Tryd.func10
  (ChangeSpec.witness_shaped (enc := enc) (C := Tryd.checked) (os := os) (X := fun w _ => laidMet Tryd.prog [("loop.example/plashet/impl.rowOwners", Rows.laid_loop_example_plashet_impl_rowOwners)] w) false (World.doorLaid Tryd.prog 400 os) #[.slice none 0 0] 8 rfl (World.shaped_of_RefB (by kernel_rfl) (by kernel_rfl)) (by kernel_rfl) (by kernel_rfl) (by kernel_rfl) (P.door_met os _)) ?_
 intro W base args ds gs before hval0 hW _ hsz0 hL _
 have hsz : (DataW.weightsEach Tryd.prog (Tryd.f10.params.toList ++ Rows.fnTextOnlySpec.plain.varTypes Tryd.prog) (ds ++ gs)).all (· ≤ reachBytes) = true := hsz0
 have hval : ∀ (j : Nat) t v, Tryd.f10.params[j]? = some t → args[j]? = some v → Value.okWide Tryd.prog W .any base t v := hval0
 have hW' := hW
 obtain ⟨p, q, hA0, hV, rfl, hfz, hnd⟩ := hW
 have hA : DataW.TrodAll enc Tryd.prog W 0 (fun _ => true) true Tryd.f10.params.toList args.toList ds p := hA0
 rw [Tryd.params10] at hA hval hsz
 obtain ⟨v0, vs0, d0, ds0, p0, q0, hargs, rfl, rfl, h0, r0⟩ := trodAll_cons hA
 obtain ⟨rfl, rfl, rfl⟩ := trodAll_nil r0
 obtain rfl : args = #[v0] := by cases args; simp_all
 have hG : P.Glob W := P.glob_of_laid hL
 obtain ⟨gv, tv, csv, fuelv, dv, pv, rfl, hgv, htv, hvarv, hdv, rfl⟩ := trodVars_one hV
 obtain rfl : csv = P.ownCells := Option.some.inj (hvarv.symm.trans hG)
 obtain rfl := Option.some.inj (P.tOwners.symm.trans (by rw [Option.some.inj (P.gOwners.symm.trans hgv)]; exact htv))
 obtain ⟨rfl, rfl⟩ := DataW.Trod.unique (v := .agg P.ownCells) ⟨fuelv, hdv⟩ ⟨3, P.reads_table enc W _⟩
 obtain ⟨a0, len0, cap0, rfl⟩ := okWide_slice Tryd.underlying35 (hval 0 35 v0 rfl rfl)
 have k0 := h0
 have lt0 : ∀ x ∈ p0, x.block < W.heap.size := by obtain ⟨m, hm⟩ := k0; exact DataW.trod_lt m _ _ _ hm
 obtain ⟨z0, w0⟩ : ∃ zs, IsRow .u8 W a0 len0 cap0 zs := by
  obtain ⟨fuel, hf⟩ := h0
  rcases open_ints Tryd.underlying35 Tryd.underlying5 (by kernel_rfl) hf with ⟨hcs, _⟩ | ⟨x, l, c, zs, hcs, _, hl, hm, hz, _, hcell, hwz⟩
  ·simp [Value.cells] at hcs
   obtain ⟨rfl, rfl, rfl⟩ := hcs
   exact ⟨[], .inl ⟨rfl, rfl, rfl, rfl⟩⟩
  ·simp [Value.cells] at hcs
   obtain ⟨rfl, rfl, rfl⟩ := hcs
   exact ⟨zs, .inr ⟨_, rfl, hl, hm, by simpa using hz, hcell, hwz⟩⟩
 have y0 : len0 * 1 ≤ 140737488351232 := Go.Proofs.YtkopimbbgckcnaaDoorW.PrintWords.sized_ints hsz (j := 0) (t := 35) rfl rfl Tryd.underlying35 Tryd.underlying5 (by kernel_rfl) (by kernel_rfl) h0
 clear hA0 hval0 hsz0 hsz
 refine (P.laws_FnTextOnly.walk PL.FnTextOnly a0 len0 cap0 z0 W w0 y0 hG).mono fun e W' ⟨he, bel⟩ => ?_
 subst he
 exact ⟨_, rfl, _, _, _, _, _, _, hW', trodAll_mk1 (shut_bool Tryd.underlying4 _), (trodAll_cons_mk (Below.trod laidOut (by kernel_rfl) (of_decide_eq_true (by kernel_rfl)) k0 bel lt0) trodAll_mk0), P.tab_vars enc (hG.below bel), bel.frame _, fun h => by cases h⟩
theorem over : Rows.fnTextOnlyRow.holds Tryd.pinned (OpenSpec.ofChange Rows.fnTextOnlySpec) :=
 OpenClaim.holds_of_wide 10 Tryd.f10 rfl rfl rfl rfl rfl rfl rfl ⟨rfl, rfl, rfl, rfl, rfl⟩ rfl rfl rfl rfl rfl (by kernel_rfl) Tryd.func10 (by kernel_rfl)
  (of_decide_eq_true (by kernel_rfl)) (by unfold Func.isWrapper; first | (rw [if_pos (by decide +kernel)]; kernel_rfl) | (rw [if_neg (by decide +kernel)]; exact ⟨rfl, rfl⟩))
  (fun os started H enc _ => lifted os started H enc)
theorem proved : Rows.FnTextOnlySaid := over
#print axioms proved
end Go.Proofs.YtkopimbbgckcnaaDoor.fnTextOnly
namespace Go.Proofs.YtkopimbbgckcnaaDoor
theorem fnTextOnly_holds : Rows.FnTextOnlySaid := fnTextOnly.proved
end Go.Proofs.YtkopimbbgckcnaaDoor
namespace Go.Proofs.YtkopimbbgckcnaaDoor
open Go
theorem fnTextOnlyCard_holds : Rows.FnTextOnlyCardSaid :=
 Claim7.holds_tied_plain_at .later [] [.data] true (true, "05e51009c0bec8d8d35deb79e81af090818f8d02cc4b5bce3a1d080efdde1e4f") true
  fnTextOnly_holds (fun _ h => by cases h) (by kernel_rfl) (fun _ h => by cases h) fnTextOnly_row_tie rfl ⟨rfl, rfl⟩ (by kernel_rfl) rfl
  (fun f fn hf hfn => by
   obtain rfl : f = 10 := Option.some.inj ((show Tryd.prog.funcNamed "loop.example/plashet/laws.FnTextOnly" = some 10 by kernel_rfl).symm.trans hf) |>.symm
   obtain rfl : fn = Tryd.f10 := (Option.some.inj (Tryd.func10.symm.trans hfn)).symm
   exact ⟨by kernel_rfl, fun j t ht => by
    rw [Tryd.params10] at ht
    have hm : t ∈ [35] := by have := Array.mem_of_getElem? ht; simp at this; first | (subst this; simp; done) | (rcases this with h | h <;> simp [h]; done) | (rcases this with h | h | h <;> simp [h]; done)
    have hall : ([35].all fun u => !Tryd.prog.wantsStandIn u) = true := by kernel_rfl
    exact (show Tryd.prog.wantsStandIn t = false by simpa using List.all_eq_true.1 hall t hm)⟩)
  (by kernel_rfl)
#print axioms fnTextOnlyCard_holds
end Go.Proofs.YtkopimbbgckcnaaDoor
