/- Joined by a program (wip/shake.py): the declarations that 'YtdpklbomhdpimaaDoorCardFnExactLogTree' reaches. -/
import Derived.Test.YtdpklbomhdpimaaDoorZLe3
set_option linter.unusedVariables false
set_option linter.unusedSimpArgs false
set_option linter.unusedSectionVars false
namespace Go.Proofs.YtdpklbomhdpimaaDoor.P
open Go.RowKit Go.Proofs.YtdpklbomhdpimaaDoorW.PrintWords Go.Proofs.YtdpklbomhdpimaaDoorW.PrintLast Go.Proofs.YtdpklbomhdpimaaDoorW.PrintMore Go.Proofs.YtdpklbomhdpimaaDoor.PL Go.Proofs.YtdpklbomhdpimaaDoor.FP
theorem At.within {w : World} {n0 F : Nat} {A : Nat → Option Nat} {h : Nat → Nd} {G : Fo} (t : At w n0 F A h G) (u : Nat) {x : Nat} (hx : x = 0 ∨ x ∈ G.ids) : ∃ k, withinF h u k x = some (decide (under u x G)) := by
 rcases hx with rfl | hx
 ·refine ⟨1, ?_⟩
  have : ¬ under u 0 G := by
   rintro ⟨h1, h2 | h2⟩
   ·exact t.rep.ne0 u h1 h2.symm
   ·exact t.rep.ne0 0 (sub_ids u h2) rfl
  rw [withinF, if_pos rfl, decide_eq_false this]
 ·obtain ⟨c, hc⟩ := within_top (u := u) t.rep t.nd hx
  by_cases hu : under u x G
  ·exact ⟨c + 0, by rw [(hc 0).1 hu, decide_eq_true hu]⟩
  ·exact ⟨c + 0 + 1, by rw [(hc 0).2 hu, decide_eq_false hu]⟩
theorem fndF_ok (G : Fo) (x : Int) : fndF G x = 0 ∨ fndF G x ∈ G.ids := by
 by_cases h : fndF G x = 0
 ·exact Or.inl h
 ·exact Or.inr (fndF_mem h).1
theorem At.where_move {w : World} {n0 F : Nat} {A : Nat → Option Nat} {h : Nat → Nd} {G : Fo} (t : At w n0 F A h G) (id up at_ : Int) :
  Calls Tryd.prog 132 #[.pointer (some ⟨F, 0, none⟩), .iface 161 (.agg #[.int .i64 id, .int .i64 up, .int .i64 at_])] w (WherePost w A (if fndF G id = 0 then (0, 0) else if under (fndF G id) (fndF G up) G then (0, 0) else nearF G id up at_) (decide (fndF G id ≠ 0 ∧ ¬ under (fndF G id) (fndF G up) G))) := by
 obtain ⟨k, hk⟩ := t.within (fndF G id) (fndF_ok G up)
 have := P.where_move t.m id up at_ k (decide (under (fndF G id) (fndF G up) G)) (fun _ => by rw [t.fnd id, t.fnd up]; exact hk)
 rw [t.fnd id, t.near] at this
 by_cases h1 : fndF G id = 0
 ·simpa [h1] using this
 ·by_cases h2 : under (fndF G id) (fndF G up) G
  ·simpa [h1, h2] using this
  ·simpa [h1, h2] using this
set_option maxHeartbeats 1000000 in
set_option maxRecDepth 100000 in
theorem apply_move_no {w : World} {n0 F : Nat} {A : Nat → Option Nat} {h : Nat → Nd} {G : Fo} (t : At w n0 F A h G) (hn0 : n0 ≤ w.heap.size) (id up at_ : Int) (h1 : ¬ (fndF G id ≠ 0 ∧ ¬ under (fndF G id) (fndF G up) G)) :
  Calls Tryd.prog 94 #[.pointer (some ⟨F, 0, none⟩), .iface 161 (.agg #[.int .i64 id, .int .i64 up, .int .i64 at_])] w (ApplyPost w n0 F G) := by
 have hz : whereR A (0, 0) false = .returned (.tuple #[.pointer none, .pointer none, .bool false]) := by unfold whereR; rw [t.m.z]; rfl
 have hw := (t.kept (t.m.alloc (.cells #[.int .i64 id, .int .i64 up, .int .i64 at_] 161))).where_move id up at_
 rw [decide_eq_false h1] at hw
 have e : (if fndF G id = 0 then ((0, 0) : Nat × Nat) else if under (fndF G id) (fndF G up) G then (0, 0) else nearF G id up at_) = (0, 0) := by
  by_cases h2 : fndF G id = 0
  ·rw [if_pos h2]
  ·rw [if_neg h2, if_pos]
   exact Decidable.byContradiction fun g => h1 ⟨h2, g⟩
 rw [e] at hw
 have HW := Aside0.mk hw
 have HT := Aside0.mk t
 have HN := Aside0.mk hn0
 have HZ := Aside0.mk hz
 clear t h1 hn0 hz hw e
 go_enter Tryd.func94, Tryd.ntmps94
 go_wp2_with (go_at_call 132; (with_reducible refine (HW.out).mono ?_); rintro en w1 ⟨he, hb⟩; rw [HZ.out] at he; subst he; have HB := Aside0.mk hb; clear hb)
 go_end0
 exact ⟨⟨_, rfl⟩, ⟨A, h, HT.out.kept ((HT.out.m.alloc _).below HB.out)⟩, ((below_box0 w _).mono HN.out).trans (HB.out.mono (by have := HN.out; simp; omega))⟩
set_option maxHeartbeats 1000000 in
set_option maxRecDepth 100000 in
theorem apply_make_yes {w : World} {n0 F : Nat} {A : Nat → Option Nat} {h : Nat → Nd} {G : Fo} (t : At w n0 F A h G) (hn0 : n0 ≤ w.heap.size) (i : Nat) (up at_ : Int) (s : ByteArray) (h1 : fndF G (i : Int) = 0) (hi0 : i ≠ 0) (hi37 : i < 37) :
  Calls Tryd.prog 94 #[.pointer (some ⟨F, 0, none⟩), .iface 156 (.agg #[.int .i64 (i : Int), .int .i64 up, .int .i64 at_, .string s])] w (ApplyPost w n0 F (putF G (nearF G (i : Int) up at_) i s .nil)) := by
 have hp := near_ok (G := G) (tops_ids t.three) (i : Int) up at_
 obtain ⟨p, hpe⟩ : ∃ p, p = nearF G (i : Int) up at_ := ⟨_, rfl⟩
 have hw := where_make (t.m.alloc (.cells #[.int .i64 (i : Int), .int .i64 up, .int .i64 at_, .string s] 156)) (i : Int) up at_ s
 rw [t.fnd, if_pos h1, decide_eq_true h1, t.near, ← hpe] at hw
 rw [← hpe] at hp ⊢
 have hiG : i ∉ G.ids := fun g => by
  unfold fndF at h1
  rw [if_pos ⟨by omega, show (i : Int).toNat ∈ G.ids from g⟩] at h1
  exact hi0 h1
 obtain ⟨bu, hbu⟩ := t.ok hp.up
 have hz : whereR A p true = .returned (.tuple #[.pointer (some ⟨bu, 0, none⟩), .pointer (pa (A p.2)), .bool true]) := by unfold whereR; rw [hbu]; rfl
 have hAi : A i = none := Decidable.byContradiction fun g => hiG ((t.dom i).1 g)
 have hui : p.1 ≠ i := fun g => hiG (g ▸ hp.up)
 have hai : p.2 ≠ i := fun g => by
  rcases hp.at_ with h0 | ⟨h0, _⟩
  ·exact hi0 (g ▸ h0)
  ·exact hiG (g ▸ h0)
 have HU := Aside0.mk hui
 have HA := Aside0.mk hai
 have HW := Aside0.mk hw
 have HT := Aside0.mk t
 have HN := Aside0.mk hn0
 have HZ := Aside0.mk hz
 have HI := Aside0.mk (And.intro hi0 (And.intro hi37 (And.intro hiG hAi)))
 have HBU := Aside0.mk hbu
 have HP := Aside0.mk hp
 have i37 : (i : Int) < 37 := by omega
 have i0' : 0 ≤ (i : Int) := by omega
 clear t h1 hn0 hz hw hp hbu hui hai hiG hAi hi0 hi37 hpe
 go_enter Tryd.func94, Tryd.ntmps94
 go_wp2_with (go_at_call 132; (with_reducible refine (HW.out).mono ?_); rintro en W2 ⟨he, hb⟩; rw [HZ.out] at he; subst he; have HB := Aside0.mk hb; have HX := Aside0.mk (blk_below (blk_new w _) hb); clear hb; have d0 := (blk_cell HX.out 0).trans rfl; have d3 := (blk_cell HX.out 3).trans rfl)
 obtain ⟨g, hg⟩ : ∃ g, g = W2.heap.size := ⟨_, rfl⟩
 obtain ⟨W3, hW3⟩ : ∃ W3, W3 = W2.alloc (.cells #[.int .i64 (i : Int), .string s, .pointer none, .pointer none, .pointer none] 168) := ⟨_, rfl⟩
 rw [← hg, ← hW3]
 have nB : W3.heap[g]? = some (.cells #[.int .i64 (i : Int), .string s, .pointer none, .pointer none, .pointer none] 168 (0, 0)) := by rw [hW3, hg]; exact blk_new W2 _
 have X3 : W3.heap[w.heap.size]? = some (.cells #[.int .i64 (i : Int), .int .i64 up, .int .i64 at_, .string s] 156 (0, 0)) := by rw [hW3]; exact blk_alloc HX.out _
 have M2 := (HT.out.m.alloc (.cells #[.int .i64 (i : Int), .int .i64 up, .int .i64 at_, .string s] 156)).below HB.out
 have M3 : Mem W3 n0 F A h := by rw [hW3]; exact M2.alloc _
 have hsz := HB.out.size
 rw [World.size_alloc] at hsz
 have hltF := M2.ltF
 have hgA : ∀ y, A y ≠ some g := fun y hy => by have := M2.lt hy; omega
 have hne3 : ∀ y, A y ≠ none → (h y).up ≠ i ∧ (h y).first ≠ i ∧ (h y).next ≠ i := fun y hy =>
  ⟨fun e2 => (M2.cu y hy).elim (fun e3 => HI.out.1 (e2 ▸ e3)) (fun e3 => e3 (e2 ▸ HI.out.2.2.2)), fun e2 => (M2.cf y hy).elim (fun e3 => HI.out.1 (e2 ▸ e3)) (fun e3 => e3 (e2 ▸ HI.out.2.2.2)), fun e2 => (M2.cn y hy).elim (fun e3 => HI.out.1 (e2 ▸ e3)) (fun e3 => e3 (e2 ▸ HI.out.2.2.2))⟩
 have m4 := M3.add HI.out.1 HI.out.2.1 HI.out.2.2.2 hne3 (b := g) (t := s) hgA (by omega) (by have := HN.out; omega) nB
 obtain ⟨W4, hW4⟩ : ∃ W4, W4 = (W3.setCell ⟨F, i, none⟩ (.pointer (some ⟨g, 0, none⟩))).drew := ⟨_, rfl⟩
 have m5 : Mem W4 n0 F (upA A i g) (upN h i ⟨s, 0, 0, 0⟩) := by rw [hW4]; exact m4.drew
 have b4 : Below n0 w W4 := by
  rw [hW4, hW3]
  exact (((((below_box0 w _).mono HN.out).trans (HB.out.mono (by have := HN.out; simp; omega))).alloc (by have := HN.out; omega) _).setCell (p := ⟨F, i, none⟩) HT.out.m.loF _).drew
 have cT := M3.cF i HI.out.2.1
 have fT := M3.fzF i
 have q0 := (blk_cell X3 0).trans rfl
 have ne1 : w.heap.size ≠ F := by have := HT.out.m.ltF; omega
 have ne2 : F ≠ w.heap.size := fun e => ne1 e.symm
 have HW4 := Aside0.mk hW4
 have HAT := Aside0.mk (attach_any m5 (i := i) (u := p.1) (a := p.2) (bi := g) (bu := bu) (if_pos rfl) ((if_neg HU.out).trans HBU.out) HU.out (by
  rcases HP.out.at_ with h0 | ⟨h0, _⟩
  ·exact Or.inl h0
  ·right; rw [show upA A i g p.2 = A p.2 from if_neg HA.out]; exact (HT.out.dom _).2 h0) HA.out)
 rw [show upA A i g p.2 = A p.2 from if_neg HA.out] at HAT
 have HB4 := Aside0.mk b4
 clear nB X3 M2 M3 hsz hltF hgA hne3 m4 m5 b4 hW4 hW3 hg d0 d3
 go_region
 rw [← HW4.out]
 clear cT fT q0
 go_wp2_with (go_at_call 130; (with_reducible refine (HAT.out).mono ?_); rintro en W5 ⟨⟨v, rfl⟩, hm, hb⟩; have HM5 := Aside0.mk hm; have HB5 := Aside0.mk hb; clear hm hb)
 go_end0
 have t := HT.out
 obtain ⟨hi0, hi37, hiG, hAi⟩ := HI.out
 have hfree : Free (upN h i ⟨s, 0, 0, 0⟩) i s .nil := ⟨hi0, by rw [show upN h i ⟨s, 0, 0, 0⟩ i = ⟨s, 0, 0, 0⟩ from if_pos rfl], by rw [show upN h i ⟨s, 0, 0, 0⟩ i = ⟨s, 0, 0, 0⟩ from if_pos rfl]; rfl, trivial, by simp [Fo.ids]⟩
 have hext : RepTop (upN h i ⟨s, 0, 0, 0⟩) G := t.rep.ext fun x hx => upN_out (fun e => hiG (e ▸ hx))
 have hat : p.2 = 0 ∨ (p.2 ∈ G.ids ∧ p.2 ∉ G.tops) := by
  rcases HP.out.at_ with h0 | ⟨h0, h2, _⟩
  ·exact Or.inl h0
  ·exact Or.inr ⟨h0, par_top h t.rep t.nd h0 (by rw [h2]; exact t.rep.ne0 _ HP.out.up)⟩
 have hrep := putF_rep (p := p) hfree hext t.nd hiG (by simp [Fo.ids]) HP.out.up (by
  rcases HP.out.at_ with h0 | ⟨h0, h2, _⟩
  ·exact Or.inl h0
  ·right
   refine ⟨h0, ?_, (hat.resolve_left (t.rep.ne0 _ h0)).2⟩
   rw [upN_out HA.out, reptop_par t.rep t.nd h0, h2])
 have hids := putF_ids (p := p) (i := i) (t := s) (s := .nil) t.nd HP.out.up (hat.imp id And.left)
 simp only [Fo.ids, List.nil_append] at hids
 refine ⟨⟨_, rfl⟩, ⟨_, _, HM5.out, hrep, ?_, fun x => ?_, ?_⟩, HB4.out.trans HB5.out⟩
 ·exact hids.nodup_iff.2 (List.nodup_cons.2 ⟨hiG, t.nd⟩)
 ·rw [hids.mem_iff, List.mem_cons]
  unfold upA
  by_cases hx : x = i
  ·simp [hx]
  ·rw [if_neg hx]
   simp only [hx, false_or]
   exact t.dom x
 ·rw [putF_tops (hat.imp id And.right)]; exact t.tops
theorem sibT_ne {x : Nat} (hx0 : x ≠ 0) : ∀ {F : Fo}, F.ids.Nodup → x ∈ F.ids → x ∉ F.tops → sibT x F ≠ x
 | .nil, _, hx, _ => by simp [Fo.ids] at hx
 | .nd j u k n, hn, hx, ht => by
  obtain ⟨n1, n2, n3, n4, n5⟩ := nodup_nd hn
  simp only [Fo.ids, Fo.tops, List.mem_cons, List.mem_append, not_or] at hx ht
  unfold sibT
  by_cases hk : x ∈ k.ids
  ·rw [if_pos hk]; exact sib_ne hx0 n3 hk (fun e => hx0 e.symm)
  ·rw [if_neg hk]; exact sibT_ne hx0 n4 (by rcases hx with g | g | g; exact absurd g ht.1; exact absurd g hk; exact g) ht.2
theorem At.detach {w : World} {n0 F : Nat} {A : Nat → Option Nat} {h : Nat → Nd} {G : Fo} (t : At w n0 F A h G) {i b : Nat} (hi : A i = some b) (hit : i ∉ G.tops) :
  Calls Tryd.prog 133 #[.pointer (some ⟨b, 0, none⟩)] w fun e W' => (∃ v, e = .returned v) ∧ Mem W' n0 F A (detachH h i (sibT i G)) ∧ Below n0 w W' := by
 have hG : i ∈ G.ids := (t.dom i).1 (by rw [hi]; simp)
 obtain ⟨u1, u2⟩ := reptop_up t.rep t.nd hG hit
 obtain ⟨r1, r2⟩ := reptop_sub t.rep t.nd u1
 obtain ⟨s1, s2⟩ := sibT_pv t.rep t.nd hG hit
 obtain ⟨bu, hbu⟩ := t.ok u1
 have hsA : ∀ x ∈ (sub (h i).up G).ids, A x ≠ none := fun x hx => (t.dom x).2 (sub_ids _ hx)
 have hL := nlist_of t.m r1 hsA
 rw [← r2] at hL
 rw [s1]
 refine detach_any t.m hi hbu rfl u2 (sub (h i).up G).tops (fun x hx => hsA x (tops_ids hx)) hL fun h0 => ?_
 rw [← s1] at h0 ⊢
 exact ⟨(t.dom _).2 ((sibT_mem i G).resolve_left h0), sibT_ne (t.rep.ne0 i hG) t.nd hG hit⟩
set_option maxHeartbeats 1000000 in
set_option maxRecDepth 100000 in
theorem apply_move_yes {w : World} {n0 F : Nat} {A : Nat → Option Nat} {h : Nat → Nd} {G : Fo} (t : At w n0 F A h G) (hn0 : n0 ≤ w.heap.size) (i : Nat) (up at_ : Int) (h1 : fndF G (i : Int) = i) (hi0 : i ≠ 0) (hit : i ∉ G.tops) (hu : ¬ under i (fndF G up) G) :
  Calls Tryd.prog 94 #[.pointer (some ⟨F, 0, none⟩), .iface 161 (.agg #[.int .i64 (i : Int), .int .i64 up, .int .i64 at_])] w (ApplyPost w n0 F (putF (del i G) (nearF G (i : Int) up at_) i (txtF i G) (sub i G))) := by
 have hiG : i ∈ G.ids := by have := (fndF_mem (G := G) (x := (i : Int)) (by rw [h1]; exact hi0)).1; rwa [h1] at this
 have hp := near_del t.rep t.nd t.three hiG hit (id := (i : Int)) (up := up) (at_ := at_) rfl hu
 obtain ⟨p, hpe⟩ : ∃ p, p = nearF G (i : Int) up at_ := ⟨_, rfl⟩
 have hw := (t.kept (t.m.alloc (.cells #[.int .i64 (i : Int), .int .i64 up, .int .i64 at_] 161))).where_move (i : Int) up at_
 rw [h1, if_neg hi0, if_neg hu, decide_eq_true ⟨hi0, hu⟩, ← hpe] at hw
 rw [← hpe] at hp ⊢
 have hdelG : ∀ {y}, y ∈ (del i G).ids → y ∈ G.ids := fun {y} hy => (ids_del i G t.nd hiG).mem_iff.2 (List.mem_cons_of_mem _ (List.mem_append_right _ hy))
 obtain ⟨bu, hbu⟩ := t.ok (hdelG hp.1)
 obtain ⟨bi, hbi⟩ := t.ok hiG
 have hz : whereR A p true = .returned (.tuple #[.pointer (some ⟨bu, 0, none⟩), .pointer (pa (A p.2)), .bool true]) := by unfold whereR; rw [hbu]; rfl
 have hnd := (ids_del i G t.nd hiG).nodup_iff.1 t.nd
 have hidel : i ∉ (del i G).ids := fun g => (List.nodup_cons.1 hnd).1 (List.mem_append_right _ g)
 have hui : p.1 ≠ i := fun g => hidel (g ▸ hp.1)
 have hai : p.2 ≠ i := fun g => by
  rcases hp.2 with h0 | ⟨h0, _⟩
  ·exact hi0 (g ▸ h0)
  ·exact hidel (g ▸ h0)
 have F1 : Aside0 (findA A (i : Int) = some bi) := ⟨(fnd_eq t.m _).trans (by rw [t.fnd, h1]; exact hbi)⟩
 have HD : Aside0 (∀ W, Mem W n0 F A h → Calls Tryd.prog 133 #[.pointer (some ⟨bi, 0, none⟩)] W fun e W' => (∃ v, e = .returned v) ∧ Mem W' n0 F A (detachH h i (sibT i G)) ∧ Below n0 W W') := ⟨fun W m => (t.kept m).detach hbi hit⟩
 have HAT : Aside0 (∀ W, Mem W n0 F A (detachH h i (sibT i G)) → Calls Tryd.prog 130 #[.pointer (some ⟨bi, 0, none⟩), .pointer (some ⟨bu, 0, none⟩), .pointer (pa (A p.2))] W fun e W' => (∃ v, e = .returned v) ∧ Mem W' n0 F A (attachH (detachH h i (sibT i G)) i p.1 p.2) ∧ Below n0 W W') := ⟨fun W m => attach_any m hbi hbu hui (by
  rcases hp.2 with h0 | ⟨h0, _⟩
  ·exact Or.inl h0
  ·exact Or.inr ((t.dom _).2 (hdelG h0))) hai⟩
 have HW := Aside0.mk hw
 have HT := Aside0.mk t
 have HN := Aside0.mk hn0
 have HZ := Aside0.mk hz
 have HI := Aside0.mk (And.intro hi0 (And.intro hit hiG))
 have HP := Aside0.mk hp
 have HND := Aside0.mk hnd
 have HA := Aside0.mk (And.intro hai hidel)
 clear t h1 hn0 hz hw hp hbu hbi hui hai hiG hi0 hit hpe hnd hidel hu
 go_enter Tryd.func94, Tryd.ntmps94
 go_wp2_with (first
  | (go_at_call 132; (with_reducible refine (HW.out).mono ?_); rintro en W2 ⟨he, hb⟩; rw [HZ.out] at he; subst he; have HB := Aside0.mk hb; have HX := Aside0.mk (blk_below (blk_new w _) hb); have HM2 := Aside0.mk ((HT.out.m.alloc _).below hb); clear hb; have d0 := (blk_cell HX.out 0).trans rfl)
  | (go_at_call 131; (with_reducible refine (find_any HM2.out (i : Int)).mono ?_); rw [F1.out, pa_some]; rintro en W3 ⟨rfl, rfl⟩)
  | (go_at_call 133; (with_reducible refine (HD.out _ HM2.out).mono ?_); rintro en W4 ⟨⟨v4, rfl⟩, hm, hb⟩; have HM4 := Aside0.mk hm; have HB4 := Aside0.mk hb; clear hm hb)
  | (go_at_call 130; (with_reducible refine (HAT.out _ HM4.out).mono ?_); rintro en W5 ⟨⟨v5, rfl⟩, hm, hb⟩; have HM5 := Aside0.mk hm; have HB5 := Aside0.mk hb; clear hm hb))
 go_end0
 have t := HT.out
 obtain ⟨hi0, hit, hiG⟩ := HI.out
 obtain ⟨hai, hidel⟩ := HA.out
 have hp := HP.out
 have hnd := HND.out
 obtain ⟨n1, n2⟩ := List.nodup_cons.1 hnd
 obtain ⟨n3, n4, n5⟩ := List.nodup_append.1 n2
 have hfree : Free (detachH h i (sibT i G)) i (txtF i G) (sub i G) := by
  rw [← reptop_txt t.rep t.nd hiG]
  exact freeT_detach t.rep t.nd hiG hit (sibT_out t.rep t.nd hiG hit) (upT_out t.rep t.nd hiG hit)
 have hdel := reptop_del t.rep t.nd hiG hit
 have hdis : ∀ j ∈ (sub i G).ids, j ∉ (del i G).ids := fun j hj hk => n5 j hj j hk rfl
 have hup2 : ∀ y, y ≠ i → (detachH h i (sibT i G) y).up = (h y).up := fun y hy => by
  by_cases h0 : sibT i G = 0
  ·rw [h0, detachH_zero h i hy]; split <;> rfl
  ·rw [detachH_pos h i _ h0 hy]; split <;> rfl
 have hrep := putF_rep (p := p) hfree hdel n4 hidel hdis hp.1 (hp.2.imp id fun ⟨a1, a2, a3, _⟩ => ⟨a1, by rw [hup2 _ hai]; exact a2, a3⟩)
 have hids := putF_ids (p := p) (i := i) (t := txtF i G) (s := sub i G) n4 hp.1 (hp.2.imp id And.left)
 have hall := (ids_del i G t.nd hiG).trans hids.symm
 refine ⟨⟨_, rfl⟩, ⟨_, _, HM5.out, hrep, hall.nodup_iff.1 t.nd, fun x => by rw [← hall.mem_iff]; exact t.dom x, ?_⟩, ?_⟩
 ·rw [putF_tops (hp.2.imp id fun ⟨_, _, a3, _⟩ => a3), tops_del i G hit]; exact t.tops
 ·exact ((((below_box0 w _).mono HN.out).trans (HB.out.mono (by have := HN.out; simp; omega))).trans HB4.out).trans HB5.out
end Go.Proofs.YtdpklbomhdpimaaDoor.P
namespace Go.Proofs.YtdpklbomhdpimaaDoor.FP
open Go.Proofs.YtdpklbomhdpimaaDoor.P
def toFo (l : List S69) : Fo := l.foldl (fun G x => snoc x.f0.toNat x.f2 x.f1.toNat G) .nil
theorem fl_deep : ∀ (F : Fo) (d : Nat) {x : S69}, x ∈ F.fl d → (d : Int) ≤ x.f1
 | .nil, d, x, h => by simp [Fo.fl] at h
 | .nd i t k n, d, x, h => by
  simp only [Fo.fl, List.mem_cons, List.mem_append] at h
  rcases h with rfl | h | h
  ·exact Int.le_refl _
  ·have := fl_deep k (d + 1) h; omega
  ·exact fl_deep n d h
theorem fl_head (F : Fo) (d : Nat) : F.fl d = [] ∨ ∃ x r, F.fl d = x :: r ∧ x.f1 = (d : Int) := by
 cases F with
 | nil => exact Or.inl rfl
 | nd i t k n => exact Or.inr ⟨_, _, rfl, rfl⟩
theorem split_deep {d : Nat} : ∀ {a a' b b' : List S69}, (∀ x ∈ a, (d : Int) < x.f1) → (∀ x ∈ a', (d : Int) < x.f1) → (b = [] ∨ ∃ x r, b = x :: r ∧ x.f1 = (d : Int)) → (b' = [] ∨ ∃ x r, b' = x :: r ∧ x.f1 = (d : Int)) → a ++ b = a' ++ b' → a = a' ∧ b = b'
 | [], [], b, b', _, _, _, _, e => ⟨rfl, e⟩
 | [], y :: a', b, b', _, h2, h3, _, e => by
  exfalso
  rcases h3 with rfl | ⟨x, r, rfl, hx⟩
  ·simp at e
  ·simp only [List.nil_append, List.cons_append, List.cons.injEq] at e
   have := h2 y List.mem_cons_self
   rw [← e.1] at this
   omega
 | y :: a, [], b, b', h1, _, _, h4, e => by
  exfalso
  rcases h4 with rfl | ⟨x, r, rfl, hx⟩
  ·simp at e
  ·simp only [List.nil_append, List.cons_append, List.cons.injEq] at e
   have := h1 y List.mem_cons_self
   rw [e.1] at this
   omega
 | y :: a, y' :: a', b, b', h1, h2, h3, h4, e => by
  simp only [List.cons_append, List.cons.injEq] at e
  obtain ⟨e1, e2⟩ := split_deep (fun x hx => h1 x (List.mem_cons_of_mem _ hx)) (fun x hx => h2 x (List.mem_cons_of_mem _ hx)) h3 h4 e.2
  exact ⟨by rw [e.1, e1], e2⟩
theorem fl_inj : ∀ (F G : Fo) (d : Nat), F.fl d = G.fl d → F = G
 | .nil, .nil, _, _ => rfl
 | .nil, .nd _ _ _ _, _, h => by simp [Fo.fl] at h
 | .nd _ _ _ _, .nil, _, h => by simp [Fo.fl] at h
 | .nd i t k n, .nd i' t' k' n', d, h => by
  simp only [Fo.fl, List.cons.injEq, S69.mk.injEq] at h
  obtain ⟨⟨h1, _, h2⟩, h3⟩ := h
  obtain ⟨e1, e2⟩ := split_deep (d := d) (fun x hx => by have := fl_deep k (d + 1) hx; omega) (fun x hx => by have := fl_deep k' (d + 1) hx; omega) (fl_head n d) (fl_head n' d) h3
  rw [fl_inj k k' (d + 1) e1, fl_inj n n' d e2, h2, show i = i' by omega]
theorem fold_fl : ∀ (l : List S69) (G : Fo) (seen : List Int) (roots : Int), treeGo seen roots ((dpth G : Int) - 1) l = true → (l.foldl (fun G x => snoc x.f0.toNat x.f2 x.f1.toNat G) G).fl 0 = G.fl 0 ++ l
 | [], G, _, _, _ => by simp
 | x :: l, G, seen, roots, h => by
  unfold treeGo at h
  simp only [Bool.and_eq_true, decide_eq_true_eq] at h
  obtain ⟨hrow, _, hdep, hrest⟩ := h
  obtain ⟨b0, b37, d0, d18⟩ := rowB_id hrow
  have he : x.f1.toNat ≤ dpth G := by omega
  have hd : ((dpth (snoc x.f0.toNat x.f2 x.f1.toNat G) : Int) - 1) = x.f1 := by rw [snoc_dpth _ _ G _ he]; omega
  have hrest2 : ∃ s r, treeGo s r x.f1 l = true := by
   split at hrest
   ·simp only [Bool.and_eq_true] at hrest; exact ⟨_, _, hrest.2⟩
   ·exact ⟨_, _, hrest⟩
  obtain ⟨s, r, hr⟩ := hrest2
  rw [List.foldl_cons, fold_fl l _ s r (by rw [hd]; exact hr), snoc_fl _ _ G _ 0 he, List.append_assoc, Nat.zero_add]
  congr 1
  obtain ⟨x0, x1, x2⟩ := x
  simp only [List.singleton_append, List.cons.injEq, and_true]
  simp only at b0 d0
  congr 1
  ·omega
  ·omega
theorem toFo_fl {l : List S69} (h : treeB l = true) : (toFo l).fl 0 = l := by
 have := fold_fl l .nil [] 0 h
 exact this
theorem toFo_of {l : List S69} {G : Fo} (h : treeB l = true) (hG : G.fl 0 = l) : toFo l = G := fl_inj _ _ 0 ((toFo_fl h).trans hG.symm)
theorem nodup_len : ∀ (n : Nat) (l : List Nat), l.Nodup → (∀ x ∈ l, x < n) → l.length ≤ n
 | 0, [], _, _ => Nat.le_refl _
 | 0, x :: l, _, h => absurd (h x List.mem_cons_self) (Nat.not_lt_zero _)
 | n + 1, l, hn, h => by
  have e1 := nodup_len n (l.erase n) (hn.erase n) fun x hx => by
   have h1 := (hn.mem_erase_iff).1 hx
   have := h x h1.2
   omega
  have := List.length_erase (a := n) (l := l)
  split at this <;> omega
end Go.Proofs.YtdpklbomhdpimaaDoor.FP
namespace Go.Proofs.YtdpklbomhdpimaaDoor.P
open Go.RowKit Go.Shelf Go.Proofs.YtdpklbomhdpimaaDoorW.PrintWords Go.Proofs.YtdpklbomhdpimaaDoorW.PrintLast Go.Proofs.YtdpklbomhdpimaaDoorW.PrintMore Go.Proofs.YtdpklbomhdpimaaDoor.FP
attribute [local go_sem] Oper.semAt_some

theorem roomN {F : Fence} (hd : F.depth = none) (k : Nat) : F.room k := fun d h => by rw [hd] at h; cases h
theorem callsIn_any {F : Fence} (hd : F.depth = none) {m m' : Nat} {P : Program} {f : FuncId} {args : Array Value} {w : World} {R : Ending → World → Prop} (h : CallsIn F m P f args w R) : CallsIn F m' P f args w R :=
 ⟨h.1, fun cs _ => h.2 cs (roomN hd _)⟩
theorem roundIn_any {F : Fence} (hd : F.depth = none) {m m' : Nat} {P : Program} {l : Nat} {f : FuncId} {tmps : Array Value} {assign body : Code} {w : World} {R : Ending → World → Prop}
  (h : RoundIn F m P l f tmps assign body w R) : RoundIn F m' P l f tmps assign body w R := ⟨h.1, fun c cs _ => h.2 c cs (roomN hd _)⟩
theorem KeepsFrom.mono {B B' : Nat} {W W' : World} (h : KeepsFrom B W W') (hB : B ≤ B') : KeepsFrom B' W W' := ⟨h.size, fun k o hk => h.same k o (Nat.le_trans hB hk)⟩
def Stb {β : Type} (B0 : Nat) (J : β → World → Prop) : Prop :=
 ∀ s V W row, J s V → V.grownBy W row → (∀ r, row = some r → B0 ≤ r ∧ ∃ o : Obj, V.heap[r]? = some o ∧ (o.isCells = false ∨ ∃ v, o = .cells #[v] 4 (0, 0))) → J s W
theorem Stb.own {β : Type} {B0 B : Nat} {J : β → World → Prop} (h : Stb B0 J) (hB : B0 ≤ B) : OwnFrom B J := fun s V W row hs hg hr => h s V W row hs hg fun r e => by
 obtain ⟨h1, o, h2, h3⟩ := hr r e
 exact ⟨Nat.le_trans hB h1, o, h2, Or.inl h3⟩
theorem Stb.alloc {β : Type} {B0 : Nat} {J : β → World → Prop} (h : Stb B0 J) {s : β} {V : World} (o : Obj) (hs : J s V) : J s (V.alloc o) := h s V _ none hs (World.grownBy_alloc V o none) (fun r e => by cases e)
theorem Stb.put {β : Type} {B0 : Nat} {J : β → World → Prop} (h : Stb B0 J) {s : β} {V : World} {l : Nat} {o : Obj} (o' : Obj) (hs : J s V) (hl : V.heap[l]? = some o) (ho : o.isCells = false) (hB : B0 ≤ l) : J s (V.putObj l o') :=
 h s V _ (some l) hs (grownBy_putObj' V l o') (fun r e => by cases e; exact ⟨hB, o, hl, Or.inl ho⟩)
theorem Stb.box {β : Type} {B0 : Nat} {J : β → World → Prop} (h : Stb B0 J) {s : β} {V : World} {l : Nat} {v : Value} (v' : Value) (hs : J s V) (hl : Boxed V l 4 v) (hB : B0 ≤ l) : J s (V.setCell ⟨l, 0, none⟩ v') :=
 h s V _ (some l) hs (grownBy_setCell' V l v') (fun r e => by cases e; exact ⟨hB, _, hl, Or.inr ⟨v, rfl⟩⟩)
structure YE (A : Nat → Option Nat) where
 val : Nat
 dep : Int
 ok : A val ≠ none
 d0 : 0 ≤ dep ∧ dep ≤ 1000
def YE.pr {A : Nat → Option Nat} (e : YE A) : Nat × Int := (e.val, e.dep)
theorem YE.inj {A : Nat → Option Nat} : ∀ {e e' : YE A}, e.pr = e'.pr → e = e'
 | ⟨v, d, _, _⟩, ⟨v', d', _, _⟩, h => by
  have h1 : v = v' := congrArg Prod.fst h
  have h2 : d = d' := congrArg Prod.snd h
  subst h1; subst h2; rfl
theorem YE.inj_map {A : Nat → Option Nat} : ∀ {l l' : List (YE A)}, l.map YE.pr = l'.map YE.pr → l = l'
 | [], [], _ => rfl
 | [], _ :: _, h => by cases h
 | _ :: _, [], h => by cases h
 | e :: l, e' :: l', h => by
  rw [List.map_cons, List.map_cons] at h
  rw [YE.inj (List.cons.inj h).1, YE.inj_map (List.cons.inj h).2]
def mkYE (A : Nat → Option Nat) : (l : List (Nat × Int)) → (∀ p ∈ l, A p.1 ≠ none ∧ 0 ≤ p.2 ∧ p.2 ≤ 1000) → List (YE A)
 | [], _ => []
 | p :: l, h => ⟨p.1, p.2, (h p List.mem_cons_self).1, (h p List.mem_cons_self).2⟩ :: mkYE A l fun q hq => h q (List.mem_cons_of_mem _ hq)
theorem mkYE_pr (A : Nat → Option Nat) : ∀ (l : List (Nat × Int)) (h : ∀ p ∈ l, A p.1 ≠ none ∧ 0 ≤ p.2 ∧ p.2 ≤ 1000), (mkYE A l h).map YE.pr = l
 | [], _ => rfl
 | p :: l, h => by
  unfold mkYE
  rw [List.map_cons, mkYE_pr A l]
  rfl
def pre1 (d : Int) : Fo → List (Nat × Int)
 | .nil => []
 | .nd i _ k n => (i, d) :: (pre1 (d + 1) k ++ pre1 d n)
theorem pre1_len : ∀ (F : Fo) (d : Int), (pre1 d F).length = F.ids.length
 | .nil, d => rfl
 | .nd i t k n, d => by simp [pre1, Fo.ids, pre1_len k, pre1_len n]
theorem pre1_mem : ∀ {F : Fo} {d : Int} {p : Nat × Int}, p ∈ pre1 d F → p.1 ∈ F.ids ∧ d ≤ p.2 ∧ p.2 < d + F.ids.length
 | .nil, d, p, h => by cases h
 | .nd i t k n, d, p, h => by
  simp only [pre1, List.mem_cons, List.mem_append] at h
  simp only [Fo.ids, List.mem_cons, List.mem_append, List.length_cons, List.length_append]
  rcases h with rfl | h | h
  ·exact ⟨Or.inl rfl, by simp, by simp; omega⟩
  ·obtain ⟨h1, h2, h3⟩ := pre1_mem h
   exact ⟨Or.inr (Or.inl h1), by omega, by omega⟩
  ·obtain ⟨h1, h2, h3⟩ := pre1_mem h
   exact ⟨Or.inr (Or.inr h1), by omega, by omega⟩
def kf (x : Nat) : Fo → Fo
 | .nil => .nil
 | .nd j _ k n => if j = x then k else kf x n
theorem kf_spec {h : Nat → Nd} {x : Nat} : ∀ {F : Fo} {up : Nat}, Rep h up F → F.ids.Nodup → x ∈ F.tops → Rep h x (kf x F) ∧ (h x).first = (kf x F).hd ∧ (∀ y ∈ (kf x F).ids, y ∈ F.ids) ∧ (kf x F).ids.length < F.ids.length ∧ (kf x F).ids.Nodup
 | .nil, _, _, _, hx => by cases hx
 | .nd j t k n, up, ⟨h1, h2, h3, h4⟩, hn, hx => by
  obtain ⟨n1, n2, n3, n4, n5⟩ := nodup_nd hn
  unfold kf
  by_cases e : j = x
  ·subst e
   rw [if_pos rfl]
   exact ⟨h3, by rw [h2], fun y hy => by simp [Fo.ids, hy], by simp [Fo.ids]; omega, n3⟩
  ·rw [if_neg e]
   have hx' : x ∈ n.tops := by
    simp only [Fo.tops, List.mem_cons] at hx
    exact hx.resolve_left fun e' => e e'.symm
   obtain ⟨g1, g2, g3, g4, g5⟩ := kf_spec h4 n4 hx'
   exact ⟨g1, g2, fun y hy => by simp [Fo.ids, g3 y hy], by simp [Fo.ids]; omega, g5⟩
theorem flatMap_congr' {α β : Type} {f g : α → List β} : ∀ {l : List α}, (∀ x ∈ l, f x = g x) → l.flatMap f = l.flatMap g
 | [], _ => rfl
 | x :: l, h => by rw [List.flatMap_cons, List.flatMap_cons, h x List.mem_cons_self, flatMap_congr' fun y hy => h y (List.mem_cons_of_mem _ hy)]
theorem pre1_kids : ∀ (F : Fo) (d : Int), F.ids.Nodup → pre1 d F = F.tops.flatMap fun x => (x, d) :: pre1 (d + 1) (kf x F)
 | .nil, d, _ => rfl
 | .nd j t k n, d, hn => by
  obtain ⟨n1, n2, n3, n4, n5⟩ := nodup_nd hn
  simp only [Fo.tops, List.flatMap_cons, pre1]
  rw [pre1_kids n d n4]
  have e1 : kf j (Fo.nd j t k n) = k := by unfold kf; exact if_pos rfl
  rw [e1, List.cons_append]
  congr 2
  refine flatMap_congr' fun x hx => ?_
  have e2 : kf x (Fo.nd j t k n) = kf x n := by
   have : j ≠ x := fun e => n2 (tops_ids (e ▸ hx))
   show (if j = x then k else kf x n) = kf x n
   exact if_neg this
  rw [e2]
theorem map_flatMap' {α β γ : Type} (f : α → List β) (g : β → γ) : ∀ (l : List α), (l.flatMap f).map g = l.flatMap fun x => (f x).map g
 | [] => rfl
 | x :: l => by rw [List.flatMap_cons, List.flatMap_cons, List.map_append, map_flatMap' f g l]
theorem flatMap_map' {α β γ : Type} (f : β → List γ) (g : α → β) : ∀ (l : List α), (l.map g).flatMap f = l.flatMap fun x => f (g x)
 | [] => rfl
 | x :: l => by rw [List.map_cons, List.flatMap_cons, List.flatMap_cons, flatMap_map' f g l]
theorem flatMap_len {α β : Type} (f : α → List β) (c : Nat) : ∀ (l : List α), (∀ x ∈ l, (f x).length ≤ c) → (l.flatMap f).length ≤ c * l.length
 | [], _ => by simp
 | x :: l, h => by
  rw [List.flatMap_cons, List.length_append, List.length_cons, Nat.mul_add]
  have h1 := h x List.mem_cons_self
  have h2 := flatMap_len f c l fun y hy => h y (List.mem_cons_of_mem _ hy)
  omega
theorem tops_len : ∀ (F : Fo), F.tops.length ≤ F.ids.length
 | .nil => Nat.le_refl _
 | .nd i t k n => by
  have := tops_len n
  simp only [Fo.tops, Fo.ids, List.length_cons, List.length_append]
  omega
attribute [local go_sem] Oper.semAt_some

def KB (V W : World) : Prop := ∀ (b : Nat) (t : TypeId) (v : Value), (t = 3 ∨ t = 194 ∨ t = 4 ∨ t = 162 ∨ t = 121) → Boxed V b t v → Boxed W b t v
theorem KB.refl (W : World) : KB W W := fun _ _ _ _ h => h
theorem KB.trans {U V W : World} (h : KB U V) (k : KB V W) : KB U W := fun b t v ht hb => k b t v ht (h b t v ht hb)
theorem KB.grown {V W : World} {row : Option Nat} (hg : V.grownBy W row) (hr : ∀ r, row = some r → ∃ o : Obj, V.heap[r]? = some o ∧ o.isCells = false) : KB V W := fun b t v _ hb => hb.kept hg fun e => by
 obtain ⟨o, h1, h2⟩ := hr b e.symm
 have h3 : V.heap[b]? = some (.cells #[v] t (0, 0)) := hb
 rw [h3] at h1
 rw [← Option.some.inj h1] at h2
 cases h2
theorem KB.alloc {U V : World} (h : KB U V) (o : Obj) : KB U (V.alloc o) := h.trans (KB.grown (World.grownBy_alloc V o none) (fun r e => by cases e))
structure Stp (w0 : World) (B0 : Nat) (V W : World) : Prop where
 below : Below w0.heap.size V W
 from_ : KeepsFrom B0 V W
 kb : KB V W
theorem Stp.refl (w0 : World) (B0 : Nat) (W : World) : Stp w0 B0 W W := ⟨Below.refl _ _, KeepsFrom.refl _ _, KB.refl _⟩
theorem Stp.trans {w0 : World} {B0 : Nat} {U V W : World} (h : Stp w0 B0 U V) (k : Stp w0 B0 V W) : Stp w0 B0 U W := ⟨h.below.trans k.below, h.from_.trans k.from_, h.kb.trans k.kb⟩
theorem Stp.alloc {w0 : World} {B0 : Nat} {U V : World} (h : Stp w0 B0 U V) (hB : w0.heap.size ≤ V.heap.size) (o : Obj) : Stp w0 B0 U (V.alloc o) := ⟨h.below.alloc hB _, h.from_.trans ((KeepsOthers.alloc _ _).from _), h.kb.alloc o⟩
theorem ownFrom_stp {β : Type} {B B0 : Nat} {w0 U : World} (h1 : w0.heap.size ≤ U.heap.size) (h2 : U.heap.size ≤ B) : OwnFrom B (fun (_ : β) W => Stp w0 B0 U W) := fun s V W row hs hg hr =>
 ⟨ownFrom_below (n₀ := w0.heap.size) (β := Unit) h1 (Nat.le_trans h1 h2) () V W row hs.below hg hr, ownFrom_keepsFrom (β := Unit) (B := B0) h2 () V W row hs.from_ hg hr, hs.kb.trans (KB.grown hg fun r e => (hr r e).2)⟩
def WalkI {A : Nat → Option Nat} {Q : Nat → Prop} (J : List (YE A) → World → Prop) (pre : List (YE A)) (ys : KA Q → List (YE A)) (w0 W0 : World) (B0 g l : Nat) (d : Int) (ks : List (KA Q)) (W : World) : Prop :=
 J (pre ++ ks.flatMap ys) W ∧ (Boxed W g 3 (.int .i64 d) ∧ Boxed W (g + 1) 194 (.func (.yield l) #[] #[]) ∧ Boxed W (g + 1 + 1) 4 (.bool false)) ∧ Stp w0 B0 W0 W
theorem walkI_own {A : Nat → Option Nat} {Q : Nat → Prop} {J : List (YE A) → World → Prop} {pre : List (YE A)} {ys : KA Q → List (YE A)} {w0 W0 : World} {B0 g l B : Nat} {d : Int} (hJ : Stb B0 J) (hB : B0 ≤ B) (h1 : w0.heap.size ≤ W0.heap.size) (h2 : W0.heap.size ≤ B) :
    OwnFrom B (WalkI (Q := Q) J pre ys w0 W0 B0 g l d) := fun s V W row hs hg hr =>
  ⟨hJ.own hB (pre ++ s.flatMap ys) V W row hs.1 hg hr,
   ⟨boxed_own g _ (fun (_ : Unit) => _) () V W row hs.2.1.1 hg (fun r e => (hr r e).2), boxed_own (g + 1) _ (fun (_ : Unit) => _) () V W row hs.2.1.2.1 hg (fun r e => (hr r e).2), boxed_own (g + 1 + 1) _ (fun (_ : Unit) => _) () V W row hs.2.1.2.2 hg (fun r e => (hr r e).2)⟩,
   ownFrom_stp (β := Unit) h1 h2 () V W row hs.2.2 hg hr⟩
theorem KB.far {U V : World} (h : KB U V) {g : Nat} (hg : U.heap.size ≤ g) (v : Value) : KB U (V.setCell ⟨g, 0, none⟩ v) := fun b t u ht hb => (h b t u ht hb).other (fun e => by have := hb.lt; omega) v
theorem KeepsFrom.far {B : Nat} {U V : World} (h : KeepsFrom B U V) {D : Nat} (hD : U.heap.size ≤ D) {o : Obj} (hK : V.heap[D]? = some o) (ho : o.isCells = false) (o' : Obj) : KeepsFrom B U (V.putObj D o') :=
 ownFrom_keepsFrom (β := Unit) (B' := U.heap.size) (Nat.le_refl _) () V _ (some D) h (grownBy_putObj' V D o') (fun r e => by cases e; exact ⟨hD, o, hK, ho⟩)
def WalkPost {A : Nat → Option Nat} (J : List (YE A) → World → Prop) (w0 : World) (B0 : Nat) (l : List (YE A)) (W : World) (e : Ending) (W' : World) : Prop := e = .returned (.bool true) ∧ J l W' ∧ Stp w0 B0 W W'
set_option maxRecDepth 100000 in
set_option maxHeartbeats 4000000 in
theorem wlk_in_ (F : Fence) (hd : F.depth = none) (h81 : F.fn 153) (h56 : F.fn 156) (h76 : F.fn 157) (hro : F.round = none) (l N B0 : Nat) {w0 : World} {n0 Fb : Nat} {A : Nat → Option Nat} {h : Nat → Nd} (m : Mem w0 n0 Fb A h)
  (J : List (YE A) → World → Prop) (hJ : Stb B0 J)
  (hY : ∀ (q : Nat) (pre : List (YE A)) (x : YE A) (W : World), J pre W → Below w0.heap.size w0 W → pre.length < N → YieldAt F q Tryd.prog l #[.pointer (pa (A x.val)), .int .i64 x.dep] W (WalkPost J w0 B0 (pre ++ [x]) W)) :
  ∀ (s : Nat) (k : Fo), k.ids.length < s → ∀ (q i : Nat) (d : Int) (es pre : List (YE A)) (W : World), Rep h i k → k.ids.Nodup → (∀ x ∈ k.ids, A x ≠ none) → A i ≠ none → (h i).first = k.hd → es.map YE.pr = (i, d) :: pre1 (d + 1) k → J pre W → Below w0.heap.size w0 W → B0 ≤ W.heap.size →
   pre.length + 1400 * (k.ids.length + 1) ≤ N → k.ids.length ≤ 36 → 0 ≤ d → d + k.ids.length ≤ 900 →
   CallsIn F q Tryd.prog 153 #[.pointer (pa (A i)), .int .i64 d, .func (.yield l) #[] #[]] W (WalkPost J w0 B0 (pre ++ es) W) := by
 intro s
 induction s with
 | zero => intro k hk; omega
 | succ s ih =>
  intro k hks q i d es pre W hR hnd hAk hAi hfirst hes hJ0 hB hB0 hN h36 hd0 hd1
  obtain ⟨b, hb⟩ := Option.ne_none_iff_exists'.1 hAi
  -- what is handed on
  obtain ⟨e0, rest, rfl⟩ : ∃ e0 rest, es = e0 :: rest := by
   cases es with
   | nil => cases hes
   | cons e0 rest => exact ⟨e0, rest, rfl⟩
  rw [List.map_cons] at hes
  obtain ⟨he0, hrest⟩ := List.cons.inj hes
  have hv : e0.val = i := congrArg Prod.fst he0
  have hdp : e0.dep = d := congrArg Prod.snd he0
  obtain ⟨ks, hks2⟩ := attach_val (Q := fun y => y ∈ k.tops) (l := k.tops) fun x hx => hx
  have hok : ∀ x : KA (fun y => y ∈ k.tops), ∀ p ∈ (x.val, d + 1) :: pre1 (d + 1 + 1) (kf x.val k), A p.1 ≠ none ∧ 0 ≤ p.2 ∧ p.2 ≤ 1000 := fun x p hp => by
   obtain ⟨g1, g2, g3, g4, g5⟩ := kf_spec hR hnd x.ok
   rcases List.mem_cons.1 hp with rfl | hp
   ·exact ⟨hAk _ (tops_ids x.ok), by simp; omega, by simp; omega⟩
   ·obtain ⟨a1, a2, a3⟩ := pre1_mem hp
    exact ⟨hAk _ (g3 _ a1), by omega, by omega⟩
  obtain ⟨ys, hys⟩ : ∃ ys : KA (fun y => y ∈ k.tops) → List (YE A), ∀ x, (ys x).map YE.pr = (x.val, d + 1) :: pre1 (d + 1 + 1) (kf x.val k) := ⟨fun x => mkYE A _ (hok x), fun x => mkYE_pr A _ (hok x)⟩
  have hrest2 : rest = ks.flatMap ys := by
   apply YE.inj_map
   rw [hrest, map_flatMap', pre1_kids k (d + 1) hnd]
   refine ((congrArg (fun (z : List Nat) => z.flatMap fun x => (x, d + 1) :: pre1 (d + 1 + 1) (kf x k)) hks2).symm.trans (flatMap_map' _ KA.val ks)).trans ?_
   exact flatMap_congr' fun x _ => (hys x).symm
  have hyl : ∀ x, (ys x).length ≤ 36 := fun x => by
   have h1 := congrArg List.length (hys x)
   have g4 := (kf_spec hR hnd x.ok).2.2.2.1
   rw [List.length_map, List.length_cons, pre1_len] at h1
   omega
  have hkl : ks.length ≤ 36 := by
   have h1 := congrArg List.length hks2
   rw [List.length_map] at h1
   have := tops_len k
   omega
  subst hrest2
  clear hes hrest hok he0
  have hsz := hB.size
  -- the boxes
  obtain ⟨W3, hW3⟩ : ∃ W3, W3 = ((W.alloc (.cells #[.int .i64 d] 3)).alloc (.cells #[.func (.yield l) #[] #[]] 194)).alloc (.cells #[.bool false] 4) := ⟨_, rfl⟩
  have b1 := ((Boxed.new W 3 (.int .i64 d)).alloc (.cells #[.func (.yield l) #[] #[]] 194)).alloc (.cells #[.bool false] 4)
  have b2 := (Boxed.new (W.alloc (.cells #[.int .i64 d] 3)) 194 (.func (.yield l) #[] #[])).alloc (.cells #[.bool false] 4)
  have b3 := Boxed.new ((W.alloc (.cells #[.int .i64 d] 3)).alloc (.cells #[.func (.yield l) #[] #[]] 194)) 4 (.bool false)
  simp only [World.size_alloc] at b2 b3
  have hJ3 : J pre W3 := by rw [hW3]; exact hJ.alloc _ (hJ.alloc _ (hJ.alloc _ hJ0))
  have hS3 : Stp w0 B0 W W3 := by rw [hW3]; exact (((Stp.refl w0 B0 W).alloc hsz _).alloc (by simp; omega) _).alloc (by simp; omega) _
  have hz3 : W3.heap.size = W.heap.size + 3 := by rw [hW3]; simp
  rw [← hW3] at b1 b2 b3
  obtain ⟨fn, tmps, assign, body, hy, hRd⟩ := hY 7 pre e0 W3 hJ3 (hB.trans hS3.below) (by omega)
  rw [hv, hdp, hb, pa_some] at hy
  have cD := b1.cell
  have cY := b2.cell
  have M := Aside0.mk m
  have HB := Aside0.mk hB
  have HBi := Aside0.mk hb
  have HS3 := Aside0.mk hS3
  refine callsIn_any hd (m := 8) ?_
  rw [hb, pa_some]
  refine callsIn_of_wp_marks Tryd.func153 rfl h81 ?_ hro
  simp only [Tryd.ntmps153, List.size_toArray, List.length_cons, List.length_nil, Nat.reduceAdd, Nat.reduceSub, Array.replicate_succ, Array.replicate_zero, List.push_toArray, List.append_toArray, List.nil_append, List.cons_append]
  rw [hW3] at hy cD cY
  gi_wp2
  rw [← hW3]
  refine hRd.mono ?_
  clear hRd hy cD cY hJ3 hS3
  rintro e W4 ⟨rfl, hJ4, hS4⟩
  have HJ4 := Aside0.mk hJ4
  have HS4 := Aside0.mk (HS3.out.trans hS4)
  have HK4 := Aside0.mk hS4.kb
  have HZ4 := Aside0.mk hS4.below.size
  clear hJ4 hS4
  gi_wp2_with (gi_at_call 156; refine (kids_in F _ h56 hro _ _).mono ?_; rintro e w' ⟨rfl, rfl⟩)
  have hS4 := HS4.out
  have hz4 : W3.heap.size ≤ W4.heap.size := HZ4.out
  obtain ⟨W5, hW5⟩ : ∃ W5, W5 = W4.alloc (.cells #[.pointer (some ⟨b, 0, none⟩)] 162) := ⟨_, rfl⟩
  have hz5 : W5.heap.size = W4.heap.size + 1 := by rw [hW5]; simp
  have hB05 : B0 ≤ W5.heap.size := by omega
  have hbox : W5.cell? ⟨W4.heap.size, 0, none⟩ = some (.pointer (some ⟨b, 0, none⟩)) := by rw [hW5]; exact (cell_new_f W4 _ _).1
  have hS45 : Stp w0 B0 W4 W5 := by rw [hW5]; exact (Stp.refl w0 B0 W4).alloc (by omega) _
  have hB5 : Below w0.heap.size w0 W5 := (HB.out.trans hS4.below).trans hS45.below
  have M5 := M.out.below hB5
  have c3 := M5.c3 HBi.out
  rw [hfirst] at c3
  have hL : NList A w0.heap.size W5 (pa (A k.hd)) (ks.map KA.val) := by rw [hks2]; exact (nlist_of M.out hR hAk).below hB5
  have hbl : b < w0.heap.size := M.out.lt HBi.out
  have hI0 : WalkI J (pre ++ [e0]) ys w0 W5 B0 W.heap.size l d [] W5 := ⟨by rw [List.flatMap_nil, List.append_nil, hW5]; exact hJ.alloc _ HJ4.out, ⟨hS45.kb _ _ _ (Or.inl rfl) (HK4.out _ _ _ (Or.inl rfl) b1), hS45.kb _ _ _ (Or.inr (Or.inl rfl)) (HK4.out _ _ _ (Or.inr (Or.inl rfl)) b2), hS45.kb _ _ _ (Or.inr (Or.inr (Or.inl rfl))) (HK4.out _ _ _ (Or.inr (Or.inr (Or.inl rfl))) b3)⟩, Stp.refl _ _ _⟩
  rw [← hW5]
  have HB5 := Aside0.mk hB5
  have HS45 := Aside0.mk hS45
  clear b1 b2 b3 hB5 hS45
  refine wpIn_rangeFunc_ownG hro (show 1 ≤ 8 by omega) (gf := 157) (lb := #[.pointer (some ⟨W4.heap.size, 0, none⟩)]) rfl h76 (enters_of Tryd.func157 (by kernel_rfl) rfl)
   (kids_stops F 7 h76 hro (by omega) W4.heap.size w0.heap.size b (fun y => y ∈ k.tops) A (pa (A k.hd)) ks W5 (by omega) (by omega) (by omega) hbox c3 hL) belowK_t (belowK_b (by omega)) (Below.refl _ _) (fun _ => by rfl)
   (WalkI J (pre ++ [e0]) ys w0 W5 B0 W.heap.size l d) (fun _ _ _ => False) (walkI_own hJ (by omega) (by omega) (by omega)) (fun _ _ _ _ _ hs _ _ => hs) hI0
   (fun x => { tmps := #[.pointer (some ⟨b, 0, none⟩), .int .i64 d, .func (.yield l) #[] #[], undef, .pointer (some ⟨W.heap.size, 0, none⟩), .pointer (some ⟨W.heap.size + 1, 0, none⟩), .pointer (some ⟨W.heap.size + 1 + 1, 0, none⟩), .pointer (pa (A x.val)), .func (.yield l) #[] #[], .pointer (some ⟨b, 0, none⟩), .int .i64 d, .bool true, .bool false, .pointer (some ⟨b, 0, none⟩), .func (.func 157) #[] #[.pointer (some ⟨W4.heap.size, 0, none⟩)], .pointer (pa (A x.val)), undef, undef, undef, undef, undef, undef], defers := [] }) ?assign ?body ?done ?stop
  case assign =>
   intro l2 x V K hK
   gi_wp2
   exact hK
  case body =>
   rintro l2 pre' x V hI hlt
   obtain ⟨hJv, ⟨v1, v2, v3⟩, hSv⟩ := hI
   obtain ⟨g1, g2, g3, g4, g5⟩ := kf_spec hR hnd x.ok
   have hfl := flatMap_len ys 36 pre' fun x _ => hyl x
   have IH := Aside0.mk (ih (kf x.val k) (by omega) (8 - 1 - 1 - 1) x.val (d + 1) (ys x) (pre ++ [e0] ++ pre'.flatMap ys) V g1 g5 (fun y hy => hAk y (g3 y hy)) (hAk _ (tops_ids x.ok)) g2 (hys x) hJv (HB5.out.trans hSv.below) (by have := hSv.below.size; omega)
    (by simp only [List.length_append, List.length_cons, List.length_nil]; omega) (by omega) (by omega) (by omega))
   have p1 := v1.cell
   have p2 := v2.cell
   have HV := Aside0.mk (And.intro v1 (And.intro v2 v3))
   have HSv := Aside0.mk hSv
   clear hJv v1 v2 v3 hSv g1 g2 g3 g4 g5 hfl hlt hI0 hL c3 hbox M5 hz4 hz5 hkl hyl hys hks2 hv hdp hN h36
   have hd0' : 0 ≤ d := hd0
   have hd9 : d ≤ 900 := by omega
   gi_wp2_with (gi_at_call 153; refine (CallsIn.inRound l2 IH.out).mono ?_; clear IH; rintro e W6 ⟨rfl, hJ6, hS6⟩; have HJ6 := Aside0.mk hJ6; have HS6 := Aside0.mk hS6; clear hJ6 hS6)
   have h6 := HS6.out
   obtain ⟨v1, v2, v3⟩ := HV.out
   have hJ6 := HJ6.out
   refine ⟨KeepsFrom.mono h6.from_ hB05, h6.below, ⟨?_, ⟨h6.kb _ _ _ (Or.inl rfl) v1, h6.kb _ _ _ (Or.inr (Or.inl rfl)) v2, h6.kb _ _ _ (Or.inr (Or.inr (Or.inl rfl))) v3⟩, HSv.out.trans h6⟩⟩
   rw [List.flatMap_append, List.flatMap_cons, List.flatMap_nil, List.append_nil, ← List.append_assoc]
   exact hJ6
  case done =>
   rintro D zs V hD rfl ⟨hJv, ⟨v1, v2, v3⟩, hSv⟩ hK
   have p3 := v3.cell
   have f3 := v3.frozen
   have HV3 := Aside0.mk v3
   have HSv := Aside0.mk hSv
   have HJv := Aside0.mk hJv
   clear v1 v2 v3 hSv hJv hI0 hL c3 hbox M5
   gi_wp2
   have hK' := (KeepsOthers.setCell V ⟨W.heap.size + 1 + 1, 0, none⟩ (.bool true)).same D _ hK rfl
   refine ⟨by simp, .inl ⟨_, _, rfl, run_takeDeferred hK', ?_⟩⟩
   have hc5 := cell_kept (World.cell?_setCell_same' V ⟨W.heap.size + 1 + 1, 0, none⟩ (.bool true) (by rw [p3]; rfl)) (grownBy_putObj' _ D (.deferred none)) (fun r e => by cases e; exact ⟨_, hK', rfl⟩)
   have hSW : Stp w0 B0 W V := (hS4.trans HS45.out).trans HSv.out
   refine ⟨.bool true, ?_, rfl, ?_, ?_⟩
   ·simp [results, Tryd.f153, go_sem, hc5]
   ·refine hJ.put _ ?_ hK' rfl (by omega)
    have hb := hJ.box (.bool true) HJv.out HV3.out (by omega)
    rw [List.append_assoc] at hb
    exact hb
   ·refine ⟨?_, ?_, ?_⟩
    ·exact (hSW.below.setCell (p := ⟨W.heap.size + 1 + 1, 0, none⟩) (by simp; omega) _).trans (belowK_b (w := W) hsz _ D _ _ (by omega) hK' rfl rfl)
    ·exact KeepsFrom.far (hSW.from_.trans ((KeepsOthers.setCell _ _ _).from _)) (by omega) hK' rfl _
    ·exact (hSW.kb.far (by omega) _).trans (KB.grown (grownBy_putObj' _ D _) (fun r e => by cases e; exact ⟨_, hK', rfl⟩))
  case stop =>
   rintro D c pre' V _ _ hf _
   exact hf.elim
attribute [local go_sem] Oper.semAt_some

theorem roots_kf {h : Nat → Nd} {r : Nat} : ∀ {G : Fo}, RepTop h G → G.ids.Nodup → r ∈ G.tops → Rep h r (kf r G) ∧ (h r).first = (kf r G).hd ∧ (∀ y ∈ (kf r G).ids, y ∈ G.ids) ∧ (kf r G).ids.length < G.ids.length ∧ (kf r G).ids.Nodup
 | .nil, _, _, hx => by cases hx
 | .nd j t k n, ⟨h1, h2, h3, h4⟩, hn, hx => by
  obtain ⟨n1, n2, n3, n4, n5⟩ := nodup_nd hn
  unfold kf
  by_cases e : j = r
  ·subst e
   rw [if_pos rfl]
   exact ⟨h3, by rw [h2], fun y hy => by simp [Fo.ids, hy], by simp [Fo.ids]; omega, n3⟩
  ·rw [if_neg e]
   have hx' : r ∈ n.tops := by
    simp only [Fo.tops, List.mem_cons] at hx
    exact hx.resolve_left fun e' => e e'.symm
   obtain ⟨g1, g2, g3, g4, g5⟩ := roots_kf h4 n4 hx'
   exact ⟨g1, g2, fun y hy => by simp [Fo.ids, g3 y hy], by simp [Fo.ids]; omega, g5⟩
theorem all_in (F : Fence) (n : Nat) (hf : F.fn 134) (hro : F.round = none) (p0 : Option Addr) (w : World) :
  CallsIn F n Tryd.prog 134 #[.pointer p0] w fun e w' => e = .returned (.func (.func 152) #[] #[.pointer (some ⟨w.heap.size, 0, none⟩)]) ∧ w' = w.alloc (.cells #[.pointer p0] 121) := by
 refine callsIn_of_wp Tryd.func134 rfl hf ?_ hro
 simp only [Tryd.ntmps134, List.size_toArray, List.length_cons, List.length_nil, Nat.reduceAdd, Nat.reduceSub, Array.replicate_succ, Array.replicate_zero, List.push_toArray, List.append_toArray, List.nil_append, List.cons_append]
 gi_wp2
 go_ret
 exact ⟨rfl, rfl⟩
def ahead_ {α : Type} (part : Nat → List α) (r : Nat) : List α := (List.range' 1 (r - 1)).flatMap part
theorem ahead_succ {α : Type} (part : Nat → List α) (r : Nat) (hr : 1 ≤ r) : ahead_ part (r + 1) = ahead_ part r ++ part r := by
 unfold ahead_
 rw [show r + 1 - 1 = (r - 1) + 1 by omega, List.range'_concat, List.flatMap_append]
 simp only [List.flatMap_cons, List.flatMap_nil, List.append_nil, Nat.one_mul]
 rw [show 1 + (r - 1) = r by omega]
def AllI {A : Nat → Option Nat} (J : List (YE A) → World → Prop) (part : Nat → List (YE A)) (w0 : World) (B0 : Nat) (W : World) (v : Value) (V : World) : Prop :=
 ∃ r : Nat, 1 ≤ r ∧ r ≤ 4 ∧ v = .int .i64 (r : Int) ∧ J (ahead_ part r) V ∧ Stp w0 B0 W V
def AllPost {A : Nat → Option Nat} (J : List (YE A) → World → Prop) (w0 : World) (B0 : Nat) (l : List (YE A)) (W : World) (e : Ending) (W' : World) : Prop := (∃ v, e = .returned v) ∧ J l W' ∧ Stp w0 B0 W W'
set_option maxRecDepth 100000 in
set_option maxHeartbeats 4000000 in
theorem all1_in (F : Fence) (hd : F.depth = none) (h80 : F.fn 152) (h81 : F.fn 153) (h56 : F.fn 156) (h76 : F.fn 157) (hro : F.round = none) (l N B0 q : Nat) {w0 : World} {n0 Fb : Nat} {A : Nat → Option Nat} {h : Nat → Nd} (m : Mem w0 n0 Fb A h)
  {G : Fo} (hG : RepTop h G) (hnd : G.ids.Nodup) (hroots : G.tops = [1, 2, 3]) (hA : ∀ x ∈ G.ids, A x ≠ none) (h36 : G.ids.length ≤ 36)
  (J : List (YE A) → World → Prop) (hJ : Stb B0 J)
  (hY : ∀ (q : Nat) (pre : List (YE A)) (x : YE A) (W : World), J pre W → Below w0.heap.size w0 W → pre.length < N → YieldAt F q Tryd.prog l #[.pointer (pa (A x.val)), .int .i64 x.dep] W (WalkPost J w0 B0 (pre ++ [x]) W))
  (hN : 60000 ≤ N) (es : List (YE A)) (hes : es.map YE.pr = pre1 0 G) (Bn : Nat) (W : World) (hBn : Boxed W Bn 121 (.pointer (some ⟨Fb, 0, none⟩))) (hB : Below w0.heap.size w0 W) (hB0 : B0 ≤ W.heap.size) (hJ0 : J [] W) :
  CallsIn F q Tryd.prog 152 #[.func (.yield l) #[] #[], .pointer (some ⟨Bn, 0, none⟩)] W (AllPost J w0 B0 es W) := by
 -- the roots' parts
 have hrt : ∀ r : Nat, 1 ≤ r → r ≤ 3 → r ∈ G.tops := fun r h1 h2 => by rw [hroots]; simp; omega
 obtain ⟨part, hpart⟩ : ∃ part : Nat → List (YE A), ∀ r, 1 ≤ r → r ≤ 3 → (part r).map YE.pr = (r, 0) :: pre1 (0 + 1) (kf r G) := by
  have hok : ∀ r : Nat, 1 ≤ r ∧ r ≤ 3 → ∀ p ∈ (r, (0 : Int)) :: pre1 (0 + 1) (kf r G), A p.1 ≠ none ∧ 0 ≤ p.2 ∧ p.2 ≤ 1000 := fun r hr p hp => by
   obtain ⟨g1, g2, g3, g4, g5⟩ := roots_kf hG hnd (hrt r hr.1 hr.2)
   rcases List.mem_cons.1 hp with rfl | hp
   ·exact ⟨hA _ (tops_ids (hrt r hr.1 hr.2)), by simp, by simp⟩
   ·obtain ⟨a1, a2, a3⟩ := pre1_mem hp
    exact ⟨hA _ (g3 _ a1), by omega, by omega⟩
  refine ⟨fun r => if hr : 1 ≤ r ∧ r ≤ 3 then mkYE A _ (hok r hr) else [], fun r h1 h2 => ?_⟩
  have hr : 1 ≤ r ∧ r ≤ 3 := ⟨h1, h2⟩
  simp only [dif_pos hr]
  exact mkYE_pr A _ (hok r hr)
 have hes2 : es = ahead_ part 4 := by
  apply YE.inj_map
  rw [hes, pre1_kids G 0 hnd, hroots]
  show _ = List.map YE.pr ([1, 2, 3].flatMap part)
  rw [map_flatMap']
  refine flatMap_congr' fun x hx => ?_
  have : 1 ≤ x ∧ x ≤ 3 := by simp at hx; omega
  exact (hpart x this.1 this.2).symm
 have hpl : ∀ r, 1 ≤ r → r ≤ 3 → (part r).length ≤ 36 := fun r h1 h2 => by
  have h3 := congrArg List.length (hpart r h1 h2)
  have h4 := (roots_kf hG hnd (hrt r h1 h2)).2.2.2.1
  rw [List.length_map, List.length_cons, pre1_len] at h3
  omega
 have hal : ∀ r, 1 ≤ r → r ≤ 4 → (ahead_ part r).length ≤ 36 * 3 := fun r h1 h2 => by
  unfold ahead_
  refine Nat.le_trans (flatMap_len part 36 _ fun x hx => ?_) (by rw [List.length_range']; omega)
  have := List.mem_range'.1 hx
  obtain ⟨i, hi, rfl⟩ := this
  exact hpl _ (by omega) (by omega)
 subst hes2
 have M := Aside0.mk m
 have HB := Aside0.mk hB
 have HBn := Aside0.mk hBn
 have HJ0 := Aside0.mk hJ0
 have cB := hBn.cell
 clear hes hB hBn hJ0
 refine callsIn_any hd (m := 8) ?_
 refine callsIn_of_wp Tryd.func152 rfl h80 ?_ hro
 simp only [Tryd.ntmps152, List.size_toArray, List.length_cons, List.length_nil, Nat.reduceAdd, Nat.reduceSub, Array.replicate_succ, Array.replicate_zero, List.push_toArray, List.append_toArray, List.nil_append, List.cons_append]
 gi_wp2
 gi_loopw [3] (fun v V => AllI J part w0 B0 W v V) (fun v _ => 4 - (intOf v).toNat)
 case atStart => exact ⟨1, by omega, by omega, rfl, HJ0.out, Stp.refl _ _ _⟩
 case round =>
  obtain ⟨r, hr1, hr4, rfl, hJr, hSr⟩ := hrel
  have cB := (hSr.kb _ _ _ (Or.inr (Or.inr (Or.inr (Or.inr rfl)))) HBn.out).cell
  by_cases hr3 : r ≤ 3
  ·have hd1 : decide (r ≤ 3) = true := decide_eq_true hr3
   have hd2 : decide ((r : Int) ≤ 3) = true := decide_eq_true (by omega)
   have cF := (M.out.below (HB.out.trans hSr.below)).cF r (by omega)
   obtain ⟨g1, g2, g3, g4, g5⟩ := roots_kf hG hnd (hrt r hr1 hr3)
   have IH := Aside0.mk (wlk_in_ F hd h81 h56 h76 hro l N B0 m J hJ hY 40 (kf r G) (by omega) (8 - 1) r 0 (part r) (ahead_ part r) _ g1 g5 (fun y hy => hA y (g3 y hy)) (hA _ (tops_ids (hrt r hr1 hr3))) g2 (hpart r hr1 hr3) hJr (HB.out.trans hSr.below) (by have := hSr.below.size; omega)
    (by have := hal r hr1 hr4; omega) (by omega) (by omega) (by omega))
   have hi0 : 0 ≤ (r : Int) := by omega
   have hi37 : (r : Int) < 37 := by omega
   have HS := Aside0.mk hSr
   have HR := Aside0.mk (And.intro hr1 hr3)
   have HAS := Aside0.mk (ahead_succ part r hr1)
   clear g1 g2 g3 g4 g5 hJr hSr
   gi_wp2_with (gi_at_call 153; refine (IH.out).mono ?_; clear IH; rintro e W6 ⟨rfl, hJ6, hS6⟩; have HJ6 := Aside0.mk hJ6; have HS6 := Aside0.mk hS6; clear hJ6 hS6)
   refine ⟨⟨r + 1, by have := HR.out; omega, by have := HR.out; omega, by simp, by rw [HAS.out]; exact HJ6.out, HS.out.trans HS6.out⟩, ?_⟩
   have := HR.out
   simp [intOf]
   omega
  ·have hd1 : decide (r ≤ 3) = false := decide_eq_false hr3
   have hd2 : decide ((r : Int) ≤ 3) = false := decide_eq_false (by omega)
   obtain rfl : r = 4 := by omega
   gi_wp2
   go_end0
   exact ⟨⟨_, rfl⟩, hJr, hSr⟩
#print axioms all1_in
def goesOn {α : Type} (w0 : World) (B : Nat) (I : List α → World → Prop) (xs : List α) (W : World) : Exit → Act → World → Prop
 | .normal, _, W' => I xs W' ∧ Stp w0 B W W'
 | _, _, _ => False
theorem stp_put {w0 U : World} {B : Nat} {l : Nat} {o : Obj} (o' : Obj) (hl : U.heap[l]? = some o) (ho : o.isCells = false) (h0 : w0.heap.size ≤ l) (hB : l < B) : Stp w0 B U (U.putObj l o') :=
 ⟨(Below.refl _ _).grown (grownBy_putObj' U l o') (by have := (Array.getElem?_eq_some_iff.1 hl).1; omega) (fun k e => by cases e; exact h0), KeepsFrom.of_grownBy (grownBy_putObj' U l o') (fun j e => by cases e; exact hB), KB.grown (grownBy_putObj' U l o') (fun r e => by cases e; exact ⟨o, hl, ho⟩)⟩
theorem Stp.mono {w0 V W : World} {B B' : Nat} (h : Stp w0 B V W) (hB : B ≤ B') : Stp w0 B' V W := ⟨h.below, KeepsFrom.mono h.from_ hB, h.kb⟩
theorem Stb.mono {β : Type} {B B' : Nat} {J : β → World → Prop} (h : Stb B J) (hB : B ≤ B') : Stb B' J := fun s V W row hs hg hr => h s V W row hs hg fun r e => ⟨Nat.le_trans hB (hr r e).1, (hr r e).2⟩
theorem stb_obj {β : Type} {B g : Nat} {o : Obj} (hg : g < B) : Stb B (fun (_ : β) W => W.heap[g]? = some o) := fun s V W row hs hgr hr =>
 (hgr.block g (Array.getElem?_eq_some_iff.1 hs).1 (fun e => by have := (hr g e.symm).1; omega)).trans hs
theorem Stb.and {β : Type} {B : Nat} {J J' : β → World → Prop} (h : Stb B J) (h' : Stb B J') : Stb B (fun s W => J s W ∧ J' s W) := fun s V W row hs hg hr => ⟨h s V W row hs.1 hg hr, h' s V W row hs.2 hg hr⟩
theorem range_all {α : Type} {F : Fence} {n : Nat} {P : Program} {g : Operand} {ps : Array Tmp} {assign body : Code} {Q : Exit → Act → World → Prop} {a : Act} {w w0 : World}
  (hd : F.depth = none) (hro : F.round = none) {gf : Nat} {lb : Array Value} (hg : a.eval g = .func (.func gf) #[] lb) (hFg : F.fn gf) (eg : ∀ args w, (callFunc gf args).run P w = .ok (.enter gf args) w)
  {encs : α → Array Value} (hps : ∀ x, (encs x).size = ps.size) (N : Nat) (xs : List α) (hw0 : w0.heap.size ≤ w.heap.size)
  (hseq : ∀ (l : Nat) (J : List α → World → Prop) (W : World), Stp w0 W.heap.size w W → Stb W.heap.size J →
   (∀ (q : Nat) (pre : List α) (x : α) (W1 : World), J pre W1 → Below w0.heap.size w0 W1 → pre.length < N → YieldAt F q P l (encs x) W1 fun e W' => e = .returned (.bool true) ∧ J (pre ++ [x]) W' ∧ Stp w0 W.heap.size W1 W') → J [] W →
   CallsIn F (n - 1) P gf (#[.func (.yield l) #[] #[]] ++ lb) W fun e W' => (∃ v, e = .returned v) ∧ J xs W')
  (I : List α → World → Prop) (hI : Stb w.heap.size I) (h0 : I [] w) (a₁ : α → Act)
  (hassign : ∀ (l : Nat) (x : α) (W : World) (K : Act → World → Prop), K (a₁ x) W →
   assign.wpIn (F.inRound l) (n - 1 - 1) P (Exit.then K (fun _ _ _ => False)) { tmps := (ps.zip (encs x)).foldl (fun t (p, v) => t.setIfInBounds p v) a.tmps, defers := [] } W)
  (hbody : ∀ (l : Nat) (pre : List α) (x : α) (W : World), I pre W → Below w0.heap.size w0 W → pre.length < N → body.wpIn (F.inRound l) (n - 1 - 1) P (goesOn w0 w.heap.size I (pre ++ [x]) W) (a₁ x) W)
  (hdone : ∀ (D : Nat) (W : World), w.heap.size ≤ D → I xs W → W.heap[D]? = some (.deferred (some [])) → Q .normal { a with defers := { target := .collected D, args := #[] } :: a.defers } W) :
  (Code.rangeFunc g ps assign body).wpIn F n P Q a w := by
 refine wpIn_rangeFunc fun fn hfn => ?_
 rw [hro]
 have hdd : ∀ k : Nat, (F.depth.isSome = true → 1 ≤ k) := fun k h => by rw [hd] at h; cases h
 let rec_ : LoopState → Option Code → Loop := fun st pe => { state := st, pending := pe, fn := fn, tmps := a.tmps, params := ps, assign := assign, body := body, defers := w.heap.size }
 obtain ⟨rc, hrc⟩ : ∃ rc : LoopState → Option Code → Loop, rc = rec_ := ⟨_, rfl⟩
 obtain ⟨W1, hW1⟩ : ∃ W1, W1 = (w.alloc (.deferred (some []))).alloc (.loop (rc .ready none)) := ⟨_, rfl⟩
 have hz1 : W1.heap.size = w.heap.size + 2 := by rw [hW1]; simp
 have hL1 : W1.heap[w.heap.size + 1]? = some (.loop (rc .ready none)) := by
  have := World.alloc_heap_new (w.alloc (.deferred (some []))) (.loop (rc .ready none))
  rw [World.size_alloc] at this
  rw [hW1]; exact this
 have hK1 : W1.heap[w.heap.size]? = some (.deferred (some [])) := by
  rw [hW1]; exact (Below.heap_alloc _ _ _ (by simp)).trans (World.alloc_heap_new w _)
 have hS1 : Stp w0 W1.heap.size w W1 := by rw [hW1]; exact ((Stp.refl w0 _ w).alloc hw0 _).alloc (by simp; omega) _
 have hI1 : I [] W1 := by rw [hW1]; exact hI.alloc _ (hI.alloc _ h0)
 refine ⟨w.heap.size + 1, [{ target := .collected w.heap.size, args := #[] }], W1, { target := .fn (.func gf) lb, args := #[.func (.yield (w.heap.size + 1)) #[] #[]] }, W1, gf,
  #[.func (.yield (w.heap.size + 1)) #[] #[]] ++ lb, W1, ?_, ?_, ?_, ?_, hdd n, ?_⟩
 ·rw [hW1, hrc]; exact run_enterLoop_outer _ _ _ _ _
 ·simp only [resolve, hg]
  simp [go_sem]
 ·intro f' hf'; simp [Target.leads] at hf'; subst hf'; exact hFg
 ·simp [invoke, go_sem, eg]
 ·refine (hseq (w.heap.size + 1) (fun pre W => I pre W ∧ (W.heap[w.heap.size + 1]? = some (.loop (rc .ready none)) ∧ W.heap[w.heap.size]? = some (.deferred (some [])))) W1 hS1
   ((hI.mono (by omega)).and ((stb_obj (by omega)).and (stb_obj (by omega)))) ?_ ⟨hI1, hL1, hK1⟩).mono ?_
  ·rintro q pre x W ⟨hi, hl, hk⟩ hBW hlen
   have hlt : w.heap.size + 1 < W.heap.size := (Array.getElem?_eq_some_iff.1 hl).1
   have hy := run_yield (P := P) (args := encs x) hl (by rw [hrc]; exact hps x)
   rw [hrc] at hy
   refine ⟨fn, _, assign, body, hy, roundIn_any hd (m := n - 1 - 1) (roundIn_of_wpIn hfn (hassign _ x W _ ⟨_, run_beginRound hl (by rw [hrc]), ?_⟩))⟩
   obtain ⟨W2, hW2⟩ : ∃ W2, W2 = W.putObj (w.heap.size + 1) (.loop { rc .ready none with state := .busy }) := ⟨_, rfl⟩
   have hl2 : W2.heap[w.heap.size + 1]? = some (.loop { rc .ready none with state := .busy }) := by rw [hW2]; exact World.putObj_heap_same hlt
   have hk2 : W2.heap[w.heap.size]? = some (.deferred (some [])) := by rw [hW2]; exact (World.putObj_heap_other (by omega)).trans hk
   have hs2 : Stp w0 W1.heap.size W W2 := by rw [hW2]; exact stp_put _ hl rfl (by omega) (by omega)
   have hi2 : I pre W2 := by rw [hW2]; exact hI.put _ hi hl rfl (by omega)
   suffices key : body.wpIn (F.inRound (w.heap.size + 1)) (n - 1 - 1) P (roundPost P (w.heap.size + 1) fun e W' => e = .returned (.bool true) ∧ (I (pre ++ [x]) W' ∧ (W'.heap[w.heap.size + 1]? = some (.loop (rc .ready none)) ∧ W'.heap[w.heap.size]? = some (.deferred (some [])))) ∧ Stp w0 W1.heap.size W W') (a₁ x) W2 by
    rw [hW2, hrc] at key
    rw [hrc]
    exact key
   refine wpIn_mono (hbody _ pre x W2 hi2 (hBW.trans hs2.below) hlen) ?_
   rintro e a3 W3 hp
   cases e with
   | normal =>
    obtain ⟨hi3, hs3⟩ := hp
    have hl3 := hs3.from_.same _ _ (by omega) hl2 rfl
    have hk3 := hs3.from_.same _ _ (by omega) hk2 rfl
    have hr := run_endRound (P := P) (jump := none) hl3
    have hlt3 := (Array.getElem?_eq_some_iff.1 hl3).1
    refine ⟨_, _, (by rw [hrc] at hr; exact hr), rfl, ⟨hI.put _ hi3 hl3 rfl (by omega), ?_, (World.putObj_heap_other (by omega)).trans hk3⟩, (hs2.trans (hs3.mono (by omega))).trans (stp_put _ hl3 rfl (by omega) (by omega))⟩
    rw [hrc]
    exact World.putObj_heap_same hlt3
   | ret => exact hp.elim
   | exit id => exact hp.elim
   | goto t => exact hp.elim
   | panic ch => exact hp.elim
   | outgrown => exact hp.elim
  ·rintro e W2 ⟨⟨v, rfl⟩, hi, hl, hk⟩
   refine ⟨none, _, by have := run_endLoop (P := P) hl (by rw [hrc]; simp [rec_]); rw [hrc] at this; exact this, hdone _ _ (Nat.le_refl _) (hI.put _ hi hl rfl (by omega)) ((World.putObj_heap_other (by omega)).trans hk)⟩
theorem rows_wide {n : Nat} {P : Program} {row : String} {args : Array Value} {w : World} {R : Value → World → Prop} (h : Rows P row args w R) : RowsIn Fence.wide n P row args w R := fun c cs _ => by
 obtain ⟨v, w', r, s⟩ := h c cs
 exact ⟨v, w', r, stepsIn_wide.2 s⟩
theorem ops_round {P : Program} {ops : Array Oper} {Q : Exit → Act → World → Prop} (l n : Nat) (hQ : ¬ LetsOut Q) (hd : ∀ (i : Nat) (o : Oper), ops[i]? = some o → ∀ c, o.op ≠ .defer c) :
  ∀ (is : List Nat) (a : Act) (w : World), wpOps P ops Q is a w → wpOpsIn (Fence.wide.inRound l) n P ops Q is a w
 | [], a, w, h => h
 | i :: rest, a, w, h => by
  unfold wpOps at h
  unfold wpOpsIn
  cases ho : ops[i]? with
  | none =>
   rw [ho] at h
   exact ops_round l n hQ hd rest a w h
  | some o =>
   rw [ho] at h
   simp only at h ⊢
   by_cases hw : Region.wanted o (yielded ops a.tmps) = true
   ·rw [if_pos hw] at h ⊢
    have h := h.resolve_right fun e => hQ e.2
    unfold Oper.wp at h
    refine ⟨fun _ _ => trivial, ?_⟩
    rw [show (Fence.wide.inRound l).round = some l from rfl, Oper.semAt_eq (some l) _ _ (hd i o ho)]
    generalize (execOp a.eval o).run P w = r at h
    cases r with
    | ok x w' =>
     cases x with
     | value v => exact ops_round l n hQ hd rest _ _ h
     | skip => exact ops_round l n hQ hd rest _ _ h
     | defer d => exact ops_round l n hQ hd rest _ _ h
     | enter f args =>
      refine ⟨fun e => by simp [Fence.wide] at e, CallsIn.inRound l (callsIn_wide.2 (Calls.mono h fun e w'' he => ?_))⟩
      cases e with
      | returned v => exact ops_round l n hQ hd rest _ _ he
      | panicked c => exact he
      | outgrown => exact he
     | row r args => exact ⟨fun e => by simp [Fence.wide] at e, rows_wide (n := n - 1) (Rows.mono h fun v w'' he => ops_round l n hQ hd rest _ _ he)⟩
     | round => exact h.elim
     | _ => first | exact h.elim | exact h
    | halt x w' => cases x <;> first | exact h.elim | exact h
   ·rw [if_neg hw] at h ⊢
    exact ⟨fun _ _ => trivial, ops_round l n hQ hd rest _ _ h⟩
theorem startR_ {P : Program} {ops : Array Oper} {Q : Exit → Act → World → Prop} {S : World → Prop} {ds : List Nat} {id n k lp : Nat} {a : Act} {w : World} (l : Array Bool) (hQ : ¬ LetsOut Q) (hd : ∀ (i : Nat) (o : Oper), ops[i]? = some o → ∀ c, o.op ≠ .defer c)
  (hm : P.follows .mixedOrders = true) (hn : ops.size = n) (hl : Array.replicate n false = l) (hS : S w.drew) (h : S w.drew → wpAnyLast P .any ops Q S ds n l a w.drew) : (Code.region id ops true).wpIn (Fence.wide.inRound lp) k P Q a w :=
 wpIn_region_draw fun t => by
  subst hn
  subst hl
  have := wpAny_sound ops.size t (Array.replicate ops.size false) a w.drew (wpAny_of_last _ _ _ _ (h hS))
  simp only [Region.schedule, hm, Bool.true_or, if_true]
  exact ops_round lp k hQ hd _ _ _ this
attribute [local go_sem] Oper.semAt_some

def onN (K : Act → World → Prop) (Q : Exit → Act → World → Prop) : Exit → Act → World → Prop
 | .normal, a, w => K a w
 | .panic c, a, w => Q (.panic c) a w
 | .outgrown, a, w => Q .outgrown a w
 | .ret, a, w => Q .ret a w
 | .exit i, a, w => Q (.exit i) a w
 | .goto t, a, w => Q (.goto t) a w
theorem upon_on {P : Program} {o : Oper} {a : Act} {K : Act → World → Prop} {Q : Exit → Act → World → Prop} {r : Result Next} (h : o.upon P a (onN K Q .normal) (onN K Q) r) : o.upon P a K Q r := by
 cases r with
 | ok x w' => cases x <;> exact h
 | halt x w' => cases x <;> exact h
theorem step_of_list {P : Program} {ops : Array Oper} {Q : Exit → Act → World → Prop} {K : Act → World → Prop} {o : Oper} {a : Act} {w : World} (hQ : ¬ LetsOut Q) (h : wpList P ops (onN K Q) [o] a w) :
  if Region.wanted o (yielded ops a.tmps) = true then Oper.wp P o a w K Q else K (a.put o.dst undef) w := by
 unfold wpList at h
 by_cases hw : Region.wanted o (yielded ops a.tmps) = true
 ·rw [if_pos hw] at h ⊢
  exact upon_on (h.resolve_right fun e => hQ e.2)
 ·rw [if_neg hw] at h ⊢
  exact h
theorem step_skip {P : Program} {ops : Array Oper} {Q : Exit → Act → World → Prop} {K : Act → World → Prop} {o : Oper} {a : Act} {w w1 : World} (hw : Region.wanted o (yielded ops a.tmps) = true) (hrun : (execOp a.eval o).run P w = .ok .skip w1) (h : K (a.put o.dst undef) w1) :
  if Region.wanted o (yielded ops a.tmps) = true then Oper.wp P o a w K Q else K (a.put o.dst undef) w := by
 rw [if_pos hw]
 unfold Oper.wp
 rw [hrun]
 exact h
def noDefer (o : Oper) : Bool := match o.op with | .defer _ => false | _ => true
theorem noDefer_of {ops : Array Oper} (h : ops.toList.all noDefer = true) : ∀ (i : Nat) (o : Oper), ops[i]? = some o → ∀ c, o.op ≠ .defer c := fun i o ho c e => by
 have h1 : o ∈ ops.toList := Array.mem_toList_iff.2 (Array.mem_of_getElem? ho)
 have h2 := List.all_eq_true.1 h o h1
 unfold noDefer at h2
 rw [e] at h2
 cases h2
def rowsOf {A : Nat → Option Nat} (h : Nat → Nd) (l : List (YE A)) : List S69 := l.map fun e => ⟨(e.val : Int), e.dep, (h e.val).t⟩
def RowsI {A : Nat → Option Nat} (h : Nat → Nd) (w : World) (g : Nat) (pre : List (YE A)) (V : World) : Prop :=
 (∃ v, Boxed V g 62 v ∧ Kd.R k69 69 V w.heap.size (fun _ => True) v (rowsOf h pre)) ∧ Below w.heap.size w V
theorem stb_below {β : Type} {B : Nat} {w : World} (h : w.heap.size ≤ B) : Stb B (fun (_ : β) V => Below w.heap.size w V) := fun s V W row hs hg hr =>
 hs.grown hg hs.size (fun k e => Nat.le_trans h (hr k e).1)
theorem rowsI_stb {A : Nat → Option Nat} {h : Nat → Nd} {w : World} {g B : Nat} (hB : w.heap.size ≤ B) : Stb B (RowsI (A := A) h w g) := fun s V W row hs hg hr => by
 obtain ⟨⟨v, hv, hR⟩, hb⟩ := hs
 refine ⟨⟨v, hv.kept hg fun e => ?_, Kd.R_mono (Kd.R_step (Kd.R_bound hR) fun k hk hlt => hg.block k hlt fun e => ?_) (fun _ _ => trivial)⟩, stb_below (β := Unit) hB () V W row hb hg hr⟩
 ·obtain ⟨_, o, h1, h2⟩ := hr g e.symm
  have h3 : V.heap[g]? = some (.cells #[v] 62 (0, 0)) := hv
  rw [h3] at h1
  rcases h2 with h2 | ⟨u, h2⟩
  ·rw [← Option.some.inj h1] at h2; cases h2
  ·rw [← Option.some.inj h1] at h2; simp at h2
 ·obtain ⟨_, o, h1, h2⟩ := hr k e.symm
  obtain ⟨_, _, _, q, hq, cells, h3⟩ := hk
  rw [h3] at h1
  have hq : q = 69 := by
   rcases List.mem_cons.1 hq with e | e
   ·exact e
   ·exact absurd e (by simp [k69, Kd.iso, Kd.pair, Kd.int, Kd.string, Kd.scalar])
  subst hq
  rcases h2 with h2 | ⟨u, h2⟩
  ·rw [← Option.some.inj h1] at h2; cases h2
  ·rw [← Option.some.inj h1] at h2; simp at h2
theorem letsOut_goes {α : Type} {w0 : World} {B id : Nat} {I : List α → World → Prop} {xs : List α} {W : World} : ¬ LetsOut (Exit.inBlock id (goesOn w0 B I xs W)) := fun ⟨_, _, h⟩ => h
theorem fl_pre {h : Nat → Nd} : ∀ {F : Fo} {up d : Nat}, Rep h up F → F.fl d = (pre1 d F).map fun p => ⟨(p.1 : Int), p.2, (h p.1).t⟩
 | .nil, _, _, _ => rfl
 | .nd i t k n, up, d, ⟨h1, h2, h3, h4⟩ => by
  have e := fl_pre (d := d + 1) h3
  rw [show ((d + 1 : Nat) : Int) = (d : Int) + 1 from rfl] at e
  simp only [Fo.fl, pre1, List.map_cons, List.map_append]
  rw [e, fl_pre h4, h2]
theorem fl_top {h : Nat → Nd} : ∀ {F : Fo} {d : Nat}, RepTop h F → F.fl d = (pre1 d F).map fun p => ⟨(p.1 : Int), p.2, (h p.1).t⟩
 | .nil, _, _ => rfl
 | .nd i t k n, d, ⟨h1, h2, h3, h4⟩ => by
  have e := fl_pre (d := d + 1) h3
  rw [show ((d + 1 : Nat) : Int) = (d : Int) + 1 from rfl] at e
  simp only [Fo.fl, pre1, List.map_cons, List.map_append]
  rw [e, fl_top h4, h2]
theorem stp_app {w V w3 : World} {B g : Nat} {v : Value} {ok : Nat → Prop} {l : List S69} (hR : Kd.R k69 69 V w.heap.size ok v l) (hbox : Boxed V g 62 v) (hg : V.drew.grownBy w3 v.ownBlock) (hV : w.heap.size ≤ V.heap.size) (hgb : w.heap.size ≤ g) (u : Value) : Stp w B V (w3.setCell ⟨g, 0, none⟩ u) := by
 have hcells : ∀ k, some k = v.ownBlock → ∃ cells, V.heap[k]? = some (.cells cells 69 (0, 0)) := fun k e => by
  obtain ⟨_, hlt, q, hq, cells, hc⟩ := ((Kd.R_bound hR).1 k e.symm).2
  have hq : q = 69 := by
   rcases List.mem_cons.1 hq with e | e
   ·exact e
   ·exact absurd e (by simp [k69, Kd.iso, Kd.pair, Kd.int, Kd.string, Kd.scalar])
  subst hq
  exact ⟨cells, hc⟩
 have h1 : Below w.heap.size V w3 := ((Below.refl w.heap.size V).drew).grown hg hV (fun k e => Kd.R_base hR k e)
 refine ⟨h1.setCell (p := ⟨g, 0, none⟩) hgb _, ?_, ?_⟩
 ·refine KeepsFrom.trans ⟨hg.size, fun k o _ hk ho => (hg.block k (Array.getElem?_eq_some_iff.1 hk).1 fun e => ?_).trans hk⟩ ((KeepsOthers.setCell w3 ⟨g, 0, none⟩ u).from B)
  obtain ⟨cells, hc⟩ := hcells k e
  rw [show V.heap[k]? = some o from hk] at hc
  rw [Option.some.inj hc] at ho
  cases ho
 ·intro b t x ht hb
  have hb2 : V.heap[b]? = some (.cells #[x] t (0, 0)) := hb
  have hne : t ≠ 69 ∧ t ≠ 62 := by rcases ht with rfl | rfl | rfl | rfl | rfl <;> decide
  have hb3 : Boxed w3 b t x := Boxed.kept (W := V.drew) hb hg fun e => by
   obtain ⟨cells, hc⟩ := hcells b e
   rw [hb2] at hc
   simp at hc
   exact hne.1 hc.2
  refine hb3.other (fun e => ?_) u
  subst e
  rw [show V.heap[b]? = some (.cells #[v] 62 (0, 0)) from hbox] at hb2
  simp at hb2
  exact hne.2 hb2.2.symm
set_option maxRecDepth 100000 in
set_option maxHeartbeats 4000000 in
theorem rows_any {w : World} {n0 Fb : Nat} {A : Nat → Option Nat} {h : Nat → Nd} (m : Mem w n0 Fb A h) {G : Fo} (hG : RepTop h G) (hnd : G.ids.Nodup) (hroots : G.tops = [1, 2, 3]) (hA : ∀ x ∈ G.ids, A x ≠ none) (h36 : G.ids.length ≤ 36) :
  Calls Tryd.prog 95 #[.pointer (some ⟨Fb, 0, none⟩)] w fun e w' => ∃ v : Value, e = .returned v ∧ Kd.R k69 69 w' w.heap.size (fun _ => True) v (G.fl 0) ∧ Below w.heap.size w w' := by
 obtain ⟨es, hes⟩ : ∃ es : List (YE A), es.map YE.pr = pre1 0 G := by
  have hok : ∀ p ∈ pre1 0 G, A p.1 ≠ none ∧ 0 ≤ p.2 ∧ p.2 ≤ 1000 := fun p hp => by
   obtain ⟨a1, a2, a3⟩ := pre1_mem hp
   exact ⟨hA _ a1, by omega, by omega⟩
  exact ⟨mkYE A _ hok, mkYE_pr A _ hok⟩
 have hfl : rowsOf h es = G.fl 0 := by
  rw [fl_top hG]
  show _ = (pre1 ((0 : Nat) : Int) G).map _
  rw [show ((0 : Nat) : Int) = 0 from rfl, ← hes, List.map_map]
  rfl
 refine (callsIn_wide (n := 8)).1 ?_
 refine callsIn_of_wp_marks Tryd.func95 rfl trivial ?_ rfl
 simp only [Tryd.ntmps95, List.size_toArray, List.length_cons, List.length_nil, Nat.reduceAdd, Nat.reduceSub, Array.replicate_succ, Array.replicate_zero, List.push_toArray, List.append_toArray, List.nil_append, List.cons_append]
 gi_wp2_with (refine ⟨trivial, ?_⟩; gi_at_call 134; refine (all_in Fence.wide _ trivial rfl _ _).mono ?_; rintro e w' ⟨rfl, rfl⟩)
 obtain ⟨w2, hw2⟩ : ∃ w2, w2 = ((w.alloc (.cells #[] 69)).alloc (.cells #[.slice (some ⟨w.heap.size, 0, none⟩) 0 0] 62)).alloc (.cells #[.pointer (some ⟨Fb, 0, none⟩)] 121) := ⟨_, rfl⟩
 have bT := (Boxed.new (w.alloc (.cells #[] 69)) 62 (.slice (some ⟨w.heap.size, 0, none⟩) 0 0)).alloc (.cells #[.pointer (some ⟨Fb, 0, none⟩)] 121)
 have bF := Boxed.new ((w.alloc (.cells #[] 69)).alloc (.cells #[.slice (some ⟨w.heap.size, 0, none⟩) 0 0] 62)) 121 (.pointer (some ⟨Fb, 0, none⟩))
 simp only [World.size_alloc] at bT bF
 have hz2 : w2.heap.size = w.heap.size + 3 := by rw [hw2]; simp
 have hB2 : Below w.heap.size w w2 := by rw [hw2]; exact ((((Below.refl _ w).alloc (Nat.le_refl _) _).alloc (by simp) _).alloc (by simp; omega) _)
 have hR2 : Kd.R k69 69 w2 w.heap.size (fun _ => True) (.slice (some ⟨w.heap.size, 0, none⟩) 0 0) (rowsOf h ([] : List (YE A))) := by
  rw [hw2]
  refine Kd.R_alloc (Kd.R_alloc ⟨fun _ _ => trivial, [], ?_, Reps.none _ _⟩ _) _
  have h0 : (w.alloc (.cells #[] 69)).ownsRow w.heap.size 69 3 (.slice (some ⟨w.heap.size, 0, none⟩) 0 0) 0 [] := by
   simpa using World.ownsRow_lit (base := w.heap.size) (e := 69) (size := 3) w #[] 0 (Nat.le_refl _) (by simp [maxLen]) (by simp)
  exact h0
 rw [← hw2] at bT bF ⊢
 clear hw2
 refine range_all (w0 := w) rfl rfl (gf := 152) (lb := #[.pointer (some ⟨w.heap.size + 1 + 1, 0, none⟩)]) rfl trivial (enters_of Tryd.func152 (by kernel_rfl) rfl)
  (encs := fun x : YE A => #[.pointer (pa (A x.val)), .int .i64 x.dep]) (fun _ => by rfl) 60000 es (by omega)
  (fun l J W hSW hJ hY hJ0 => (all1_in Fence.wide rfl trivial trivial trivial trivial rfl l 60000 W.heap.size _ m hG hnd hroots hA h36 J hJ hY (Nat.le_refl _) es hes (w.heap.size + 1 + 1) W (hSW.kb _ _ _ (Or.inr (Or.inr (Or.inr (Or.inr rfl)))) bF) (hB2.trans hSW.below) (Nat.le_refl _) hJ0).mono fun e W' hp => ⟨hp.1, hp.2.1⟩)
  (RowsI h w (w.heap.size + 1)) (rowsI_stb (by omega)) ⟨⟨_, bT, hR2⟩, hB2⟩
  (fun x => { tmps := #[.pointer (some ⟨Fb, 0, none⟩), undef, .slice none 0 0, .pointer (some ⟨w.heap.size + 1, 0, none⟩), .pointer (pa (A x.val)), .int .i64 x.dep, .slice (some ⟨w.heap.size, 0, none⟩) 0 0, .pointer (some ⟨Fb, 0, none⟩), .func (.func 152) #[] #[.pointer (some ⟨w.heap.size + 1 + 1, 0, none⟩)], .pointer (pa (A x.val)), .int .i64 x.dep, undef, undef, undef, undef, undef, undef, undef, undef, undef, undef, undef, undef, undef, undef], defers := [] }) ?assign ?body ?done
 case assign =>
  intro l x W K hK
  gi_wp2
  exact hK
 case body =>
  rintro l pre x V ⟨⟨v, hbox, hR⟩, hBw⟩ hBV hlt
  obtain ⟨c, hc⟩ := Option.ne_none_iff_exists'.1 x.ok
  have MV := m.below hBV
  have q0 := MV.c0 hc
  have q1 := MV.c1 hc
  have qb := hbox.cell
  have qf := hbox.frozen
  have hlen : (rowsOf h pre).length < 60000 := by unfold rowsOf; rw [List.length_map]; exact hlt
  rw [hc, pa_some]
  refine wpIn_block ?_
  refine startR_ (n := 14) (S := fun w' => w'.cell? ⟨w.heap.size + 1, 0, none⟩ = some v ∧ w'.cell? ⟨c, 0, none⟩ = some (.int .i64 (x.val : Int)) ∧ w'.cell? ⟨c, 1, none⟩ = some (.string (h x.val).t)) (ds := [12, 13]) #[false, false, false, false, false, false, false, false, false, false, false, false, false, false] letsOut_goes (noDefer_of (by kernel_rfl)) (by kernel_rfl) rfl rfl ⟨qb, q0, q1⟩ (fun hHeld => ?_)
  clear q0 q1
  refine take_ (i := 0) (N := some 11) (v := ?_) (a' := ?_) #[true, false, false, false, false, false, false, false, false, false, false, false, false, false] rfl rfl (by kernel_rfl) (fun _ _ _ h => h) (Or.inl ⟨by rfl, ?_⟩) hHeld ?_ ?_
  rotate_left
  ·rintro w' ⟨s0, s1, s2⟩
   go_simp
   with_reducible rfl
  rotate_left
  ·simp only [Act.put, List.setIfInBounds_toArray, List.set_cons_zero, List.set_cons_succ, i64_w, i32_w]
   rfl
  refine pure_ (i := 1) (N := some 12) (v := ?_) (a' := ?_) #[true, true, false, false, false, false, false, false, false, false, false, false, false, false] rfl rfl (by kernel_rfl) (fun _ _ _ h => h) (Or.inl ⟨by rfl, ?_⟩) ?_ ?_
  rotate_left
  ·intro w'
   go_simp
   with_reducible rfl
  rotate_left
  ·simp only [Act.put, List.setIfInBounds_toArray, List.set_cons_zero, List.set_cons_succ, i64_w, i32_w]
   rfl
  refine pure_ (i := 2) (N := some 13) (v := ?_) (a' := ?_) #[true, true, true, false, false, false, false, false, false, false, false, false, false, false] rfl rfl (by kernel_rfl) (fun _ _ _ h => h) (Or.inl ⟨by rfl, ?_⟩) ?_ ?_
  rotate_left
  ·intro w'
   go_simp
   with_reducible rfl
  rotate_left
  ·simp only [Act.put, List.setIfInBounds_toArray, List.set_cons_zero, List.set_cons_succ, i64_w, i32_w]
   rfl
  refine pure_ (i := 3) (N := some 14) (v := ?_) (a' := ?_) #[true, true, true, true, false, false, false, false, false, false, false, false, false, false] rfl rfl (by kernel_rfl) (fun _ _ _ h => h) (Or.inl ⟨by rfl, ?_⟩) ?_ ?_
  rotate_left
  ·intro w'
   go_simp
   with_reducible rfl
  rotate_left
  ·simp only [Act.put, List.setIfInBounds_toArray, List.set_cons_zero, List.set_cons_succ, i64_w, i32_w]
   rfl
  refine take_ (i := 4) (N := some 15) (v := ?_) (a' := ?_) #[true, true, true, true, true, false, false, false, false, false, false, false, false, false] rfl rfl (by kernel_rfl) (fun _ _ _ h => h) (Or.inl ⟨by rfl, ?_⟩) hHeld ?_ ?_
  rotate_left
  ·rintro w' ⟨s0, s1, s2⟩
   go_simp
   with_reducible rfl
  rotate_left
  ·simp only [Act.put, List.setIfInBounds_toArray, List.set_cons_zero, List.set_cons_succ, i64_w, i32_w]
   rfl
  refine pure_ (i := 5) (N := some 16) (v := ?_) (a' := ?_) #[true, true, true, true, true, true, false, false, false, false, false, false, false, false] rfl rfl (by kernel_rfl) (fun _ _ _ h => h) (Or.inl ⟨by rfl, ?_⟩) ?_ ?_
  rotate_left
  ·intro w'
   go_simp
   with_reducible rfl
  rotate_left
  ·simp only [Act.put, List.setIfInBounds_toArray, List.set_cons_zero, List.set_cons_succ, i64_w, i32_w]
   rfl
  refine pure_ (i := 6) (N := some 17) (v := ?_) (a' := ?_) #[true, true, true, true, true, true, true, false, false, false, false, false, false, false] rfl rfl (by kernel_rfl) (fun _ _ _ h => h) (Or.inl ⟨by rfl, ?_⟩) ?_ ?_
  rotate_left
  ·intro w'
   go_simp
   with_reducible rfl
  rotate_left
  ·simp only [Act.put, List.setIfInBounds_toArray, List.set_cons_zero, List.set_cons_succ, i64_w, i32_w]
   rfl
  refine pure_ (i := 7) (N := some 18) (v := ?_) (a' := ?_) #[true, true, true, true, true, true, true, true, false, false, false, false, false, false] rfl rfl (by kernel_rfl) (fun _ _ _ h => h) (Or.inl ⟨by rfl, ?_⟩) ?_ ?_
  rotate_left
  ·intro w'
   go_simp
   with_reducible rfl
  rotate_left
  ·simp only [Act.put, List.setIfInBounds_toArray, List.set_cons_zero, List.set_cons_succ, i64_w, i32_w]
   rfl
  refine pure_ (i := 8) (N := some 19) (v := ?_) (a' := ?_) #[true, true, true, true, true, true, true, true, true, false, false, false, false, false] rfl rfl (by kernel_rfl) (fun _ _ _ h => h) (Or.inl ⟨by rfl, ?_⟩) ?_ ?_
  rotate_left
  ·intro w'
   go_simp
   with_reducible rfl
  rotate_left
  ·simp only [Act.put, List.setIfInBounds_toArray, List.set_cons_zero, List.set_cons_succ, i64_w, i32_w]
   rfl
  refine take_ (i := 9) (N := some 20) (v := ?_) (a' := ?_) #[true, true, true, true, true, true, true, true, true, true, false, false, false, false] rfl rfl (by kernel_rfl) (fun _ _ _ h => h) (Or.inl ⟨by rfl, ?_⟩) hHeld ?_ ?_
  rotate_left
  ·rintro w' ⟨s0, s1, s2⟩
   go_simp
   with_reducible rfl
  rotate_left
  ·simp only [Act.put, List.setIfInBounds_toArray, List.set_cons_zero, List.set_cons_succ, i64_w, i32_w]
   rfl
  refine pure_ (i := 10) (N := some 21) (v := ?_) (a' := ?_) #[true, true, true, true, true, true, true, true, true, true, true, false, false, false] rfl rfl (by kernel_rfl) (fun _ _ _ h => h) (Or.inl ⟨by rfl, ?_⟩) ?_ ?_
  rotate_left
  ·intro w'
   go_simp
   with_reducible rfl
  rotate_left
  ·simp only [Act.put, List.setIfInBounds_toArray, List.set_cons_zero, List.set_cons_succ, i64_w, i32_w]
   rfl
  refine one_ (i := 11) (N := some 22) #[true, true, true, true, true, true, true, true, true, true, true, true, false, false] rfl rfl (by kernel_rfl) (by decide) (fun K hK => ?_)
  refine event_step (v := .slice (some ⟨V.heap.size, 0, none⟩) 1 1) (w1 := V.drew.alloc (.cells #[.int .i64 (x.val : Int), .int .i64 x.dep, .string (h x.val).t] 69)) (by rfl) (by first | (go_simp; done) | (go_simp; rfl)) ?_
  refine hK.out _ _ ⟨cell_alloc_f _ hHeld.1, cell_alloc_f _ hHeld.2.1, cell_alloc_f _ hHeld.2.2⟩ (fun _ => ?_)
  clear hK K
  refine no_ 22 ?_
  refine last_ (i := 12) (N := some 23) #[true, true, true, true, true, true, true, true, true, true, true, true, true, false] rfl rfl (by kernel_rfl) (by decide) (fun K hK => ?_)
  refine step_of_list letsOut_goes ?_
  have hBd : Below w.heap.size w V.drew := hBw.drew
  refine Kd.R_append k69 (W := V.drew) (w0 := w) w.heap.size rfl (.tmp 11) (.tmp 22) 62 69 (.agg #[(.int .i64 0), (.int .i64 0), (.string ⟨#[]⟩)]) 32 rfl Tryd.underlying62 info69 rfl (by decide) (by omega) v (rowsOf h pre) ⟨(x.val : Int), x.dep, (h x.val).t⟩ [.int .i64 (x.val : Int), .int .i64 x.dep, .string (h x.val).t] (fun _ => True) (fun _ => False) rfl rfl (k69_mkM _ _ _ ⟨(x.val : Int), x.dep, (h x.val).t⟩) (fun _ hk => hk.elim) (fun _ _ => trivial) (Kd.R_drew hR) hBd hBd.size (by omega) ?_
  intro v1 w3 hR3 hB3 hg3 hat3
  refine hK.out _ _ ?_
  clear hK K
  have hb3 : Boxed w3 (w.heap.size + 1) 62 v := Boxed.kept (W := V.drew) hbox hg3 (Kd.R_ne hR (show V.heap[w.heap.size + 1]? = some (.cells #[v] 62 (0, 0)) from hbox) (by decide))
  obtain ⟨A3, k3, rfl⟩ := Kd.R_slice hR3
  have s1 := hb3.cell
  have s2 := hb3.frozen
  refine no_ 23 ?_
  refine last_ (i := 13) (N := none) #[true, true, true, true, true, true, true, true, true, true, true, true, true, true] rfl rfl (by kernel_rfl) (by decide) (fun K hK => ?_)
  refine step_skip (w1 := w3.setCell ⟨w.heap.size + 1, 0, none⟩ (.slice A3 (rowsOf h pre ++ [(⟨(x.val : Int), x.dep, (h x.val).t⟩ : S69)]).length k3)) (by rfl) (by first | (go_simp; done) | (go_simp; rfl)) ?_
  refine hK.out _ _ ?_
  clear hK K
  refine done_ (by kernel_rfl) ?_
  have hro : rowsOf h (pre ++ [x]) = rowsOf h pre ++ [(⟨(x.val : Int), x.dep, (h x.val).t⟩ : S69)] := by unfold rowsOf; rw [List.map_append]; rfl
  refine ⟨⟨⟨_, hb3.set _, ?_⟩, hB3.setCell (p := ⟨w.heap.size + 1, 0, none⟩) (by simp) _⟩, stp_app hR hbox hg3 hBw.size (by simp) _⟩
  rw [hro]
  exact Kd.R_mono (Kd.R_far (p := ⟨w.heap.size + 1, 0, none⟩) (Kd.R_types hR3 hb3 (by decide)) (fun k hk => hk.2) _) (fun _ _ => trivial)
 case done =>
  rintro D V hD ⟨⟨v, hbox, hR⟩, hBw⟩ hK
  have cT := hbox.cell
  have HR := Aside0.mk hR
  have HB := Aside0.mk hBw
  clear hbox hR hBw
  gi_wp2
  refine ⟨by simp, .inl ⟨_, _, rfl, run_takeDeferred hK, ?_⟩⟩
  refine ⟨_, results_tmp rfl _ _ _, _, rfl, ?_, HB.out.trans (belowK_b (w := w) (Nat.le_refl _) V D _ _ (by omega) hK rfl rfl)⟩
  rw [← hfl]
  refine Kd.R_mono (Kd.R_step (Kd.R_bound HR.out) fun k hk hlt => World.putObj_heap_other ?_) (fun _ _ => trivial)
  rintro rfl
  obtain ⟨_, _, _, q, hq, cells, h3⟩ := hk
  rw [h3] at hK
  cases hK
end Go.Proofs.YtdpklbomhdpimaaDoor.P
namespace Go.Proofs.YtdpklbomhdpimaaDoor.P
open Go.RowKit Go.Proofs.YtdpklbomhdpimaaDoorW.PrintWords Go.Proofs.YtdpklbomhdpimaaDoorW.PrintLast Go.Proofs.YtdpklbomhdpimaaDoorW.PrintMore Go.Proofs.YtdpklbomhdpimaaDoor.PL Go.Proofs.YtdpklbomhdpimaaDoor.FP
theorem made_num {a : Int} (h : madeB a = true) : ∃ i : Nat, a = (i : Int) ∧ 4 ≤ i ∧ i < 37 := by
 obtain ⟨h0, h1⟩ := made_small a h
 obtain ⟨i, rfl⟩ := Int.eq_ofNat_of_zero_le h0
 refine ⟨i, rfl, ?_, by omega⟩
 rcases Nat.lt_or_ge i 4 with g | g
 ·exfalso
  have : i = 0 ∨ i = 1 ∨ i = 2 ∨ i = 3 := by omega
  rcases this with rfl | rfl | rfl | rfl <;> exact absurd h (by decide)
 ·exact g
theorem apply_any {w : World} {n0 F : Nat} {A : Nat → Option Nat} {h : Nat → Nd} {G : Fo} (t : At w n0 F A h G) (hn0 : n0 ≤ w.heap.size) (kd id up at_ : Int) (s : ByteArray) (hk : kd = 1 ∨ kd = 2 ∨ kd = 3) (hm : madeB id = true) :
  Calls Tryd.prog 94 #[.pointer (some ⟨F, 0, none⟩), ChV kd id up at_ s] w (ApplyPost w n0 F (doF G kd id up at_ s)) := by
 obtain ⟨i, rfl, h4, h37⟩ := made_num hm
 have hi0 : i ≠ 0 := by omega
 have hit : i ∉ G.tops := by rw [t.tops]; simp; omega
 have hcase : fndF G (i : Int) = 0 ∨ fndF G (i : Int) = i := by unfold fndF; split <;> simp
 rcases hk with rfl | rfl | rfl
 ·unfold ChV doF
  rw [if_pos rfl, if_neg (by decide), if_pos rfl]
  by_cases h1 : fndF G (i : Int) = 0
  ·rw [if_pos h1]
   exact apply_make_yes t hn0 i up at_ s h1 hi0 h37
  ·rw [if_neg h1]
   exact apply_make_no t hn0 _ up at_ s h1
 ·unfold ChV doF
  rw [if_neg (by decide), if_pos rfl, if_pos rfl]
  by_cases h1 : fndF G (i : Int) = 0
  ·rw [if_pos h1]; exact apply_text_no t hn0 _ s h1
  ·rw [if_neg h1]; exact apply_text_yes t hn0 _ s _ rfl h1
 ·unfold ChV doF
  rw [if_neg (by decide), if_neg (by decide), if_neg (by decide), if_neg (by decide)]
  by_cases h1 : fndF G (i : Int) = 0
  ·rw [if_pos h1]; exact apply_move_no t hn0 _ up at_ (fun g => g.1 h1)
  ·rw [if_neg h1]
   have h2 := hcase.resolve_left h1
   by_cases hu : under (fndF G (i : Int)) (fndF G up) G
   ·rw [if_pos hu]; exact apply_move_no t hn0 _ up at_ (fun g => g.2 hu)
   ·rw [if_neg hu]
    rw [h2] at hu ⊢
    exact apply_move_yes t hn0 i up at_ h2 hi0 hit hu
theorem At.len {w : World} {n0 F : Nat} {A : Nat → Option Nat} {h : Nat → Nd} {G : Fo} (t : At w n0 F A h G) : G.ids.length ≤ 36 := by
 have := nodup_len 37 (0 :: G.ids) (List.nodup_cons.2 ⟨fun g => t.rep.ne0 0 g rfl, t.nd⟩) fun x hx => by
  rcases List.mem_cons.1 hx with rfl | hx
  ·omega
  ·obtain ⟨b, hb⟩ := t.ok hx; exact t.m.rng x b hb
 simp only [List.length_cons] at this
 omega
def impl_OpDo.f (k : Nat) (l0 : List S69) (a0 a1 a2 a3 : Int) (a4 : ByteArray) : Option (List S69) :=
 (impl_changeOf.f k a0 a1 a2 a3 a4).bind fun ok => some (if ok = true then (if treeB l0 = true then (doF (toFo l0) a0 a1 a2 a3 a4).fl 0 else []) else [])
theorem impl_OpDo.mono (l0 : List S69) (a0 a1 a2 a3 : Int) (a4 : ByteArray) (k : Nat) : LeO (impl_OpDo.f k l0 a0 a1 a2 a3 a4) (impl_OpDo.f (k + 1) l0 a0 a1 a2 a3 a4) := by
 unfold impl_OpDo.f
 exact LeO.bind (impl_changeOf.mono _ _ _ _ _ _) (fun _ => LeO.refl _)
theorem changeOf_yes {k : Nat} {a0 a1 a2 a3 : Int} {a4 : ByteArray} (h : impl_changeOf.f k a0 a1 a2 a3 a4 = some true) : (a0 = 1 ∨ a0 = 2 ∨ a0 = 3) ∧ madeB a1 = true := by
 unfold impl_changeOf.f at h
 rw [isMade_f] at h
 simp only [Option.bind_some] at h
 cases hm : madeB a1 with
 | false => rw [hm] at h; simp at h
 | true =>
  refine ⟨?_, rfl⟩
  rw [hm, if_pos rfl] at h
  by_cases h1 : a0 = 1
  ·exact Or.inl h1
  ·by_cases h2 : a0 = 2
   ·exact Or.inr (Or.inl h2)
   ·by_cases h3 : a0 = 3
    ·exact Or.inr (Or.inr h3)
    ·rw [if_neg h1, if_neg h2, if_neg h3] at h; simp at h
def OpDoPost (w : World) (r : List S69) (e : Ending) (w' : World) : Prop := ∃ v0_ : Value, e = .returned v0_ ∧ Kd.R k69 69 w' w.heap.size (fun _ => True) v0_ r ∧ Below w.heap.size w w'
set_option maxHeartbeats 1000000 in
set_option maxRecDepth 100000 in
theorem opDo_notree (k : Nat) (A0 : Option Addr) (c0 : Nat) (l0 : List S69) (a0 a1 a2 a3 : Int) (a4 : ByteArray) (ok : Bool) (w : World) (hr0 : Kd.C k69 w A0 l0.length l0) (hc0 : l0.length ≤ c0) (hok : impl_changeOf.f k a0 a1 a2 a3 a4 = some ok) (ht : treeB l0 = false) (hG : Glob w) :
  Calls Tryd.prog 40 #[.slice A0 l0.length c0, .agg #[.int .i64 a0, .int .i64 a1, .int .i64 a2, .int .i64 a3, .string a4]] w (OpDoPost w []) := by
 have HR := Aside0.mk hr0
 have HC := Aside0.mk hc0
 have HO := Aside0.mk hok
 have HT := Aside0.mk ht
 have HG := Aside0.mk hG
 have hu := Tryd.underlying42
 clear hr0 hc0 hok ht hG
 go_enter Tryd.func40, Tryd.ntmps40
 go_wp2_with (first
  | (go_at_call 92; (with_reducible refine (impl_changeOf.calls k a0 a1 a2 a3 a4 ok _ HO.out (HG.out.below (below_box0 w _))).mono ?_); rintro en W1 ⟨v1, rfl, _, hb⟩; have HB1 := Aside0.mk ((below_box0 w _).trans (hb.mono (by simp))); clear hb)
  | (go_at_call 93; (with_reducible refine (plant_no A0 c0 l0 _ (Kd.C_below HR.out HB1.out) HC.out HT.out (HG.out.below HB1.out)).mono ?_); rintro en W2 ⟨rfl, hb⟩; have HB2 := Aside0.mk (below_step HB1.out hb); clear hb))
 cases ok
 all_goals go_wp2
 all_goals go_ret
 all_goals exact ⟨_, rfl, Kd.R_nil _ _ _ _ _, HB2.out⟩
set_option maxHeartbeats 1000000 in
set_option maxRecDepth 100000 in
theorem opDo_noop (k : Nat) (A0 : Option Addr) (c0 : Nat) (l0 : List S69) (a0 a1 a2 a3 : Int) (a4 : ByteArray) (w : World) (hr0 : Kd.C k69 w A0 l0.length l0) (hc0 : l0.length ≤ c0) (hok : impl_changeOf.f k a0 a1 a2 a3 a4 = some false) (ht : treeB l0 = true) (hG : Glob w) :
  Calls Tryd.prog 40 #[.slice A0 l0.length c0, .agg #[.int .i64 a0, .int .i64 a1, .int .i64 a2, .int .i64 a3, .string a4]] w (OpDoPost w []) := by
 have HR := Aside0.mk hr0
 have HC := Aside0.mk hc0
 have HO := Aside0.mk hok
 have HT := Aside0.mk ht
 have HG := Aside0.mk hG
 have hu := Tryd.underlying42
 clear hr0 hc0 hok ht hG
 go_enter Tryd.func40, Tryd.ntmps40
 go_wp2_with (first
  | (go_at_call 92; (with_reducible refine (impl_changeOf.calls k a0 a1 a2 a3 a4 false _ HO.out (HG.out.below (below_box0 w _))).mono ?_); rintro en W1 ⟨v1, rfl, _, hb⟩; have HB1 := Aside0.mk ((below_box0 w _).trans (hb.mono (by simp))); clear hb)
  | (go_at_call 93; (with_reducible refine (plant_yes A0 c0 l0 _ (Kd.C_below HR.out HB1.out) HC.out HT.out (HG.out.below HB1.out)).mono ?_); rintro en W2 ⟨Fb, G, A, h, rfl, _, _, _, _, _, _, hb⟩; have HB2 := Aside0.mk (below_step HB1.out hb); clear hb))
 go_ret
 exact ⟨_, rfl, Kd.R_nil _ _ _ _ _, HB2.out⟩
set_option maxHeartbeats 1000000 in
set_option maxRecDepth 100000 in
theorem opDo_yes (k : Nat) (A0 : Option Addr) (c0 : Nat) (l0 : List S69) (a0 a1 a2 a3 : Int) (a4 : ByteArray) (w : World) (hr0 : Kd.C k69 w A0 l0.length l0) (hc0 : l0.length ≤ c0) (hok : impl_changeOf.f k a0 a1 a2 a3 a4 = some true) (ht : treeB l0 = true) (hG : Glob w) :
  Calls Tryd.prog 40 #[.slice A0 l0.length c0, .agg #[.int .i64 a0, .int .i64 a1, .int .i64 a2, .int .i64 a3, .string a4]] w (OpDoPost w ((doF (toFo l0) a0 a1 a2 a3 a4).fl 0)) := by
 have HR := Aside0.mk hr0
 have HC := Aside0.mk hc0
 have HO := Aside0.mk hok
 have HT := Aside0.mk ht
 have HG := Aside0.mk hG
 have HY := Aside0.mk (changeOf_yes hok)
 have hu := Tryd.underlying42
 clear hr0 hc0 hok ht hG
 go_enter Tryd.func40, Tryd.ntmps40
 go_wp2_with (first
  | (go_at_call 92; (with_reducible refine (impl_changeOf.calls k a0 a1 a2 a3 a4 true _ HO.out (HG.out.below (below_box0 w _))).mono ?_); rintro en W1 ⟨v1, rfl, hv, hb⟩; obtain rfl := hv rfl; have HB1 := Aside0.mk ((below_box0 w _).trans (hb.mono (by simp))); clear hb hv)
  | (go_at_call 93; (with_reducible refine (plant_yes A0 c0 l0 _ (Kd.C_below HR.out HB1.out) HC.out HT.out (HG.out.below HB1.out)).mono ?_); rintro en W2 ⟨Fb, G, A, h, rfl, p1, p2, p3, p4, p5, p6, hb⟩; have HB2 := Aside0.mk (below_step HB1.out hb); have HAT := Aside0.mk (show At W2 W1.heap.size Fb A h G from ⟨p1, p2, p3, p4, p5⟩); have HTO := Aside0.mk (toFo_of HT.out p6); have HS := Aside0.mk hb.size; clear hb p1 p2 p3 p4 p5 p6)
  | (go_at_call 94; (with_reducible refine (apply_any HAT.out HS.out a0 a1 a2 a3 a4 HY.out.1 HY.out.2).mono ?_); rintro en W3 ⟨⟨v3, rfl⟩, ⟨A3, h3, t3⟩, hb⟩; have HB3 := Aside0.mk (HB2.out.trans (hb.mono HB1.out.size)); have HT3 := Aside0.mk t3; clear hb t3)
  | (go_at_call 95; (with_reducible refine (rows_any HT3.out.m HT3.out.rep HT3.out.nd HT3.out.tops (fun x hx => (HT3.out.dom x).2 hx) HT3.out.len).mono ?_); rintro en W4 ⟨v4, rfl, ho, hb⟩; have HB4 := Aside0.mk (below_step HB3.out hb); have HO4 := Aside0.mk (Kd.R_lower ho HB3.out.size); clear hb ho))
 go_ret
 rw [HTO.out]
 exact ⟨_, rfl, HO4.out, HB4.out⟩
theorem impl_OpDo.calls (k : Nat) (A0 : Option Addr) (c0 : Nat) (l0 : List S69) (a0 a1 a2 a3 : Int) (a4 : ByteArray) (r : List S69) (w : World) (hr0 : Kd.C k69 w A0 l0.length l0) (hc0 : l0.length ≤ c0) (h : impl_OpDo.f k l0 a0 a1 a2 a3 a4 = some r) (hG : Glob w) :
  Calls Tryd.prog 40 #[.slice A0 l0.length c0, .agg #[.int .i64 a0, .int .i64 a1, .int .i64 a2, .int .i64 a3, .string a4]] w fun e w' => ∃ v0_ : Value, e = .returned v0_ ∧ Kd.R k69 69 w' w.heap.size (fun _ => True) v0_ r ∧ Below w.heap.size w w' := by
 unfold impl_OpDo.f at h
 obtain ⟨ok, hok, h⟩ := Option.bind_eq_some_iff.1 h
 cases ht : treeB l0 with
 | false =>
  have hr : r = [] := by rw [ht] at h; cases ok <;> simpa using h.symm
  subst hr
  exact opDo_notree k A0 c0 l0 a0 a1 a2 a3 a4 ok w hr0 hc0 hok ht hG
 | true =>
  rw [ht] at h
  cases ok with
  | false =>
   have hr : r = [] := by simpa using h.symm
   subst hr
   exact opDo_noop k A0 c0 l0 a0 a1 a2 a3 a4 w hr0 hc0 hok ht hG
  | true =>
   simp only [if_true, Option.some.injEq] at h
   subst h
   exact opDo_yes k A0 c0 l0 a0 a1 a2 a3 a4 w hr0 hc0 hok ht hG
end Go.Proofs.YtdpklbomhdpimaaDoor.P
namespace Go.Proofs.YtdpklbomhdpimaaDoor.P
open Go.RowKit Go.Proofs.YtdpklbomhdpimaaDoorW.PrintWords Go.Proofs.YtdpklbomhdpimaaDoorW.PrintLast
def impl_TreeNew.f  : Option ((List (S69))) := some (([(⟨1, 0, (⟨#[]⟩ : ByteArray)⟩ : S69), (⟨2, 0, (⟨#[]⟩ : ByteArray)⟩ : S69), (⟨3, 0, (⟨#[]⟩ : ByteArray)⟩ : S69)] : List (S69)))
set_option maxHeartbeats 8000000 in
set_option maxRecDepth 100000 in
theorem impl_TreeNew.calls  (r : List (S69)) (w : World) (h : impl_TreeNew.f  = some r) :
  Calls Tryd.prog 48 #[] w fun e w' => ∃ v0_ : Value, e = .returned (v0_) ∧ Kd.R k69 69 w' w.heap.size (fun _ => True) v0_ r ∧ Below w.heap.size w w' := by
 have hu69 := Tryd.underlying69
 have HB := Aside0.mk (Below.refl w.heap.size w)
 unfold impl_TreeNew.f at h
 have H := h
 clear h
 obtain ⟨y940, hy940⟩ : ∃ y_ : List (S69), y_ = (([(⟨1, 0, (⟨#[]⟩ : ByteArray)⟩ : S69), (⟨2, 0, (⟨#[]⟩ : ByteArray)⟩ : S69), (⟨3, 0, (⟨#[]⟩ : ByteArray)⟩ : S69)] : List (S69))) := ⟨_, rfl⟩
 replace H : (some y940) = some r := by first | (rw [hy940]; with_reducible exact H) | (have H2_ := (Option.bind_some _ _).symm.trans H; rw [hy940]; with_reducible exact H2_) | (have H2_ := (Option.bind_some _ _).symm.trans H; with_reducible exact H2_) | with_reducible exact H | (rw [hy940]; exact H) | exact H
 have Ny940 := Aside0.mk hy940
 clear hy940
 obtain rfl := Option.some.inj H
 go_enter Tryd.func48, Tryd.ntmps48
 go_wp2_with (first | ((with_reducible refine gate_dst (N := 4) rfl ?_); refine Kd.R_lit k69 _ 69 ?hg (N := 4) ?hd (xs := ([(⟨1, 0, (⟨#[]⟩ : ByteArray)⟩ : S69), (⟨2, 0, (⟨#[]⟩ : ByteArray)⟩ : S69), (⟨3, 0, (⟨#[]⟩ : ByteArray)⟩ : S69)] : List (S69))) (inner := [.int .i64 1, .int .i64 0, .string (⟨#[]⟩ : ByteArray), .int .i64 2, .int .i64 0, .string (⟨#[]⟩ : ByteArray), .int .i64 3, .int .i64 0, .string (⟨#[]⟩ : ByteArray)]) (ok := fun _ => True) (okp := fun _ => True) ?hr ?hp (fun _ hk => hk) trivial (Below.refl _ _) (Nat.le_refl _) (by simp) ?_; (case hd => rfl); (case hg => rfl); (case hr => first | (go_simp; done) | (go_simp; rfl)); (case hp => exact (Reps.c3 (show Kd.M k69 _ _ _ (⟨1, 0, (⟨#[]⟩ : ByteArray)⟩ : S69) [.int .i64 1, .int .i64 0, .string (⟨#[]⟩ : ByteArray)] from (k69_mkM _ _ _ (⟨1, 0, (⟨#[]⟩ : ByteArray)⟩ : S69) )) (Reps.c3 (show Kd.M k69 _ _ _ (⟨2, 0, (⟨#[]⟩ : ByteArray)⟩ : S69) [.int .i64 2, .int .i64 0, .string (⟨#[]⟩ : ByteArray)] from (k69_mkM _ _ _ (⟨2, 0, (⟨#[]⟩ : ByteArray)⟩ : S69) )) (Reps.c3 (show Kd.M k69 _ _ _ (⟨3, 0, (⟨#[]⟩ : ByteArray)⟩ : S69) [.int .i64 3, .int .i64 0, .string (⟨#[]⟩ : ByteArray)] from (k69_mkM _ _ _ (⟨3, 0, (⟨#[]⟩ : ByteArray)⟩ : S69) )) (Reps.none _ _))))); intro v941 w1 ho2 hb hg_ hnew_; clear hg_ hnew_; (first | rw [← Ny940.out] at ho2 | (simp only [Int.reduceToNat] at ho2; rw [← Ny940.out] at ho2)); have HO942 := Aside0.mk (Kd.R_lower ho2 (below_size (bel_))); replace HB := Aside0.mk (below_step (bel_) hb); clear hb ho2))
 go_ret
 exact ⟨_, fi_, by (with_reducible repeat (first | apply Kd.R_alloc | apply Kd.R_drewN | apply Kd.R_drew)); exact HO942.out, bel_⟩

def impl_LogTree.l0 : Nat → List (S69) → List (S44) → Int → Int → Option ((List (S69)))
 | 0, _, _, _, _ => none
 | k + 1, x3, x10, x11, x12 => if x12 < x11 then (if 0 ≤ x12 then (if x12 < (x10.length : Int) then ((impl_OpDo.f k x3 ((rd_T44 x10 x12).f2.f0) ((rd_T44 x10 x12).f2.f1) ((rd_T44 x10 x12).f2.f2) ((rd_T44 x10 x12).f2.f3) ((rd_T44 x10 x12).f2.f4)).bind fun t949 => (impl_LogTree.l0 k t949 x10 x11 (wrap64 (x12 + 1)))) else (none)) else (none)) else (some x3)
def impl_LogTree.f (k : Nat) (l0 : List (S44)) : Option ((List (S69))) := (impl_LogOk.f k l0).bind fun t943 => (if t943 = true then ((impl_TreeNew.f).bind fun t944 => (impl_LogTree.l0 k t944 l0 (l0.length : Int) 0)) else (some ([] : List (S69))))
theorem impl_LogTree.mono_l : ∀ k, (∀ y0 y1 y2 y3, LeO (impl_LogTree.l0 k y0 y1 y2 y3) (impl_LogTree.l0 (k + 1) y0 y1 y2 y3))
 | 0 => fun _ _ _ _ r h => by simp [impl_LogTree.l0] at h
 | k + 1 => by
  have ih0 := impl_LogTree.mono_l k
  ·intro y0 y1 y2 y3
   unfold impl_LogTree.l0
   repeat' first
   | (with_reducible exact ih0 _ _ _ _)
   | (with_reducible exact impl_LogOk.mono _ _)
   | (with_reducible exact impl_OpDo.mono _ _ _ _ _ _ _)
   | (with_reducible exact LeO.refl _)
   | (with_reducible exact LeO.none _)
   | (with_reducible refine LeO.ite ?_ ?_)
   | (with_reducible refine LeO.bind ?_ (fun _ => ?_))
   | exact ih0 _ _ _ _
   | exact impl_LogOk.mono _ _
   | exact impl_OpDo.mono _ _ _ _ _ _ _
   | exact LeO.none _
   | refine LeO.ite ?_ ?_
   | refine LeO.bind ?_ (fun _ => ?_)
theorem impl_LogTree.mono : ∀ a0 k, LeO (impl_LogTree.f k a0) (impl_LogTree.f (k + 1) a0) := by
 intro a0 k
 have ih0 := impl_LogTree.mono_l k
 unfold impl_LogTree.f
 repeat' first
   | (with_reducible exact ih0 _ _ _ _)
   | (with_reducible exact impl_LogOk.mono _ _)
   | (with_reducible exact impl_OpDo.mono _ _ _ _ _ _ _)
   | (with_reducible exact LeO.refl _)
   | (with_reducible exact LeO.none _)
   | (with_reducible refine LeO.ite ?_ ?_)
   | (with_reducible refine LeO.bind ?_ (fun _ => ?_))
   | exact ih0 _ _ _ _
   | exact impl_LogOk.mono _ _
   | exact impl_OpDo.mono _ _ _ _ _ _ _
   | exact LeO.none _
   | refine LeO.ite ?_ ?_
   | refine LeO.bind ?_ (fun _ => ?_)
set_option maxHeartbeats 8000000 in
set_option maxRecDepth 100000 in
theorem impl_LogTree.calls (k : Nat) (A0 : Option Addr) (c0 : Nat) (l0 : List (S44)) (r : List (S69)) (w : World) (hr0 : Kd.C k44 w A0 l0.length l0) (hc0 : l0.length ≤ c0) (h : impl_LogTree.f k l0 = some r) (hG : Glob w) :
  Calls Tryd.prog 39 #[.slice A0 l0.length c0] w fun e w' => ∃ v0_ : Value, e = .returned (v0_) ∧ Kd.R k69 69 w' w.heap.size (fun _ => True) v0_ r ∧ Below w.heap.size w w' := by
 have hu44 := Tryd.underlying44
 have hu42 := Tryd.underlying42
 have HR0 := Aside0.mk hr0
 have HC0 := Aside0.mk hc0
 clear hr0 hc0
 have HB := Aside0.mk (Below.refl w.heap.size w)
 have HG := Aside0.mk hG
 clear hG
 unfold impl_LogTree.f at h
 have H := h
 clear h
 replace H := Option.bind_eq_some_iff.mp H
 obtain ⟨t943, A20, H⟩ := H
 try dsimp only at H
 have A2 := Aside0.mk A20
 clear A20
 by_cases c3 : t943 = true
 ·subst c3
  have H1 : ((impl_TreeNew.f).bind fun t944 => (impl_LogTree.l0 k t944 l0 (l0.length : Int) 0)) = some r := by rw [if_pos rfl] at H; exact H
  clear H
  have H := H1
  clear H1
  replace H := Option.bind_eq_some_iff.mp H
  obtain ⟨t944, A40, H⟩ := H
  try dsimp only at H
  have A4 := Aside0.mk A40
  clear A40
  have H' := Aside0.mk H
  clear H
  go_enter Tryd.func39, Tryd.ntmps39
  go_wp2_with (first | ((with_reducible refine gate_callee (f := 42) rfl ?_); refine gl_ 7 Tryd.func42 #[.slice A0 l0.length c0] ?_; (with_reducible refine (impl_LogOk.calls k _ _ l0 true _ ?side1 ?side2 A2.out ?side3).mono ?_); (case side1 => exact cx_ HR0.out); (case side2 => exact HC0.out); (case side3 => exact Glob.below HG.out (bel_)); rintro e w5 ⟨rfl, hb⟩; refine ⟨_, rfl, ?_⟩; replace HB := Aside0.mk (below_step (bel_) hb); (try clear hb)) | ((with_reducible refine gate_callee (f := 48) rfl ?_); refine gl_ 9 Tryd.func48 #[] ?_; (with_reducible refine (impl_TreeNew.calls  t944 _ A4.out).mono ?_); rintro e w6 ⟨v945, rfl, ho0, hb⟩; refine ⟨_, rfl, ?_⟩; have HO946 := Aside0.mk (Kd.R_lower ho0 (below_size (bel_))); replace HB := Aside0.mk (below_step (bel_) hb); (try clear hb ho0)))
  go_loopg [3, 12] k (fun kq v3 v12 w' => ∃ (x3_1 : List (S69)) (x12_1 : Int), v12 = .int .i64 x12_1 ∧ Aside0 (impl_LogTree.l0 kq x3_1 l0 (l0.length : Int) x12_1 = some r) ∧ Aside0 (kq ≤ k) ∧ Aside0 (Kd.R k69 69 w' w.heap.size (fun _ => True) v3 x3_1) ∧ Aside0 (Below w.heap.size w w'))
  case atStart => exact ⟨(t944), (0), (si_), H', ⟨Nat.le_refl _⟩, ⟨by (with_reducible repeat (first | apply Kd.R_alloc | apply Kd.R_drewN | apply Kd.R_drew)); exact HO946.out⟩, ⟨bel_⟩⟩
  case round =>
   clear H'
   try clear p2
   try clear c3
   try clear c4
   obtain ⟨x3_1, x12_1, rfl, HA, HK1, HO_3, HB⟩ := hrel
   cases gk with
   | zero => exact absurd HA.out (by simp [impl_LogTree.l0])
   | succ k1 =>
    have H := HA.out
    clear HA
    simp only [impl_LogTree.l0] at H
    by_cases c7 : x12_1 < (l0.length : Int)
    ·rw [if_pos c7] at H
     have c7b0 : decide (x12_1 < (l0.length : Int)) = true := decide_eq_true c7
     clear c7
     by_cases c8 : 0 ≤ x12_1
     ·rw [if_pos c8] at H
      have c8b0 : decide (0 ≤ x12_1) = true := decide_eq_true c8
      clear c8
      by_cases c9 : x12_1 < (l0.length : Int)
      ·rw [if_pos c9] at H
       have c9b0 : decide (x12_1 < (l0.length : Int)) = true := decide_eq_true c9
       clear c9
       replace H := Option.bind_eq_some_iff.mp H
       obtain ⟨t949, A100, H⟩ := H
       try dsimp only at H
       have A10 := Aside0.mk A100
       clear A100
       have H' := Aside0.mk H
       clear H
       have p947 : 0 ≤ (x12_1 : Int) := od_
       have q947 : x12_1 < (l0.length : Int) := od_
       obtain ⟨ad947, e947, hx947_0, hx947_1, hx947_2, hx947_3, hx947_4, hx947_5, hx947_6⟩ := at_T44 HR0.out x12_1 p947 q947
       cases e947
       replace hx947_0 := (cb_ HB.out hx947_0 :)
       replace hx947_1 := (cb_ HB.out hx947_1 :)
       replace hx947_2 := (cb_ HB.out hx947_2 :)
       replace hx947_3 := (cb_ HB.out hx947_3 :)
       replace hx947_4 := (cb_ HB.out hx947_4 :)
       replace hx947_5 := (cb_ HB.out hx947_5 :)
       replace hx947_6 := (cb_ HB.out hx947_6 :)
       replace p947 := eq_true p947
       replace q947 := eq_true q947
       go_wp2_with (first | ((with_reducible refine gate_dst (N := 5) rfl ?_); refine bx_ 5 (#[.int .i64 0, .int .i64 0, .int .i64 0, .int .i64 0, .int .i64 0, .int .i64 0, .string (⟨#[]⟩ : ByteArray)]) 44 ?_; intro gb948 hg w11 hbox hb; have n0_ := Aside0.mk (Kd.R_below (rp_ HO_3.out) hb); have n1_ := Aside0.mk (below_step (bel_) hb); have n2_ := Aside0.mk (hbox); have n3_ := Aside0.mk ((by rw [hg]; exact (below_size (bel_)) : w.heap.size ≤ gb948)); have n4_ := Aside0.mk ((by rw [hg]; exact (below_size (bel_)) : w.heap.size ≤ gb948)); clear HO_3; clear HB; have HO_3 := n0_; have HB := n1_; have BK948 := n2_; have GW948 := n3_; have GE948 := n4_; clear n0_ n1_ n2_ n3_ n4_; clear hb hbox hg; have hcz12_0 := cz_ BK948.out 0 (.int .i64 0); have hcz12_1 := cz_ BK948.out 1 (.int .i64 0); have hcz12_2 := cz_ BK948.out 2 (.int .i64 0); have hcz12_3 := cz_ BK948.out 3 (.int .i64 0); have hcz12_4 := cz_ BK948.out 4 (.int .i64 0); have hcz12_5 := cz_ BK948.out 5 (.int .i64 0); have hcz12_6 := cz_ BK948.out 6 (.string (⟨#[]⟩ : ByteArray)); have hfz12_0 := blk_frozen BK948.out 0; have hfz12_1 := blk_frozen BK948.out 1; have hfz12_2 := blk_frozen BK948.out 2; have hfz12_3 := blk_frozen BK948.out 3; have hfz12_4 := blk_frozen BK948.out 4; have hfz12_5 := blk_frozen BK948.out 5; have hfz12_6 := blk_frozen BK948.out 6; obtain ⟨Ao13, co13, eo13⟩ := Kd.R_slice HO_3.out; subst eo13) | ((with_reducible refine gate_callee (f := 40) rfl ?_); refine gl_ 19 Tryd.func40 #[.slice Ao13 x3_1.length co13, .agg #[.int .i64 ((rd_T44 l0 x12_1).f2.f0), .int .i64 ((rd_T44 l0 x12_1).f2.f1), .int .i64 ((rd_T44 l0 x12_1).f2.f2), .int .i64 ((rd_T44 l0 x12_1).f2.f3), .string ((rd_T44 l0 x12_1).f2.f4)]] ?_; (with_reducible refine (impl_OpDo.calls k1 _ _ x3_1 ((rd_T44 l0 x12_1).f2.f0) ((rd_T44 l0 x12_1).f2.f1) ((rd_T44 l0 x12_1).f2.f2) ((rd_T44 l0 x12_1).f2.f3) ((rd_T44 l0 x12_1).f2.f4) t949 _ ?side1 ?side2 A10.out ?side3).mono ?_); (case side1 => refine (Kd.R_reads' (e := 69) (base := w.heap.size) (ok := fun k_ => True) (n := x3_1.length) (c := co13) ?_).2.2; exact (by (with_reducible repeat (first | apply Kd.R_alloc | apply Kd.R_drewN | apply Kd.R_drew)); exact (Kd.R_mono (Kd.R_far (p := ⟨gb948, 6, none⟩) (Kd.R_far (p := ⟨gb948, 5, none⟩) (Kd.R_far (p := ⟨gb948, 4, none⟩) (Kd.R_far (p := ⟨gb948, 3, none⟩) (Kd.R_far (p := ⟨gb948, 2, none⟩) (Kd.R_far (p := ⟨gb948, 1, none⟩) (Kd.R_far (p := ⟨gb948, 0, none⟩) (Kd.R_types HO_3.out BK948.out (by decide)) (fun _ hk => hk.2) (.int .i64 ((rd_T44 l0 x12_1).f0))) (fun _ hk => hk.2) (.int .i64 ((rd_T44 l0 x12_1).f1))) (fun _ hk => hk.2) (.int .i64 ((rd_T44 l0 x12_1).f2.f0))) (fun _ hk => hk.2) (.int .i64 ((rd_T44 l0 x12_1).f2.f1))) (fun _ hk => hk.2) (.int .i64 ((rd_T44 l0 x12_1).f2.f2))) (fun _ hk => hk.2) (.int .i64 ((rd_T44 l0 x12_1).f2.f3))) (fun _ hk => hk.2) (.string ((rd_T44 l0 x12_1).f2.f4))) (fun _ h_ => h_.1)))); (case side2 => exact (Kd.R_reads' HO_3.out).2.1); (case side3 => exact Glob.below HG.out (bel_)); rintro e w14 ⟨v950, rfl, ho0, hb⟩; refine ⟨_, rfl, ?_⟩; have n0_ := Aside0.mk (Kd.R_elder' (by (with_reducible repeat (first | apply Kd.R_alloc | apply Kd.R_drewN | apply Kd.R_drew)); exact (Kd.R_mono (Kd.R_far (p := ⟨gb948, 6, none⟩) (Kd.R_far (p := ⟨gb948, 5, none⟩) (Kd.R_far (p := ⟨gb948, 4, none⟩) (Kd.R_far (p := ⟨gb948, 3, none⟩) (Kd.R_far (p := ⟨gb948, 2, none⟩) (Kd.R_far (p := ⟨gb948, 1, none⟩) (Kd.R_far (p := ⟨gb948, 0, none⟩) (Kd.R_types HO_3.out BK948.out (by decide)) (fun _ hk => hk.2) (.int .i64 ((rd_T44 l0 x12_1).f0))) (fun _ hk => hk.2) (.int .i64 ((rd_T44 l0 x12_1).f1))) (fun _ hk => hk.2) (.int .i64 ((rd_T44 l0 x12_1).f2.f0))) (fun _ hk => hk.2) (.int .i64 ((rd_T44 l0 x12_1).f2.f1))) (fun _ hk => hk.2) (.int .i64 ((rd_T44 l0 x12_1).f2.f2))) (fun _ hk => hk.2) (.int .i64 ((rd_T44 l0 x12_1).f2.f3))) (fun _ hk => hk.2) (.string ((rd_T44 l0 x12_1).f2.f4))) (fun _ h_ => h_.1))) (Kd.R_base ho0) hb); have n1_ := Aside0.mk (Kd.R_lower (Kd.R_new' ho0 (Kd.R_lt (by (with_reducible repeat (first | apply Kd.R_alloc | apply Kd.R_drewN | apply Kd.R_drew)); exact (Kd.R_mono (Kd.R_far (p := ⟨gb948, 6, none⟩) (Kd.R_far (p := ⟨gb948, 5, none⟩) (Kd.R_far (p := ⟨gb948, 4, none⟩) (Kd.R_far (p := ⟨gb948, 3, none⟩) (Kd.R_far (p := ⟨gb948, 2, none⟩) (Kd.R_far (p := ⟨gb948, 1, none⟩) (Kd.R_far (p := ⟨gb948, 0, none⟩) (Kd.R_types HO_3.out BK948.out (by decide)) (fun _ hk => hk.2) (.int .i64 ((rd_T44 l0 x12_1).f0))) (fun _ hk => hk.2) (.int .i64 ((rd_T44 l0 x12_1).f1))) (fun _ hk => hk.2) (.int .i64 ((rd_T44 l0 x12_1).f2.f0))) (fun _ hk => hk.2) (.int .i64 ((rd_T44 l0 x12_1).f2.f1))) (fun _ hk => hk.2) (.int .i64 ((rd_T44 l0 x12_1).f2.f2))) (fun _ hk => hk.2) (.int .i64 ((rd_T44 l0 x12_1).f2.f3))) (fun _ hk => hk.2) (.string ((rd_T44 l0 x12_1).f2.f4))) (fun _ h_ => h_.1))))) (below_size (bel_))); have n2_ := Aside0.mk (blk_below (g := gb948) (o := .cells #[.int .i64 ((rd_T44 l0 x12_1).f0), .int .i64 ((rd_T44 l0 x12_1).f1), .int .i64 ((rd_T44 l0 x12_1).f2.f0), .int .i64 ((rd_T44 l0 x12_1).f2.f1), .int .i64 ((rd_T44 l0 x12_1).f2.f2), .int .i64 ((rd_T44 l0 x12_1).f2.f3), .string ((rd_T44 l0 x12_1).f2.f4)] 44 (0, 0)) (by (with_reducible repeat (first | refine blk_drewN ?_ _ | refine blk_drew ?_ | refine blk_alloc ?_ _)); refine blk_put (cs := #[.int .i64 ((rd_T44 l0 x12_1).f0), .int .i64 ((rd_T44 l0 x12_1).f1), .int .i64 ((rd_T44 l0 x12_1).f2.f0), .int .i64 ((rd_T44 l0 x12_1).f2.f1), .int .i64 ((rd_T44 l0 x12_1).f2.f2), .int .i64 ((rd_T44 l0 x12_1).f2.f3), .string (⟨#[]⟩ : ByteArray)]) ?_ 6 _ rfl; (with_reducible repeat (first | refine blk_drewN ?_ _ | refine blk_drew ?_ | refine blk_alloc ?_ _)); refine blk_put (cs := #[.int .i64 ((rd_T44 l0 x12_1).f0), .int .i64 ((rd_T44 l0 x12_1).f1), .int .i64 ((rd_T44 l0 x12_1).f2.f0), .int .i64 ((rd_T44 l0 x12_1).f2.f1), .int .i64 ((rd_T44 l0 x12_1).f2.f2), .int .i64 0, .string (⟨#[]⟩ : ByteArray)]) ?_ 5 _ rfl; (with_reducible repeat (first | refine blk_drewN ?_ _ | refine blk_drew ?_ | refine blk_alloc ?_ _)); refine blk_put (cs := #[.int .i64 ((rd_T44 l0 x12_1).f0), .int .i64 ((rd_T44 l0 x12_1).f1), .int .i64 ((rd_T44 l0 x12_1).f2.f0), .int .i64 ((rd_T44 l0 x12_1).f2.f1), .int .i64 0, .int .i64 0, .string (⟨#[]⟩ : ByteArray)]) ?_ 4 _ rfl; (with_reducible repeat (first | refine blk_drewN ?_ _ | refine blk_drew ?_ | refine blk_alloc ?_ _)); refine blk_put (cs := #[.int .i64 ((rd_T44 l0 x12_1).f0), .int .i64 ((rd_T44 l0 x12_1).f1), .int .i64 ((rd_T44 l0 x12_1).f2.f0), .int .i64 0, .int .i64 0, .int .i64 0, .string (⟨#[]⟩ : ByteArray)]) ?_ 3 _ rfl; (with_reducible repeat (first | refine blk_drewN ?_ _ | refine blk_drew ?_ | refine blk_alloc ?_ _)); refine blk_put (cs := #[.int .i64 ((rd_T44 l0 x12_1).f0), .int .i64 ((rd_T44 l0 x12_1).f1), .int .i64 0, .int .i64 0, .int .i64 0, .int .i64 0, .string (⟨#[]⟩ : ByteArray)]) ?_ 2 _ rfl; (with_reducible repeat (first | refine blk_drewN ?_ _ | refine blk_drew ?_ | refine blk_alloc ?_ _)); refine blk_put (cs := #[.int .i64 ((rd_T44 l0 x12_1).f0), .int .i64 0, .int .i64 0, .int .i64 0, .int .i64 0, .int .i64 0, .string (⟨#[]⟩ : ByteArray)]) ?_ 1 _ rfl; (with_reducible repeat (first | refine blk_drewN ?_ _ | refine blk_drew ?_ | refine blk_alloc ?_ _)); refine blk_put (cs := #[.int .i64 0, .int .i64 0, .int .i64 0, .int .i64 0, .int .i64 0, .int .i64 0, .string (⟨#[]⟩ : ByteArray)]) ?_ 0 _ rfl; (with_reducible repeat (first | refine blk_drewN ?_ _ | refine blk_drew ?_ | refine blk_alloc ?_ _)); exact BK948.out) hb); have n3_ := Aside0.mk (below_step (bel_) hb); clear HO_3; clear BK948; clear HB; have HO_3 := n0_; have HO951 := n1_; have BK948 := n2_; have HB := n3_; clear n0_ n1_ n2_ n3_; (try clear hb ho0)))
       go_roundg k1
       case measure => have := HK1.out; omega
       case rel => exact ⟨(t949), (wrap64 (x12_1 + 1)), (si_), H', ⟨by have := HK1.out; omega⟩, ⟨by (with_reducible repeat (first | apply Kd.R_alloc | apply Kd.R_drewN | apply Kd.R_drew)); exact Kd.R_mono HO951.out (fun _ hk => trivial)⟩, ⟨bel_⟩⟩
      ·rw [if_neg c9] at H
       exact absurd H (by simp)
     ·rw [if_neg c8] at H
      exact absurd H (by simp)
    ·rw [if_neg c7] at H
     have c7b0 : decide (x12_1 < (l0.length : Int)) = false := decide_eq_false c7
     clear c7
     obtain rfl := Option.some.inj H
     go_wp2
     go_ret
     exact ⟨_, fi_, by (with_reducible repeat (first | apply Kd.R_alloc | apply Kd.R_drewN | apply Kd.R_drew)); exact HO_3.out, bel_⟩
 ·replace c3 := Bool.eq_false_iff.mpr c3
  subst c3
  have H1 : (some ([] : List (S69))) = some r := by rw [if_neg (show ¬ (false = true) by decide)] at H; exact H
  clear H
  have H := H1
  clear H1
  obtain rfl := Option.some.inj H
  go_enter Tryd.func39, Tryd.ntmps39
  go_wp2_with (first | ((with_reducible refine gate_callee (f := 42) rfl ?_); refine gl_ 7 Tryd.func42 #[.slice A0 l0.length c0] ?_; (with_reducible refine (impl_LogOk.calls k _ _ l0 false _ ?side1 ?side2 A2.out ?side3).mono ?_); (case side1 => exact cx_ HR0.out); (case side2 => exact HC0.out); (case side3 => exact Glob.below HG.out (bel_)); rintro e w15 ⟨rfl, hb⟩; refine ⟨_, rfl, ?_⟩; replace HB := Aside0.mk (below_step (bel_) hb); (try clear hb)))
  go_ret
  exact ⟨_, fi_, by first | exact Kd.R_nil _ _ _ _ _ | exact Kd.N_nil _ _ _ _ _ | exact Kd.V_nil _ _ _ _ _ | exact Kd.Q_nil _ _ _ _ _ | exact Kd.S_nil _ _ _ _ _, bel_⟩


def spec_l12Tree.l0 : Nat → List (S69) → List (S44) → Int → Option ((List (S69)))
 | 0, _, _, _ => none
 | k + 1, x0, x1, x5 => if x5 < (x1.length : Int) then (if 0 ≤ x5 then ((spec_l3Do.f k x0 ((rd_T44 x1 x5).f2.f0) ((rd_T44 x1 x5).f2.f1) ((rd_T44 x1 x5).f2.f2) ((rd_T44 x1 x5).f2.f3) ((rd_T44 x1 x5).f2.f4)).bind fun t1023 => (spec_l12Tree.l0 k t1023 x1 (wrap64 (x5 + 1)))) else (none)) else ((some (([] : List (S69)) : List (S69))).bind fun y1026 => (if y1026.length + x0.length < 4398046511104 then (some (y1026 ++ x0)) else (none)))
def spec_l12Tree.f (k : Nat) (l0 : List (S69)) (l1 : List (S44)) : Option ((List (S69))) := spec_l12Tree.l0 k l0 l1 0
theorem spec_l12Tree.mono_l : ∀ k, (∀ y0 y1 y2, LeO (spec_l12Tree.l0 k y0 y1 y2) (spec_l12Tree.l0 (k + 1) y0 y1 y2))
 | 0 => fun _ _ _ r h => by simp [spec_l12Tree.l0] at h
 | k + 1 => by
  have ih0 := spec_l12Tree.mono_l k
  ·intro y0 y1 y2
   unfold spec_l12Tree.l0
   repeat' first
   | (with_reducible exact ih0 _ _ _)
   | (with_reducible exact spec_l3Do.mono _ _ _ _ _ _ _)
   | (with_reducible exact LeO.refl _)
   | (with_reducible exact LeO.none _)
   | (with_reducible refine LeO.ite ?_ ?_)
   | (with_reducible refine LeO.bind ?_ (fun _ => ?_))
   | exact ih0 _ _ _
   | exact spec_l3Do.mono _ _ _ _ _ _ _
   | exact LeO.none _
   | refine LeO.ite ?_ ?_
   | refine LeO.bind ?_ (fun _ => ?_)
theorem spec_l12Tree.mono : ∀ a0 a1 k, LeO (spec_l12Tree.f k a0 a1) (spec_l12Tree.f (k + 1) a0 a1) := by
 intro a0 a1 k
 have ih0 := spec_l12Tree.mono_l k
 unfold spec_l12Tree.f
 repeat' first
   | (with_reducible exact ih0 _ _ _)
   | (with_reducible exact spec_l3Do.mono _ _ _ _ _ _ _)
   | (with_reducible exact LeO.refl _)
   | (with_reducible exact LeO.none _)
   | (with_reducible refine LeO.ite ?_ ?_)
   | (with_reducible refine LeO.bind ?_ (fun _ => ?_))
   | exact ih0 _ _ _
   | exact spec_l3Do.mono _ _ _ _ _ _ _
   | exact LeO.none _
   | refine LeO.ite ?_ ?_
   | refine LeO.bind ?_ (fun _ => ?_)
set_option maxHeartbeats 8000000 in
set_option maxRecDepth 100000 in
theorem spec_l12Tree.calls (k : Nat) (P0_ : Nat → Prop) (A0 : Option Addr) (c0 : Nat) (l0 : List (S69)) (A1 : Option Addr) (c1 : Nat) (l1 : List (S44)) (r : List (S69)) (w : World) (hs0 : Kd.V k69 69 w w.heap.size (fun k_ => P0_ k_) (.slice A0 l0.length c0) l0) (hr1 : Kd.C k44 w A1 l1.length l1) (hc1 : l1.length ≤ c1) (h : spec_l12Tree.f k l0 l1 = some r) :
  Calls Tryd.prog 99 #[.slice A0 l0.length c0, .slice A1 l1.length c1] w fun e w' => ∃ v0_ : Value, e = .returned (v0_) ∧ Kd.R k69 69 w' w.heap.size (fun k_ => (w.heap.size ≤ k_)) v0_ r ∧ Below w.heap.size w w' := by
 have hu42 := Tryd.underlying42
 have HO0 := Aside0.mk (show Kd.V k69 69 w w.heap.size (fun k_ => (P0_ k_ ∨ w.heap.size ≤ k_)) (.slice A0 l0.length c0) l0 from Kd.V_mono hs0 (fun k_ hk => .inl hk))
 have HR1 := Aside0.mk hr1
 have HC1 := Aside0.mk hc1
 clear hr1 hc1
 have HB := Aside0.mk (Below.refl w.heap.size w)
 unfold spec_l12Tree.f at h
 have H := h
 clear h
 have H' := Aside0.mk H
 clear H
 go_enter Tryd.func99, Tryd.ntmps99
 go_wp2
 go_loopg [0, 5] k (fun kq v0 v5 w' => ∃ (x0_1 : List (S69)) (x5_1 : Int), v5 = .int .i64 x5_1 ∧ Aside0 (spec_l12Tree.l0 kq x0_1 l1 x5_1 = some r) ∧ Aside0 (kq ≤ k) ∧ Aside0 (Kd.V k69 69 w' w.heap.size (fun k_ => (P0_ k_ ∨ w.heap.size ≤ k_)) v0 x0_1) ∧ Aside0 (Below w.heap.size w w'))
 case atStart => exact ⟨(l0), (0), (si_), H', ⟨Nat.le_refl _⟩, ⟨by (with_reducible repeat (first | apply Kd.V_alloc | apply Kd.V_drewN | apply Kd.V_drew)); exact HO0.out⟩, ⟨bel_⟩⟩
 case round =>
  clear H'
  try clear c1
  try clear p2
  obtain ⟨x0_1, x5_1, rfl, HA, HK1, HO_0, HB⟩ := hrel
  cases gk with
  | zero => exact absurd HA.out (by simp [spec_l12Tree.l0])
  | succ k1 =>
   have H := HA.out
   clear HA
   simp only [spec_l12Tree.l0] at H
   by_cases c3 : x5_1 < (l1.length : Int)
   ·rw [if_pos c3] at H
    have c3b0 : decide (x5_1 < (l1.length : Int)) = true := decide_eq_true c3
    clear c3
    by_cases c4 : 0 ≤ x5_1
    ·rw [if_pos c4] at H
     have c4b0 : decide (0 ≤ x5_1) = true := decide_eq_true c4
     clear c4
     replace H := Option.bind_eq_some_iff.mp H
     obtain ⟨t1023, A50, H⟩ := H
     try dsimp only at H
     have A5 := Aside0.mk A50
     clear A50
     have H' := Aside0.mk H
     clear H
     have p1022 : 0 ≤ (x5_1 : Int) := od_
     have q1022 : x5_1 < (l1.length : Int) := od_
     obtain ⟨ad1022, e1022, hx1022_0, hx1022_1, hx1022_2, hx1022_3, hx1022_4, hx1022_5, hx1022_6⟩ := at_T44 HR1.out x5_1 p1022 q1022
     cases e1022
     replace hx1022_0 := (cb_ HB.out hx1022_0 :)
     replace hx1022_1 := (cb_ HB.out hx1022_1 :)
     replace hx1022_2 := (cb_ HB.out hx1022_2 :)
     replace hx1022_3 := (cb_ HB.out hx1022_3 :)
     replace hx1022_4 := (cb_ HB.out hx1022_4 :)
     replace hx1022_5 := (cb_ HB.out hx1022_5 :)
     replace hx1022_6 := (cb_ HB.out hx1022_6 :)
     replace p1022 := eq_true p1022
     replace q1022 := eq_true q1022
     obtain ⟨Ao6, co6, eo6⟩ := Kd.V_slice HO_0.out
     subst eo6
     go_wp2_with (first | ((with_reducible refine gate_callee (f := 125) rfl ?_); refine gl_ 18 Tryd.func125 #[.slice Ao6 x0_1.length co6, .agg #[.int .i64 ((rd_T44 l1 x5_1).f2.f0), .int .i64 ((rd_T44 l1 x5_1).f2.f1), .int .i64 ((rd_T44 l1 x5_1).f2.f2), .int .i64 ((rd_T44 l1 x5_1).f2.f3), .string ((rd_T44 l1 x5_1).f2.f4)]] ?_; (with_reducible refine (spec_l3Do.calls k1 _ _ x0_1 ((rd_T44 l1 x5_1).f2.f0) ((rd_T44 l1 x5_1).f2.f1) ((rd_T44 l1 x5_1).f2.f2) ((rd_T44 l1 x5_1).f2.f3) ((rd_T44 l1 x5_1).f2.f4) t1023 _ ?side1 ?side2 A5.out).mono ?_); (case side1 => repeat (first | exact (Kd.V_reads' HO_0.out).2.2 | (with_reducible refine Kd.C_alloc ?_ _) | (with_reducible refine Kd.C_drewN ?_ _) | (with_reducible refine Kd.C_drew ?_))); (case side2 => exact (Kd.V_reads' HO_0.out).2.1); rintro e w7 ⟨v1024, rfl, ho0, hb⟩; refine ⟨_, rfl, ?_⟩; have n0_ := Aside0.mk (Kd.V_elder' (by (with_reducible repeat (first | apply Kd.V_alloc | apply Kd.V_drewN | apply Kd.V_drew)); exact HO_0.out) (Kd.R_base ho0) hb); have n1_ := Aside0.mk (Kd.R_lower (Kd.R_newM (M := fun k_ => (w.heap.size ≤ k_)) ho0 (below_size (bel_)) (fun k_ h_ => h_)) (below_size (bel_))); have n2_ := Aside0.mk (below_step (bel_) hb); clear HO_0; clear HB; have HO_0 := n0_; have HO1025 := n1_; have HB := n2_; clear n0_ n1_ n2_; (try clear hb ho0)))
     go_roundg k1
     case measure => have := HK1.out; omega
     case rel => exact ⟨(t1023), (wrap64 (x5_1 + 1)), (si_), H', ⟨by have := HK1.out; omega⟩, ⟨Kd.V_mono (Kd.R_V (by (with_reducible repeat (first | apply Kd.R_alloc | apply Kd.R_drewN | apply Kd.R_drew)); exact Kd.R_mono HO1025.out (fun _ hk => hk.1))) (fun k_ hk => by first | exact ⟨(.inr (hk.1)), hk.2⟩ | exact (.inr (hk)))⟩, ⟨bel_⟩⟩
    ·rw [if_neg c4] at H
     exact absurd H (by simp)
   ·rw [if_neg c3] at H
    have c3b0 : decide (x5_1 < (l1.length : Int)) = false := decide_eq_false c3
    clear c3
    obtain ⟨y1026, hy1026⟩ : ∃ y_ : List (S69), y_ = (([] : List (S69))) := ⟨_, rfl⟩
    replace H : (if y1026.length + x0_1.length < 4398046511104 then (some (y1026 ++ x0_1)) else (none)) = some r := by first | (rw [hy1026]; with_reducible exact H) | (have H2_ := (Option.bind_some _ _).symm.trans H; rw [hy1026]; with_reducible exact H2_) | (have H2_ := (Option.bind_some _ _).symm.trans H; with_reducible exact H2_) | with_reducible exact H | (rw [hy1026]; exact H) | exact H
    have Ny1026 := Aside0.mk hy1026
    clear hy1026
    by_cases c8 : y1026.length + x0_1.length < 4398046511104
    ·rw [if_pos c8] at H
     have LMc8 := Aside0.mk c8
     clear c8
     obtain ⟨y1029, hy1029⟩ : ∃ y_ : List (S69), y_ = (y1026 ++ x0_1) := ⟨_, rfl⟩
     replace H : (some y1029) = some r := by first | (rw [hy1029]; with_reducible exact H) | (have H2_ := (Option.bind_some _ _).symm.trans H; rw [hy1029]; with_reducible exact H2_) | (have H2_ := (Option.bind_some _ _).symm.trans H; with_reducible exact H2_) | with_reducible exact H | (rw [hy1029]; exact H) | exact H
     have Ny1029 := Aside0.mk hy1029
     clear hy1029
     obtain rfl := Option.some.inj H
     go_wp2_with (first | ((with_reducible refine gate_dst (N := 19) rfl ?_); refine Kd.R_lit k69 _ 69 ?hg (N := 19) ?hd (xs := ([] : List (S69))) (inner := []) (ok := fun _ => True) (okp := fun _ => True) ?hr ?hp (fun _ hk => hk) trivial (Below.refl _ _) (Nat.le_refl _) (by simp) ?_; (case hd => rfl); (case hg => rfl); (case hr => first | (go_simp; done) | (go_simp; rfl)); (case hp => exact (Reps.none _ _)); intro v1027 w9 ho10 hb hg_ hnew_; clear hg_ hnew_; (first | rw [← Ny1026.out] at ho10 | (simp only [Int.reduceToNat] at ho10; rw [← Ny1026.out] at ho10)); have n0_ := Aside0.mk (Kd.V_elder' (by (with_reducible repeat (first | apply Kd.V_alloc | apply Kd.V_drewN | apply Kd.V_drew)); exact HO_0.out) (Kd.R_base ho10) hb); have n1_ := Aside0.mk (Kd.R_lower (Kd.R_newM (M := fun k_ => (w.heap.size ≤ k_)) ho10 (below_size (bel_)) (fun k_ h_ => h_)) (below_size (bel_))); have n2_ := Aside0.mk (below_step (bel_) hb); clear HO_0; clear HB; have HO_0 := n0_; have HO1028 := n1_; have HB := n2_; clear n0_ n1_ n2_; clear hb ho10; obtain ⟨Ao12, co12, eo12⟩ := Kd.V_slice HO_0.out; subst eo12) | ((with_reducible refine gate_builtin (b := .append) (xs := #[.tmp 19, .tmp 20]) rfl ?_); at_builtin; refine Kd.R_append_rows k69 (w0 := w) w.heap.size rfl (.tmp 19) (.tmp 20) 62 69 (.agg #[(.int .i64 0), (.int .i64 0), (.string ⟨#[]⟩)]) 32 rfl Tryd.underlying62 info69 rfl (by decide) (by omega) v1027 y1026 x0_1 _ _ _ (fun k_ => (w.heap.size ≤ k_)) (fun _ => False) rfl rfl ?aO ?aR (fun _ _ h => h) (fun _ h => h.elim) ?aF ?aB ?aS ?aL ?_; (case aR => repeat (first | exact (Kd.V_reads' HO_0.out).2.2 | (with_reducible refine Kd.C_alloc ?_ _) | (with_reducible refine Kd.C_drewN ?_ _) | (with_reducible refine Kd.C_drew ?_))); (case aB => exact (bel_)); (case aF => exact (fun k_ hk => (Nat.le_trans (below_size (bel_)) hk))); (case aO => exact (by (with_reducible repeat (first | apply Kd.R_alloc | apply Kd.R_drewN | apply Kd.R_drew)); exact Kd.R_mono HO1028.out (fun _ hk => hk.1))); (case aS => exact (below_size (bel_))); (case aL => have := LMc8.out; omega); intro v1030 w11 ho hb hg hat; rw [← Ny1029.out] at ho; have n0_ := Aside0.mk (Kd.V_afterv (ok := (fun k_ => (P0_ k_ ∨ w.heap.size ≤ k_))) (by (with_reducible repeat (first | apply Kd.V_alloc | apply Kd.V_drewN | apply Kd.V_drew)); exact HO_0.out) hg hat); have n1_ := Aside0.mk (hb); have n2_ := Aside0.mk (ho); clear HO_0; clear HB; clear HO1028; have HO_0 := n0_; have HB := n1_; have HO1031 := n2_; clear n0_ n1_ n2_; clear ho hb hg hat))
     go_ret
     exact ⟨_, fi_, by (with_reducible repeat (first | apply Kd.R_alloc | apply Kd.R_drewN | apply Kd.R_drew)); exact HO1031.out, bel_⟩
    ·rw [if_neg c8] at H
     exact absurd H (by simp)

def spec_LogTree.f (k : Nat) (l0 : List (S44)) : Option ((List (S69))) := (spec_LogOk.f k l0).bind fun t1032 => (if t1032 = true then ((spec_TreeNew.f).bind fun t1033 => ((spec_l12Tree.f k t1033 l0).bind fun t1036 => (some t1036))) else (some (([] : List (S69)))))
theorem spec_LogTree.mono : ∀ a0 k, LeO (spec_LogTree.f k a0) (spec_LogTree.f (k + 1) a0) := by
 intro a0 k
 unfold spec_LogTree.f
 repeat' first
   | (with_reducible exact spec_LogOk.mono _ _)
   | (with_reducible exact spec_l12Tree.mono _ _ _)
   | (with_reducible exact LeO.refl _)
   | (with_reducible exact LeO.none _)
   | (with_reducible refine LeO.ite ?_ ?_)
   | (with_reducible refine LeO.bind ?_ (fun _ => ?_))
   | exact spec_LogOk.mono _ _
   | exact spec_l12Tree.mono _ _ _
   | exact LeO.none _
   | refine LeO.ite ?_ ?_
   | refine LeO.bind ?_ (fun _ => ?_)
set_option maxHeartbeats 8000000 in
set_option maxRecDepth 100000 in
theorem spec_LogTree.calls (k : Nat) (A0 : Option Addr) (c0 : Nat) (l0 : List (S44)) (r : List (S69)) (w : World) (hr0 : Kd.C k44 w A0 l0.length l0) (hc0 : l0.length ≤ c0) (h : spec_LogTree.f k l0 = some r) :
  Calls Tryd.prog 47 #[.slice A0 l0.length c0] w fun e w' => ∃ v0_ : Value, e = .returned (v0_) ∧ Kd.R k69 69 w' w.heap.size (fun _ => True) v0_ r ∧ Below w.heap.size w w' := by
 have HR0 := Aside0.mk hr0
 have HC0 := Aside0.mk hc0
 clear hr0 hc0
 have HB := Aside0.mk (Below.refl w.heap.size w)
 unfold spec_LogTree.f at h
 have H := h
 clear h
 replace H := Option.bind_eq_some_iff.mp H
 obtain ⟨t1032, A20, H⟩ := H
 try dsimp only at H
 have A2 := Aside0.mk A20
 clear A20
 by_cases c3 : t1032 = true
 ·subst c3
  have H1 : ((spec_TreeNew.f).bind fun t1033 => ((spec_l12Tree.f k t1033 l0).bind fun t1036 => (some t1036))) = some r := by rw [if_pos rfl] at H; exact H
  clear H
  have H := H1
  clear H1
  replace H := Option.bind_eq_some_iff.mp H
  obtain ⟨t1033, A40, H⟩ := H
  try dsimp only at H
  have A4 := Aside0.mk A40
  clear A40
  replace H := Option.bind_eq_some_iff.mp H
  obtain ⟨t1036, A50, H⟩ := H
  try dsimp only at H
  have A5 := Aside0.mk A50
  clear A50
  obtain rfl := Option.some.inj H
  go_enter Tryd.func47, Tryd.ntmps47
  go_wp2_with (first | ((with_reducible refine gate_callee (f := 43) rfl ?_); refine gl_ 4 Tryd.func43 #[.slice A0 l0.length c0] ?_; (with_reducible refine (spec_LogOk.calls k _ _ l0 true _ ?side1 ?side2 A2.out).mono ?_); (case side1 => exact cx_ HR0.out); (case side2 => exact HC0.out); rintro e w6 ⟨rfl, hb⟩; refine ⟨_, rfl, ?_⟩; replace HB := Aside0.mk (below_step (bel_) hb); (try clear hb)) | ((with_reducible refine gate_callee (f := 100) rfl ?_); refine gl_ 7 Tryd.func100 #[] ?_; (with_reducible refine (spec_TreeNew.calls  t1033 _ A4.out).mono ?_); rintro e w7 ⟨v1034, rfl, ho0, hb⟩; refine ⟨_, rfl, ?_⟩; have HO1035 := Aside0.mk (Kd.R_lower ho0 (below_size (bel_))); replace HB := Aside0.mk (below_step (bel_) hb); (try clear hb ho0); obtain ⟨Ao8, co8, eo8⟩ := Kd.R_slice HO1035.out; subst eo8) | ((with_reducible refine gate_callee (f := 99) rfl ?_); refine gl_ 9 Tryd.func99 #[.slice Ao8 t1033.length co8, .slice A0 l0.length c0] ?_; (with_reducible refine (spec_l12Tree.calls k (fun k_ => some k_ = (.slice Ao8 t1033.length co8 : Value).ownBlock) _ _ t1033 _ _ l0 t1036 _ ?side1 ?side2 ?side3 A5.out).mono ?_); (case side1 => exact Kd.R_V (Kd.R_tight rfl (HO1035.out))); (case side2 => exact cx_ (Kd.C_below HR0.out HB.out)); (case side3 => exact HC0.out); rintro e w9 ⟨v1037, rfl, ho0, hb⟩; refine ⟨_, rfl, ?_⟩; have HO1038 := Aside0.mk (Kd.R_lower (Kd.R_new' (Kd.R_mono (ok' := fun k_ => True) ho0 (fun _ hk_ => trivial)) (Kd.R_lt (rp_ HO1035.out))) (below_size (bel_))); replace HO1035 := Aside0.mk (Kd.R_elder' (rp_ HO1035.out) (Kd.R_base ho0) hb); replace HB := Aside0.mk (below_step (bel_) hb); (try clear hb ho0)))
  go_ret
  exact ⟨_, fi_, by (with_reducible repeat (first | apply Kd.R_alloc | apply Kd.R_drewN | apply Kd.R_drew)); exact Kd.R_mono HO1038.out (fun _ hk => trivial), bel_⟩
 ·replace c3 := Bool.eq_false_iff.mpr c3
  subst c3
  have H1 : (some (([] : List (S69)))) = some r := by rw [if_neg (show ¬ (false = true) by decide)] at H; exact H
  clear H
  have H := H1
  clear H1
  obtain ⟨y1039, hy1039⟩ : ∃ y_ : List (S69), y_ = (([] : List (S69))) := ⟨_, rfl⟩
  replace H : (some y1039) = some r := by first | (rw [hy1039]; with_reducible exact H) | (have H2_ := (Option.bind_some _ _).symm.trans H; rw [hy1039]; with_reducible exact H2_) | (have H2_ := (Option.bind_some _ _).symm.trans H; with_reducible exact H2_) | with_reducible exact H | (rw [hy1039]; exact H) | exact H
  have Ny1039 := Aside0.mk hy1039
  clear hy1039
  obtain rfl := Option.some.inj H
  go_enter Tryd.func47, Tryd.ntmps47
  go_wp2_with (first | ((with_reducible refine gate_callee (f := 43) rfl ?_); refine gl_ 4 Tryd.func43 #[.slice A0 l0.length c0] ?_; (with_reducible refine (spec_LogOk.calls k _ _ l0 false _ ?side1 ?side2 A2.out).mono ?_); (case side1 => exact cx_ HR0.out); (case side2 => exact HC0.out); rintro e w10 ⟨rfl, hb⟩; refine ⟨_, rfl, ?_⟩; replace HB := Aside0.mk (below_step (bel_) hb); (try clear hb)) | ((with_reducible refine gate_dst (N := 6) rfl ?_); refine Kd.R_lit k69 _ 69 ?hg (N := 6) ?hd (xs := ([] : List (S69))) (inner := []) (ok := fun _ => True) (okp := fun _ => True) ?hr ?hp (fun _ hk => hk) trivial (Below.refl _ _) (Nat.le_refl _) (by simp) ?_; (case hd => rfl); (case hg => rfl); (case hr => first | (go_simp; done) | (go_simp; rfl)); (case hp => exact (Reps.none _ _)); intro v1040 w11 ho12 hb hg_ hnew_; clear hg_ hnew_; (first | rw [← Ny1039.out] at ho12 | (simp only [Int.reduceToNat] at ho12; rw [← Ny1039.out] at ho12)); have HO1041 := Aside0.mk (Kd.R_lower ho12 (below_size (bel_))); replace HB := Aside0.mk (below_step (bel_) hb); clear hb ho12))
  go_ret
  exact ⟨_, fi_, by (with_reducible repeat (first | apply Kd.R_alloc | apply Kd.R_drewN | apply Kd.R_drew)); exact HO1041.out, bel_⟩

def laws_eqRow.f (a0_0 : Int) (a0_1 : Int) (a0_2 : ByteArray) (a1_0 : Int) (a1_1 : Int) (a1_2 : ByteArray) : Option (Bool) := if a0_0 = a1_0 then (if a0_1 = a1_1 then (if a0_2.toList = a1_2.toList then (some true) else (some false)) else (some false)) else (some false)
set_option maxHeartbeats 8000000 in
set_option maxRecDepth 100000 in
theorem laws_eqRow.calls (a0_0 : Int) (a0_1 : Int) (a0_2 : ByteArray) (a1_0 : Int) (a1_1 : Int) (a1_2 : ByteArray) (r : Bool) (w : World) (h : laws_eqRow.f a0_0 a0_1 a0_2 a1_0 a1_1 a1_2 = some r) :
  Calls Tryd.prog 101 #[.agg #[.int .i64 a0_0, .int .i64 a0_1, .string a0_2], .agg #[.int .i64 a1_0, .int .i64 a1_1, .string a1_2]] w fun e w' => e = .returned (.bool r) ∧ Below w.heap.size w w' := by
 have hu69 := Tryd.underlying69
 have HB := Aside0.mk (Below.refl w.heap.size w)
 unfold laws_eqRow.f at h
 have H := h
 clear h
 by_cases c3 : a0_0 = a1_0
 ·rw [if_pos c3] at H
  have c3b0 : (a0_0 == a1_0) = true := beq_iff_eq.mpr c3
  have c3b1 : (a0_0 != a1_0) = false := bne_eq_false_iff_eq.mpr c3
  clear c3
  by_cases c4 : a0_1 = a1_1
  ·rw [if_pos c4] at H
   have c4b0 : (a0_1 == a1_1) = true := beq_iff_eq.mpr c4
   have c4b1 : (a0_1 != a1_1) = false := bne_eq_false_iff_eq.mpr c4
   clear c4
   by_cases c5 : a0_2.toList = a1_2.toList
   ·rw [if_pos c5] at H
    have c5b0 : (a0_2.toList == a1_2.toList) = true := beq_iff_eq.mpr c5
    have c5b1 : (a0_2.toList != a1_2.toList) = false := bne_eq_false_iff_eq.mpr c5
    clear c5
    obtain rfl := Option.some.inj H
    go_enter Tryd.func101, Tryd.ntmps101
    go_wp2_with (first | ((with_reducible refine gate_dst (N := 2) rfl ?_); refine bx_ 2 (#[.int .i64 a0_0, .int .i64 a0_1, .string a0_2]) 69 ?_; intro gb1069 hg w6 hbox hb; have n0_ := Aside0.mk (below_step (bel_) hb); have n1_ := Aside0.mk (hbox); have n2_ := Aside0.mk ((by rw [hg]; exact (below_size (bel_)) : w.heap.size ≤ gb1069)); have n3_ := Aside0.mk ((by rw [hg]; exact (below_size (bel_)) : w.heap.size ≤ gb1069)); clear HB; have HB := n0_; have BK1069 := n1_; have GW1069 := n2_; have GE1069 := n3_; clear n0_ n1_ n2_ n3_; clear hb hbox hg) | ((with_reducible refine gate_dst (N := 3) rfl ?_); refine bx_ 3 (#[.int .i64 a1_0, .int .i64 a1_1, .string a1_2]) 69 ?_; intro gb1070 hg w7 hbox hb; have n0_ := Aside0.mk (bb_ BK1069.out hb); have n1_ := Aside0.mk (below_step (bel_) hb); have n2_ := Aside0.mk (hbox); have n3_ := Aside0.mk ((by rw [hg]; exact (below_size (bel_)) : w.heap.size ≤ gb1070)); have n4_ := Aside0.mk ((by rw [hg]; exact (below_size (bel_)) : w.heap.size ≤ gb1070)); have n5_ := Aside0.mk ((by rw [hg]; exact Nat.ne_of_lt (blk_lt (g := gb1069) (o := .cells #[.int .i64 a0_0, .int .i64 a0_1, .string a0_2] 69 (0, 0)) (bp_ BK1069.out)) : gb1069 ≠ gb1070)); have n6_ := Aside0.mk ((by rw [hg]; exact Nat.ne_of_gt (blk_lt (g := gb1069) (o := .cells #[.int .i64 a0_0, .int .i64 a0_1, .string a0_2] 69 (0, 0)) (bp_ BK1069.out)) : gb1070 ≠ gb1069)); clear BK1069; clear HB; have BK1069 := n0_; have HB := n1_; have BK1070 := n2_; have GW1070 := n3_; have GE1070 := n4_; have NB1069_1070 := n5_; have NB1070_1069 := n6_; clear n0_ n1_ n2_ n3_ n4_ n5_ n6_; clear hb hbox hg; have hnb8 := NB1069_1070.out; have hnc8 := NB1070_1069.out; have hcz9_0 := cz_ BK1069.out 0 (.int .i64 a0_0); have hcz9_1 := cz_ BK1069.out 1 (.int .i64 a0_1); have hcz9_2 := cz_ BK1069.out 2 (.string a0_2); have hfz9_0 := blk_frozen BK1069.out 0; have hfz9_1 := blk_frozen BK1069.out 1; have hfz9_2 := blk_frozen BK1069.out 2; have hcz10_0 := cz_ BK1070.out 0 (.int .i64 a1_0); have hcz10_1 := cz_ BK1070.out 1 (.int .i64 a1_1); have hcz10_2 := cz_ BK1070.out 2 (.string a1_2); have hfz10_0 := blk_frozen BK1070.out 0; have hfz10_1 := blk_frozen BK1070.out 1; have hfz10_2 := blk_frozen BK1070.out 2))
    go_ret
    exact ⟨fi_, bel_⟩
   ·rw [if_neg c5] at H
    have c5b0 : (a0_2.toList == a1_2.toList) = false := beq_eq_false_iff_ne.mpr c5
    have c5b1 : (a0_2.toList != a1_2.toList) = true := bne_iff_ne.mpr c5
    obtain rfl := Option.some.inj H
    go_enter Tryd.func101, Tryd.ntmps101
    go_wp2_with (first | ((with_reducible refine gate_dst (N := 2) rfl ?_); refine bx_ 2 (#[.int .i64 a0_0, .int .i64 a0_1, .string a0_2]) 69 ?_; intro gb1069 hg w11 hbox hb; have n0_ := Aside0.mk (below_step (bel_) hb); have n1_ := Aside0.mk (hbox); have n2_ := Aside0.mk ((by rw [hg]; exact (below_size (bel_)) : w.heap.size ≤ gb1069)); have n3_ := Aside0.mk ((by rw [hg]; exact (below_size (bel_)) : w.heap.size ≤ gb1069)); clear HB; have HB := n0_; have BK1069 := n1_; have GW1069 := n2_; have GE1069 := n3_; clear n0_ n1_ n2_ n3_; clear hb hbox hg) | ((with_reducible refine gate_dst (N := 3) rfl ?_); refine bx_ 3 (#[.int .i64 a1_0, .int .i64 a1_1, .string a1_2]) 69 ?_; intro gb1070 hg w12 hbox hb; have n0_ := Aside0.mk (bb_ BK1069.out hb); have n1_ := Aside0.mk (below_step (bel_) hb); have n2_ := Aside0.mk (hbox); have n3_ := Aside0.mk ((by rw [hg]; exact (below_size (bel_)) : w.heap.size ≤ gb1070)); have n4_ := Aside0.mk ((by rw [hg]; exact (below_size (bel_)) : w.heap.size ≤ gb1070)); have n5_ := Aside0.mk ((by rw [hg]; exact Nat.ne_of_lt (blk_lt (g := gb1069) (o := .cells #[.int .i64 a0_0, .int .i64 a0_1, .string a0_2] 69 (0, 0)) (bp_ BK1069.out)) : gb1069 ≠ gb1070)); have n6_ := Aside0.mk ((by rw [hg]; exact Nat.ne_of_gt (blk_lt (g := gb1069) (o := .cells #[.int .i64 a0_0, .int .i64 a0_1, .string a0_2] 69 (0, 0)) (bp_ BK1069.out)) : gb1070 ≠ gb1069)); clear BK1069; clear HB; have BK1069 := n0_; have HB := n1_; have BK1070 := n2_; have GW1070 := n3_; have GE1070 := n4_; have NB1069_1070 := n5_; have NB1070_1069 := n6_; clear n0_ n1_ n2_ n3_ n4_ n5_ n6_; clear hb hbox hg; have hnb13 := NB1069_1070.out; have hnc13 := NB1070_1069.out; have hcz14_0 := cz_ BK1069.out 0 (.int .i64 a0_0); have hcz14_1 := cz_ BK1069.out 1 (.int .i64 a0_1); have hcz14_2 := cz_ BK1069.out 2 (.string a0_2); have hfz14_0 := blk_frozen BK1069.out 0; have hfz14_1 := blk_frozen BK1069.out 1; have hfz14_2 := blk_frozen BK1069.out 2; have hcz15_0 := cz_ BK1070.out 0 (.int .i64 a1_0); have hcz15_1 := cz_ BK1070.out 1 (.int .i64 a1_1); have hcz15_2 := cz_ BK1070.out 2 (.string a1_2); have hfz15_0 := blk_frozen BK1070.out 0; have hfz15_1 := blk_frozen BK1070.out 1; have hfz15_2 := blk_frozen BK1070.out 2))
    go_ret
    exact ⟨fi_, bel_⟩
  ·rw [if_neg c4] at H
   have c4b0 : (a0_1 == a1_1) = false := beq_eq_false_iff_ne.mpr c4
   have c4b1 : (a0_1 != a1_1) = true := bne_iff_ne.mpr c4
   obtain rfl := Option.some.inj H
   go_enter Tryd.func101, Tryd.ntmps101
   go_wp2_with (first | ((with_reducible refine gate_dst (N := 2) rfl ?_); refine bx_ 2 (#[.int .i64 a0_0, .int .i64 a0_1, .string a0_2]) 69 ?_; intro gb1069 hg w16 hbox hb; have n0_ := Aside0.mk (below_step (bel_) hb); have n1_ := Aside0.mk (hbox); have n2_ := Aside0.mk ((by rw [hg]; exact (below_size (bel_)) : w.heap.size ≤ gb1069)); have n3_ := Aside0.mk ((by rw [hg]; exact (below_size (bel_)) : w.heap.size ≤ gb1069)); clear HB; have HB := n0_; have BK1069 := n1_; have GW1069 := n2_; have GE1069 := n3_; clear n0_ n1_ n2_ n3_; clear hb hbox hg) | ((with_reducible refine gate_dst (N := 3) rfl ?_); refine bx_ 3 (#[.int .i64 a1_0, .int .i64 a1_1, .string a1_2]) 69 ?_; intro gb1070 hg w17 hbox hb; have n0_ := Aside0.mk (bb_ BK1069.out hb); have n1_ := Aside0.mk (below_step (bel_) hb); have n2_ := Aside0.mk (hbox); have n3_ := Aside0.mk ((by rw [hg]; exact (below_size (bel_)) : w.heap.size ≤ gb1070)); have n4_ := Aside0.mk ((by rw [hg]; exact (below_size (bel_)) : w.heap.size ≤ gb1070)); have n5_ := Aside0.mk ((by rw [hg]; exact Nat.ne_of_lt (blk_lt (g := gb1069) (o := .cells #[.int .i64 a0_0, .int .i64 a0_1, .string a0_2] 69 (0, 0)) (bp_ BK1069.out)) : gb1069 ≠ gb1070)); have n6_ := Aside0.mk ((by rw [hg]; exact Nat.ne_of_gt (blk_lt (g := gb1069) (o := .cells #[.int .i64 a0_0, .int .i64 a0_1, .string a0_2] 69 (0, 0)) (bp_ BK1069.out)) : gb1070 ≠ gb1069)); clear BK1069; clear HB; have BK1069 := n0_; have HB := n1_; have BK1070 := n2_; have GW1070 := n3_; have GE1070 := n4_; have NB1069_1070 := n5_; have NB1070_1069 := n6_; clear n0_ n1_ n2_ n3_ n4_ n5_ n6_; clear hb hbox hg; have hnb18 := NB1069_1070.out; have hnc18 := NB1070_1069.out; have hcz19_0 := cz_ BK1069.out 0 (.int .i64 a0_0); have hcz19_1 := cz_ BK1069.out 1 (.int .i64 a0_1); have hcz19_2 := cz_ BK1069.out 2 (.string a0_2); have hfz19_0 := blk_frozen BK1069.out 0; have hfz19_1 := blk_frozen BK1069.out 1; have hfz19_2 := blk_frozen BK1069.out 2; have hcz20_0 := cz_ BK1070.out 0 (.int .i64 a1_0); have hcz20_1 := cz_ BK1070.out 1 (.int .i64 a1_1); have hcz20_2 := cz_ BK1070.out 2 (.string a1_2); have hfz20_0 := blk_frozen BK1070.out 0; have hfz20_1 := blk_frozen BK1070.out 1; have hfz20_2 := blk_frozen BK1070.out 2))
   go_ret
   exact ⟨fi_, bel_⟩
 ·rw [if_neg c3] at H
  have c3b0 : (a0_0 == a1_0) = false := beq_eq_false_iff_ne.mpr c3
  have c3b1 : (a0_0 != a1_0) = true := bne_iff_ne.mpr c3
  obtain rfl := Option.some.inj H
  go_enter Tryd.func101, Tryd.ntmps101
  go_wp2_with (first | ((with_reducible refine gate_dst (N := 2) rfl ?_); refine bx_ 2 (#[.int .i64 a0_0, .int .i64 a0_1, .string a0_2]) 69 ?_; intro gb1069 hg w21 hbox hb; have n0_ := Aside0.mk (below_step (bel_) hb); have n1_ := Aside0.mk (hbox); have n2_ := Aside0.mk ((by rw [hg]; exact (below_size (bel_)) : w.heap.size ≤ gb1069)); have n3_ := Aside0.mk ((by rw [hg]; exact (below_size (bel_)) : w.heap.size ≤ gb1069)); clear HB; have HB := n0_; have BK1069 := n1_; have GW1069 := n2_; have GE1069 := n3_; clear n0_ n1_ n2_ n3_; clear hb hbox hg) | ((with_reducible refine gate_dst (N := 3) rfl ?_); refine bx_ 3 (#[.int .i64 a1_0, .int .i64 a1_1, .string a1_2]) 69 ?_; intro gb1070 hg w22 hbox hb; have n0_ := Aside0.mk (bb_ BK1069.out hb); have n1_ := Aside0.mk (below_step (bel_) hb); have n2_ := Aside0.mk (hbox); have n3_ := Aside0.mk ((by rw [hg]; exact (below_size (bel_)) : w.heap.size ≤ gb1070)); have n4_ := Aside0.mk ((by rw [hg]; exact (below_size (bel_)) : w.heap.size ≤ gb1070)); have n5_ := Aside0.mk ((by rw [hg]; exact Nat.ne_of_lt (blk_lt (g := gb1069) (o := .cells #[.int .i64 a0_0, .int .i64 a0_1, .string a0_2] 69 (0, 0)) (bp_ BK1069.out)) : gb1069 ≠ gb1070)); have n6_ := Aside0.mk ((by rw [hg]; exact Nat.ne_of_gt (blk_lt (g := gb1069) (o := .cells #[.int .i64 a0_0, .int .i64 a0_1, .string a0_2] 69 (0, 0)) (bp_ BK1069.out)) : gb1070 ≠ gb1069)); clear BK1069; clear HB; have BK1069 := n0_; have HB := n1_; have BK1070 := n2_; have GW1070 := n3_; have GE1070 := n4_; have NB1069_1070 := n5_; have NB1070_1069 := n6_; clear n0_ n1_ n2_ n3_ n4_ n5_ n6_; clear hb hbox hg; have hnb23 := NB1069_1070.out; have hnc23 := NB1070_1069.out; have hcz24_0 := cz_ BK1069.out 0 (.int .i64 a0_0); have hcz24_1 := cz_ BK1069.out 1 (.int .i64 a0_1); have hcz24_2 := cz_ BK1069.out 2 (.string a0_2); have hfz24_0 := blk_frozen BK1069.out 0; have hfz24_1 := blk_frozen BK1069.out 1; have hfz24_2 := blk_frozen BK1069.out 2; have hcz25_0 := cz_ BK1070.out 0 (.int .i64 a1_0); have hcz25_1 := cz_ BK1070.out 1 (.int .i64 a1_1); have hcz25_2 := cz_ BK1070.out 2 (.string a1_2); have hfz25_0 := blk_frozen BK1070.out 0; have hfz25_1 := blk_frozen BK1070.out 1; have hfz25_2 := blk_frozen BK1070.out 2))
  go_ret
  exact ⟨fi_, bel_⟩

def laws_eqRowS.l0 : Nat → List (S69) → List (S69) → Int → Option (Bool)
 | 0, _, _, _ => none
 | k + 1, x0, x1, x5 => if x5 < (x0.length : Int) then (if 0 ≤ x5 then (if x5 < (x1.length : Int) then ((laws_eqRow.f ((rd_T69 x0 x5).f0) ((rd_T69 x0 x5).f1) ((rd_T69 x0 x5).f2) ((rd_T69 x1 x5).f0) ((rd_T69 x1 x5).f1) ((rd_T69 x1 x5).f2)).bind fun t1073 => (if t1073 = true then (laws_eqRowS.l0 k x0 x1 (wrap64 (x5 + 1))) else (some false))) else (none)) else (none)) else (some true)
def laws_eqRowS.f (k : Nat) (l0 : List (S69)) (l1 : List (S69)) : Option (Bool) := if (l0.length : Int) = (l1.length : Int) then (laws_eqRowS.l0 k l0 l1 0) else (some false)
theorem laws_eqRowS.mono_l : ∀ k, (∀ y0 y1 y2, LeO (laws_eqRowS.l0 k y0 y1 y2) (laws_eqRowS.l0 (k + 1) y0 y1 y2))
 | 0 => fun _ _ _ r h => by simp [laws_eqRowS.l0] at h
 | k + 1 => by
  have ih0 := laws_eqRowS.mono_l k
  ·intro y0 y1 y2
   unfold laws_eqRowS.l0
   repeat' first
   | (with_reducible exact ih0 _ _ _)
   | (with_reducible exact LeO.refl _)
   | (with_reducible exact LeO.none _)
   | (with_reducible refine LeO.ite ?_ ?_)
   | (with_reducible refine LeO.bind ?_ (fun _ => ?_))
   | exact ih0 _ _ _
   | exact LeO.none _
   | refine LeO.ite ?_ ?_
   | refine LeO.bind ?_ (fun _ => ?_)
theorem laws_eqRowS.mono : ∀ a0 a1 k, LeO (laws_eqRowS.f k a0 a1) (laws_eqRowS.f (k + 1) a0 a1) := by
 intro a0 a1 k
 have ih0 := laws_eqRowS.mono_l k
 unfold laws_eqRowS.f
 repeat' first
   | (with_reducible exact ih0 _ _ _)
   | (with_reducible exact LeO.refl _)
   | (with_reducible exact LeO.none _)
   | (with_reducible refine LeO.ite ?_ ?_)
   | (with_reducible refine LeO.bind ?_ (fun _ => ?_))
   | exact ih0 _ _ _
   | exact LeO.none _
   | refine LeO.ite ?_ ?_
   | refine LeO.bind ?_ (fun _ => ?_)
def laws_eqRowS.T6 : Bool × List (List Nat × List Nat) := (true, [([], []), ([], []), ([0, 1], [0, 1]), ([2], [2]), ([], []), ([], []), ([4, 5], [4, 5]), ([6], [6]), ([3, 7], [3, 7]), ([8], [8])])
def laws_eqRowS.B6 : List Nat := [0, 0, 3, 7, 0, 0, 48, 112, 255, 511]
theorem laws_eqRowS.tab6 : rtab .any (opsOf Tryd.f51 6) = laws_eqRowS.T6 := by kernel_rfl
theorem laws_eqRowS.bits6 : waitsOk laws_eqRowS.T6.2 laws_eqRowS.B6 = true := by kernel_rfl
set_option maxHeartbeats 8000000 in
set_option maxRecDepth 100000 in
theorem laws_eqRowS.calls (k : Nat) (A0 : Option Addr) (c0 : Nat) (l0 : List (S69)) (A1 : Option Addr) (c1 : Nat) (l1 : List (S69)) (r : Bool) (w : World) (hr0 : Kd.C k69 w A0 l0.length l0) (hc0 : l0.length ≤ c0) (hr1 : Kd.C k69 w A1 l1.length l1) (hc1 : l1.length ≤ c1) (h : laws_eqRowS.f k l0 l1 = some r) :
  Calls Tryd.prog 51 #[.slice A0 l0.length c0, .slice A1 l1.length c1] w fun e w' => e = .returned (.bool r) ∧ Below w.heap.size w w' := by
 have hu69 := Tryd.underlying69
 have HR0 := Aside0.mk hr0
 have HC0 := Aside0.mk hc0
 clear hr0 hc0
 have HR1 := Aside0.mk hr1
 have HC1 := Aside0.mk hc1
 clear hr1 hc1
 have HB := Aside0.mk (Below.refl w.heap.size w)
 unfold laws_eqRowS.f at h
 have H := h
 clear h
 by_cases c3 : (l0.length : Int) = (l1.length : Int)
 ·rw [if_pos c3] at H
  have c3b0 : ((l0.length : Int) == (l1.length : Int)) = true := beq_iff_eq.mpr c3
  have c3b1 : ((l0.length : Int) != (l1.length : Int)) = false := bne_eq_false_iff_eq.mpr c3
  have c3b2 : (l0.length == l1.length) = true := by first | simpa using c3 | (simp at c3 ⊢; omega)
  clear c3
  have H' := Aside0.mk H
  clear H
  go_enter Tryd.func51, Tryd.ntmps51
  go_wp2
  go_loopg [5] k (fun kq v5 w' => ∃ (x5_1 : Int), v5 = .int .i64 x5_1 ∧ Aside0 (laws_eqRowS.l0 kq l0 l1 x5_1 = some r) ∧ Aside0 (kq ≤ k) ∧ Aside0 (Below w.heap.size w w'))
  case atStart => exact ⟨(0), (si_), H', ⟨Nat.le_refl _⟩, ⟨bel_⟩⟩
  case round =>
   clear H'
   try clear c1
   try clear p2
   try clear c3
   try clear c3b0
   try clear c3b1
   try clear c3b2
   obtain ⟨x5_1, rfl, HA, HK1, HB⟩ := hrel
   cases gk with
   | zero => exact absurd HA.out (by simp [laws_eqRowS.l0])
   | succ k1 =>
    have H := HA.out
    clear HA
    simp only [laws_eqRowS.l0] at H
    by_cases c4 : x5_1 < (l0.length : Int)
    ·rw [if_pos c4] at H
     have c4b0 : decide (x5_1 < (l0.length : Int)) = true := decide_eq_true c4
     clear c4
     by_cases c5 : 0 ≤ x5_1
     ·rw [if_pos c5] at H
      have c5b0 : decide (0 ≤ x5_1) = true := decide_eq_true c5
      clear c5
      by_cases c6 : x5_1 < (l1.length : Int)
      ·rw [if_pos c6] at H
       have c6b0 : decide (x5_1 < (l1.length : Int)) = true := decide_eq_true c6
       clear c6
       replace H := Option.bind_eq_some_iff.mp H
       obtain ⟨t1073, A70, H⟩ := H
       try dsimp only at H
       have A7 := Aside0.mk A70
       clear A70
       by_cases c8 : t1073 = true
       ·subst c8
        have H1 : (laws_eqRowS.l0 k1 l0 l1 (wrap64 (x5_1 + 1))) = some r := by rw [if_pos rfl] at H; exact H
        clear H
        have H := H1
        clear H1
        have H' := Aside0.mk H
        clear H
        try go_wp2
        have n0_ := Aside0.mk (below_drew1 HB.out)
        clear HB
        have HB := n0_
        clear n0_
        have p1071 : 0 ≤ (x5_1 : Int) := od_
        have q1071 : x5_1 < (l0.length : Int) := od_
        obtain ⟨ad1071, e1071, hx1071_0, hx1071_1, hx1071_2⟩ := at_T69 HR0.out x5_1 p1071 q1071
        have hw1071_2 := hx1071_2
        have hw1071_1 := hx1071_1
        have hw1071_0 := hx1071_0
        cases e1071
        replace hx1071_0 := (cb_ HB.out hx1071_0 :)
        replace hx1071_1 := (cb_ HB.out hx1071_1 :)
        replace hx1071_2 := (cb_ HB.out hx1071_2 :)
        replace p1071 := eq_true p1071
        replace q1071 := eq_true q1071
        have p1072 : 0 ≤ (x5_1 : Int) := od_
        have q1072 : x5_1 < (l1.length : Int) := od_
        obtain ⟨ad1072, e1072, hx1072_0, hx1072_1, hx1072_2⟩ := at_T69 HR1.out x5_1 p1072 q1072
        have hw1072_2 := hx1072_2
        have hw1072_1 := hx1072_1
        have hw1072_0 := hx1072_0
        cases e1072
        replace hx1072_0 := (cb_ HB.out hx1072_0 :)
        replace hx1072_1 := (cb_ HB.out hx1072_1 :)
        replace hx1072_2 := (cb_ HB.out hx1072_2 :)
        replace p1072 := eq_true p1072
        replace q1072 := eq_true q1072
        refine start_ (n := 10) (S := fun w' => w'.cell? (ad1071.add ((x5_1).toNat * 3)) = some (.int .i64 ((rd_T69 l0 x5_1).f0)) ∧ w'.cell? ⟨(ad1071.add ((x5_1).toNat * 3)).block, (ad1071.add ((x5_1).toNat * 3)).off + 1, none⟩ = some (.int .i64 ((rd_T69 l0 x5_1).f1)) ∧ w'.cell? ⟨(ad1071.add ((x5_1).toNat * 3)).block, (ad1071.add ((x5_1).toNat * 3)).off + 2, none⟩ = some (.string ((rd_T69 l0 x5_1).f2)) ∧ w'.cell? (ad1072.add ((x5_1).toNat * 3)) = some (.int .i64 ((rd_T69 l1 x5_1).f0)) ∧ w'.cell? ⟨(ad1072.add ((x5_1).toNat * 3)).block, (ad1072.add ((x5_1).toNat * 3)).off + 1, none⟩ = some (.int .i64 ((rd_T69 l1 x5_1).f1)) ∧ w'.cell? ⟨(ad1072.add ((x5_1).toNat * 3)).block, (ad1072.add ((x5_1).toNat * 3)).off + 2, none⟩ = some (.string ((rd_T69 l1 x5_1).f2))) (ds := []) #[false, false, false, false, false, false, false, false, false, false] (by kernel_rfl) rfl rfl ⟨((cb_ HB.out hw1071_0 :)), ((cb_ HB.out hw1071_1 :)), ((cb_ HB.out hw1071_2 :)), ((cb_ HB.out hw1072_0 :)), ((cb_ HB.out hw1072_1 :)), ((cb_ HB.out hw1072_2 :))⟩ (fun hHeld => ?_); refine with_tabW laws_eqRowS.tab6 laws_eqRowS.bits6 (fun HT_ HW_ => ?_)
        generalize wr.drew = w9 at HB hx1071_0 hx1071_1 hx1071_2 hx1072_0 hx1072_1 hx1072_2 hHeld ⊢
        refine pa_ 0 17 ?_
        refine pa_ 1 18 ?_
        refine pa_ 2 19 ?_
        refine pa_ 4 21 ?_
        refine pa_ 5 22 ?_
        refine pa_ 6 23 ?_
        refine ta6_ 3 20 hHeld ?_
        refine ta6_ 7 24 hHeld ?_
        refine on_ 8 25 (fun K hK => ?_)
        refine goes_ Tryd.func101 (by kernel_rfl) rfl #[.agg #[.int .i64 ((rd_T69 l0 x5_1).f0), .int .i64 ((rd_T69 l0 x5_1).f1), .string ((rd_T69 l0 x5_1).f2)], .agg #[.int .i64 ((rd_T69 l1 x5_1).f0), .int .i64 ((rd_T69 l1 x5_1).f1), .string ((rd_T69 l1 x5_1).f2)]] (by rfl) rfl rfl ar_ ?_
        with_reducible refine (laws_eqRow.calls ((rd_T69 l0 x5_1).f0) ((rd_T69 l0 x5_1).f1) ((rd_T69 l0 x5_1).f2) ((rd_T69 l1 x5_1).f0) ((rd_T69 l1 x5_1).f1) ((rd_T69 l1 x5_1).f2) true _ A7.out).mono ?_
        rintro e w10 ⟨rfl, hb⟩
        refine ⟨_, rfl, ?_⟩
        have n0_ := Aside0.mk (below_step (bel_) hb)
        clear HB
        have HB := n0_
        clear n0_
        (try clear hb)
        (try clear hb2)
        (try clear hk)
        (try clear hi)
        refine hK.out _ _ ⟨((cb_ HB.out hw1071_0 :)), ((cb_ HB.out hw1071_1 :)), ((cb_ HB.out hw1071_2 :)), ((cb_ HB.out hw1072_0 :)), ((cb_ HB.out hw1072_1 :)), ((cb_ HB.out hw1072_2 :))⟩ (fun hHeld => ?_)
        clear hK K
        refine no_ 25 ?_
        refine pa_ 9 26 ?_
        refine done_ (done_of HT_.out (by kernel_rfl)) ?_
        try go_wp2
        go_roundg k1
        case measure => have := HK1.out; omega
        case rel => exact ⟨(wrap64 (x5_1 + 1)), (si_), H', ⟨by have := HK1.out; omega⟩, ⟨bel_⟩⟩
       ·replace c8 := Bool.eq_false_iff.mpr c8
        subst c8
        have H1 : (some false) = some r := by rw [if_neg (show ¬ (false = true) by decide)] at H; exact H
        clear H
        have H := H1
        clear H1
        obtain rfl := Option.some.inj H
        try go_wp2
        have n0_ := Aside0.mk (below_drew1 HB.out)
        clear HB
        have HB := n0_
        clear n0_
        have p1071 : 0 ≤ (x5_1 : Int) := od_
        have q1071 : x5_1 < (l0.length : Int) := od_
        obtain ⟨ad1071, e1071, hx1071_0, hx1071_1, hx1071_2⟩ := at_T69 HR0.out x5_1 p1071 q1071
        have hw1071_2 := hx1071_2
        have hw1071_1 := hx1071_1
        have hw1071_0 := hx1071_0
        cases e1071
        replace hx1071_0 := (cb_ HB.out hx1071_0 :)
        replace hx1071_1 := (cb_ HB.out hx1071_1 :)
        replace hx1071_2 := (cb_ HB.out hx1071_2 :)
        replace p1071 := eq_true p1071
        replace q1071 := eq_true q1071
        have p1072 : 0 ≤ (x5_1 : Int) := od_
        have q1072 : x5_1 < (l1.length : Int) := od_
        obtain ⟨ad1072, e1072, hx1072_0, hx1072_1, hx1072_2⟩ := at_T69 HR1.out x5_1 p1072 q1072
        have hw1072_2 := hx1072_2
        have hw1072_1 := hx1072_1
        have hw1072_0 := hx1072_0
        cases e1072
        replace hx1072_0 := (cb_ HB.out hx1072_0 :)
        replace hx1072_1 := (cb_ HB.out hx1072_1 :)
        replace hx1072_2 := (cb_ HB.out hx1072_2 :)
        replace p1072 := eq_true p1072
        replace q1072 := eq_true q1072
        refine start_ (n := 10) (S := fun w' => w'.cell? (ad1071.add ((x5_1).toNat * 3)) = some (.int .i64 ((rd_T69 l0 x5_1).f0)) ∧ w'.cell? ⟨(ad1071.add ((x5_1).toNat * 3)).block, (ad1071.add ((x5_1).toNat * 3)).off + 1, none⟩ = some (.int .i64 ((rd_T69 l0 x5_1).f1)) ∧ w'.cell? ⟨(ad1071.add ((x5_1).toNat * 3)).block, (ad1071.add ((x5_1).toNat * 3)).off + 2, none⟩ = some (.string ((rd_T69 l0 x5_1).f2)) ∧ w'.cell? (ad1072.add ((x5_1).toNat * 3)) = some (.int .i64 ((rd_T69 l1 x5_1).f0)) ∧ w'.cell? ⟨(ad1072.add ((x5_1).toNat * 3)).block, (ad1072.add ((x5_1).toNat * 3)).off + 1, none⟩ = some (.int .i64 ((rd_T69 l1 x5_1).f1)) ∧ w'.cell? ⟨(ad1072.add ((x5_1).toNat * 3)).block, (ad1072.add ((x5_1).toNat * 3)).off + 2, none⟩ = some (.string ((rd_T69 l1 x5_1).f2))) (ds := []) #[false, false, false, false, false, false, false, false, false, false] (by kernel_rfl) rfl rfl ⟨((cb_ HB.out hw1071_0 :)), ((cb_ HB.out hw1071_1 :)), ((cb_ HB.out hw1071_2 :)), ((cb_ HB.out hw1072_0 :)), ((cb_ HB.out hw1072_1 :)), ((cb_ HB.out hw1072_2 :))⟩ (fun hHeld => ?_); refine with_tabW laws_eqRowS.tab6 laws_eqRowS.bits6 (fun HT_ HW_ => ?_)
        generalize wr.drew = w11 at HB hx1071_0 hx1071_1 hx1071_2 hx1072_0 hx1072_1 hx1072_2 hHeld ⊢
        refine pa_ 0 17 ?_
        refine pa_ 1 18 ?_
        refine pa_ 2 19 ?_
        refine pa_ 4 21 ?_
        refine pa_ 5 22 ?_
        refine pa_ 6 23 ?_
        refine ta6_ 3 20 hHeld ?_
        refine ta6_ 7 24 hHeld ?_
        refine on_ 8 25 (fun K hK => ?_)
        refine goes_ Tryd.func101 (by kernel_rfl) rfl #[.agg #[.int .i64 ((rd_T69 l0 x5_1).f0), .int .i64 ((rd_T69 l0 x5_1).f1), .string ((rd_T69 l0 x5_1).f2)], .agg #[.int .i64 ((rd_T69 l1 x5_1).f0), .int .i64 ((rd_T69 l1 x5_1).f1), .string ((rd_T69 l1 x5_1).f2)]] (by rfl) rfl rfl ar_ ?_
        with_reducible refine (laws_eqRow.calls ((rd_T69 l0 x5_1).f0) ((rd_T69 l0 x5_1).f1) ((rd_T69 l0 x5_1).f2) ((rd_T69 l1 x5_1).f0) ((rd_T69 l1 x5_1).f1) ((rd_T69 l1 x5_1).f2) false _ A7.out).mono ?_
        rintro e w12 ⟨rfl, hb⟩
        refine ⟨_, rfl, ?_⟩
        have n0_ := Aside0.mk (below_step (bel_) hb)
        clear HB
        have HB := n0_
        clear n0_
        (try clear hb)
        (try clear hb2)
        (try clear hk)
        (try clear hi)
        refine hK.out _ _ ⟨((cb_ HB.out hw1071_0 :)), ((cb_ HB.out hw1071_1 :)), ((cb_ HB.out hw1071_2 :)), ((cb_ HB.out hw1072_0 :)), ((cb_ HB.out hw1072_1 :)), ((cb_ HB.out hw1072_2 :))⟩ (fun hHeld => ?_)
        clear hK K
        refine no_ 25 ?_
        refine pa_ 9 26 ?_
        refine done_ (done_of HT_.out (by kernel_rfl)) ?_
        try go_wp2
        go_ret
        exact ⟨fi_, bel_⟩
      ·rw [if_neg c6] at H
       exact absurd H (by simp)
     ·rw [if_neg c5] at H
      exact absurd H (by simp)
    ·rw [if_neg c4] at H
     have c4b0 : decide (x5_1 < (l0.length : Int)) = false := decide_eq_false c4
     clear c4
     obtain rfl := Option.some.inj H
     go_wp2
     go_ret
     exact ⟨fi_, bel_⟩
 ·rw [if_neg c3] at H
  have c3b0 : ((l0.length : Int) == (l1.length : Int)) = false := beq_eq_false_iff_ne.mpr c3
  have c3b1 : ((l0.length : Int) != (l1.length : Int)) = true := bne_iff_ne.mpr c3
  have c3b2 : (l0.length == l1.length) = false := by first | simpa using c3 | (simp at c3 ⊢; omega)
  obtain rfl := Option.some.inj H
  go_enter Tryd.func51, Tryd.ntmps51
  go_wp2
  go_ret
  exact ⟨fi_, bel_⟩

def laws_markRowS.l0 : Nat → List (S69) → Int → Int → Option (Int × (List (S69)))
 | 0, _, _, _ => none
 | k + 1, x0, x1, x5 => if x5 < (x0.length : Int) then (if 0 ≤ x5 then ((some (x0.set (x5 : Int).toNat (⟨x1, (rd_T69 x0 x5).f1, (rd_T69 x0 x5).f2⟩ : S69) : List (S69))).bind fun y1074 => ((some (y1074.set (x5 : Int).toNat (⟨(rd_T69 y1074 x5).f0, wrap64 (x1 + 1), (rd_T69 y1074 x5).f2⟩ : S69) : List (S69))).bind fun y1075 => ((laws_markText.f k (wrap64 ((wrap64 (x1 + 1)) + 1))).bind fun t1076 => (laws_markRowS.l0 k (y1075.set (x5 : Int).toNat (⟨(rd_T69 y1075 x5).f0, (rd_T69 y1075 x5).f1, t1076⟩ : S69)) (wrap64 ((wrap64 ((wrap64 (x1 + 1)) + 1)) + 1)) (wrap64 (x5 + 1)))))) else (none)) else (some (x1, x0))
def laws_markRowS.f (k : Nat) (l0 : List (S69)) (a1 : Int) : Option (Int × (List (S69))) := laws_markRowS.l0 k l0 a1 0
theorem laws_markRowS.mono_l : ∀ k, (∀ y0 y1 y2, LeO (laws_markRowS.l0 k y0 y1 y2) (laws_markRowS.l0 (k + 1) y0 y1 y2))
 | 0 => fun _ _ _ r h => by simp [laws_markRowS.l0] at h
 | k + 1 => by
  have ih0 := laws_markRowS.mono_l k
  ·intro y0 y1 y2
   unfold laws_markRowS.l0
   repeat' first
   | (with_reducible exact ih0 _ _ _)
   | (with_reducible exact laws_markText.mono _ _)
   | (with_reducible exact LeO.refl _)
   | (with_reducible exact LeO.none _)
   | (with_reducible refine LeO.ite ?_ ?_)
   | (with_reducible refine LeO.bind ?_ (fun _ => ?_))
   | exact ih0 _ _ _
   | exact laws_markText.mono _ _
   | exact LeO.none _
   | refine LeO.ite ?_ ?_
   | refine LeO.bind ?_ (fun _ => ?_)
theorem laws_markRowS.mono : ∀ a0 a1 k, LeO (laws_markRowS.f k a0 a1) (laws_markRowS.f (k + 1) a0 a1) := by
 intro a0 a1 k
 have ih0 := laws_markRowS.mono_l k
 unfold laws_markRowS.f
 repeat' first
   | (with_reducible exact ih0 _ _ _)
   | (with_reducible exact laws_markText.mono _ _)
   | (with_reducible exact LeO.refl _)
   | (with_reducible exact LeO.none _)
   | (with_reducible refine LeO.ite ?_ ?_)
   | (with_reducible refine LeO.bind ?_ (fun _ => ?_))
   | exact ih0 _ _ _
   | exact laws_markText.mono _ _
   | exact LeO.none _
   | refine LeO.ite ?_ ?_
   | refine LeO.bind ?_ (fun _ => ?_)
set_option maxHeartbeats 8000000 in
set_option maxRecDepth 100000 in
theorem laws_markRowS.calls (k : Nat) (P0_ : Nat → Prop) (u9000_ : Value) (l0 : List (S69)) (a1 : Int) (r1 : Int) (r2 : List (S69)) (w0 w : World) (hB : Below w0.heap.size w0 w) (ho0 : Kd.R k69 69 w w0.heap.size P0_ u9000_ l0) (h : laws_markRowS.f k l0 a1 = some (r1, r2)) :
  Calls Tryd.prog 54 #[u9000_, .int .i64 a1] w fun e w' => e = .returned (.int .i64 r1) ∧ Kd.R k69 69 w' w0.heap.size (fun k_ => (P0_ k_ ∨ w.heap.size ≤ k_)) u9000_ r2 ∧ Below w0.heap.size w0 w' ∧ Kept w w' (fun k_ => P0_ k_) := by
 have HO0 := Aside0.mk (show Kd.R k69 69 w w0.heap.size (fun k_ => (P0_ k_ ∨ w.heap.size ≤ k_)) u9000_ l0 from Kd.R_mono ho0 (fun k_ hk => (.inl hk)))
 have HK := Aside0.mk (Kept.refl w (fun k_ => P0_ k_))
 have HW0 := Aside0.mk hB.size
 have HB := Aside0.mk hB
 clear hB
 unfold laws_markRowS.f at h
 have H := h
 clear h
 have H' := Aside0.mk H
 clear H
 go_enter Tryd.func54, Tryd.ntmps54
 go_wp2
 go_loopg [1, 5] k (fun kq v1 v5 w' => ∃ (x0_1 : List (S69)) (x1_1 : Int) (x5_1 : Int), v1 = .int .i64 x1_1 ∧ v5 = .int .i64 x5_1 ∧ Aside0 (laws_markRowS.l0 kq x0_1 x1_1 x5_1 = some (r1, r2)) ∧ Aside0 (kq ≤ k) ∧ Aside0 (Kd.R k69 69 w' w0.heap.size (fun k_ => (P0_ k_ ∨ w.heap.size ≤ k_)) u9000_ x0_1) ∧ Aside0 (Kept w w' (fun k_ => P0_ k_)) ∧ Aside0 (Below w0.heap.size w0 w'))
 case atStart => exact ⟨(l0), (a1), (0), (si_), (si_), H', ⟨Nat.le_refl _⟩, ⟨by (with_reducible repeat (first | apply Kd.R_alloc | apply Kd.R_drewN | apply Kd.R_drew)); exact HO0.out⟩, ⟨by repeat (first | (with_reducible first | exact HK.out | apply Kept.alloc | apply Kept.drewN | apply Kept.drew) | exact HK.out)⟩, ⟨bel_⟩⟩
 case round =>
  clear H'
  try clear p2
  obtain ⟨x0_1, x1_1, x5_1, rfl, rfl, HA, HK1, HO_0, HK, HB⟩ := hrel
  cases gk with
  | zero => exact absurd HA.out (by simp [laws_markRowS.l0])
  | succ k1 =>
   have H := HA.out
   clear HA
   simp only [laws_markRowS.l0] at H
   by_cases c3 : x5_1 < (x0_1.length : Int)
   ·rw [if_pos c3] at H
    have c3b0 : decide (x5_1 < (x0_1.length : Int)) = true := decide_eq_true c3
    clear c3
    by_cases c4 : 0 ≤ x5_1
    ·rw [if_pos c4] at H
     have c4b0 : decide (0 ≤ x5_1) = true := decide_eq_true c4
     clear c4
     obtain ⟨y1074, hy1074⟩ : ∃ y_ : List (S69), y_ = (x0_1.set (x5_1 : Int).toNat (⟨x1_1, (rd_T69 x0_1 x5_1).f1, (rd_T69 x0_1 x5_1).f2⟩ : S69)) := ⟨_, rfl⟩
     replace H : ((some (y1074.set (x5_1 : Int).toNat (⟨(rd_T69 y1074 x5_1).f0, wrap64 (x1_1 + 1), (rd_T69 y1074 x5_1).f2⟩ : S69) : List (S69))).bind fun y1075 => ((laws_markText.f k1 (wrap64 ((wrap64 (x1_1 + 1)) + 1))).bind fun t1076 => (laws_markRowS.l0 k1 (y1075.set (x5_1 : Int).toNat (⟨(rd_T69 y1075 x5_1).f0, (rd_T69 y1075 x5_1).f1, t1076⟩ : S69)) (wrap64 ((wrap64 ((wrap64 (x1_1 + 1)) + 1)) + 1)) (wrap64 (x5_1 + 1))))) = some (r1, r2) := by first | (rw [hy1074]; with_reducible exact H) | (have H2_ := (Option.bind_some _ _).symm.trans H; rw [hy1074]; with_reducible exact H2_) | (have H2_ := (Option.bind_some _ _).symm.trans H; with_reducible exact H2_) | with_reducible exact H | (rw [hy1074]; exact H) | exact H
     have Ny1074 := Aside0.mk hy1074
     clear hy1074
     obtain ⟨y1075, hy1075⟩ : ∃ y_ : List (S69), y_ = (y1074.set (x5_1 : Int).toNat (⟨(rd_T69 y1074 x5_1).f0, wrap64 (x1_1 + 1), (rd_T69 y1074 x5_1).f2⟩ : S69)) := ⟨_, rfl⟩
     replace H : ((laws_markText.f k1 (wrap64 ((wrap64 (x1_1 + 1)) + 1))).bind fun t1076 => (laws_markRowS.l0 k1 (y1075.set (x5_1 : Int).toNat (⟨(rd_T69 y1075 x5_1).f0, (rd_T69 y1075 x5_1).f1, t1076⟩ : S69)) (wrap64 ((wrap64 ((wrap64 (x1_1 + 1)) + 1)) + 1)) (wrap64 (x5_1 + 1)))) = some (r1, r2) := by first | (rw [hy1075]; with_reducible exact H) | (have H2_ := (Option.bind_some _ _).symm.trans H; rw [hy1075]; with_reducible exact H2_) | (have H2_ := (Option.bind_some _ _).symm.trans H; with_reducible exact H2_) | with_reducible exact H | (rw [hy1075]; exact H) | exact H
     have Ny1075 := Aside0.mk hy1075
     clear hy1075
     replace H := Option.bind_eq_some_iff.mp H
     obtain ⟨t1076, A70, H⟩ := H
     try dsimp only at H
     have A7 := Aside0.mk A70
     clear A70
     obtain ⟨y1077, hy1077⟩ : ∃ y_ : List (S69), y_ = (y1075.set (x5_1 : Int).toNat (⟨(rd_T69 y1075 x5_1).f0, (rd_T69 y1075 x5_1).f1, t1076⟩ : S69)) := ⟨_, rfl⟩
     replace H : (laws_markRowS.l0 k1 y1077 (wrap64 ((wrap64 ((wrap64 (x1_1 + 1)) + 1)) + 1)) (wrap64 (x5_1 + 1))) = some (r1, r2) := by first | (rw [hy1077]; with_reducible exact H) | (have H2_ := (Option.bind_some _ _).symm.trans H; rw [hy1077]; with_reducible exact H2_) | (have H2_ := (Option.bind_some _ _).symm.trans H; with_reducible exact H2_) | with_reducible exact H | (rw [hy1077]; exact H) | exact H
     have Ny1077 := Aside0.mk hy1077
     clear hy1077
     have H' := Aside0.mk H
     clear H
     obtain ⟨Ao9, co9, eo9⟩ := Kd.R_slice HO_0.out
     subst eo9
     have p5 : 0 ≤ (x5_1 : Int) := od_
     have q5 : (x5_1 : Int) < ((x0_1.length : Int) : Int) := od_
     obtain ⟨go5, co5, eo5, gb5, gl5, cl5, HG5⟩ := Kd.R_form HO_0.out (by omega)
     (first | cases eo5 | (injection eo5 with ea_ en_ ec_; (first | subst ea_ | (injection ea_ with ea_; subst ea_)); subst ec_; clear en_))
     have GB5 := Aside0.mk gb5
     have GG5 := Aside0.mk HG5
     clear gb5 gl5 HG5
     have HMgo5 := Aside0.mk (show (P0_ go5 ∨ w.heap.size ≤ go5) from (HO_0.out.1 _ rfl))
     obtain ⟨ce5, hcl5, hM5, hcc5, hfr5⟩ := Kd.R_elem HO_0.out z69 (x5_1 : Int) p5 q5
     obtain rfl := k69_openM hM5
     have hx5_0 : wr.cell? ⟨go5, (x5_1 : Int).toNat * 3, none⟩ = some (.int .i64 ((rd_T69 x0_1 x5_1).f0)) := hcc5 0 _ rfl
     have hx5_1 : wr.cell? ⟨go5, (x5_1 : Int).toNat * 3 + 1, none⟩ = some (.int .i64 ((rd_T69 x0_1 x5_1).f1)) := hcc5 1 _ rfl
     have hx5_2 : wr.cell? ⟨go5, (x5_1 : Int).toNat * 3 + 2, none⟩ = some (.string ((rd_T69 x0_1 x5_1).f2)) := hcc5 2 _ rfl
     have hf5_0 : wr.frozen? ⟨go5, (x5_1 : Int).toNat * 3, none⟩ = false := hfr5 0
     have hf5_1 : wr.frozen? ⟨go5, (x5_1 : Int).toNat * 3 + 1, none⟩ = false := hfr5 1
     have hf5_2 : wr.frozen? ⟨go5, (x5_1 : Int).toNat * 3 + 2, none⟩ = false := hfr5 2
     clear hcl5 hcc5 hfr5 hM5
     replace p5 := eq_true p5
     replace q5 := eq_true q5
     have HX10 := Aside0.mk (show Kd.R k69 69 wr w0.heap.size (fun k_ => (P0_ k_ ∨ w.heap.size ≤ k_)) (.slice (some ⟨go5, 0, none⟩) x0_1.length co9) x0_1 from (rp_ HO_0.out))
     obtain ⟨ce10, hcl10, hM10, hcc10, hfr10⟩ := Kd.R_elem HX10.out z69 (x5_1 : Int) (od_) (by have h_ : (x5_1 : Int) < ((x0_1.length : Int) : Int) := od_; first | exact h_ | (have e_ := (Kd.R_reads' HO_0.out).1; omega) | simpa using h_)
     obtain rfl := k69_openM hM10
     have HP10 := Kd.R_seg HX10.out (x5_1 : Int) (od_) (by have h_ : (x5_1 : Int) < ((x0_1.length : Int) : Int) := od_; first | exact h_ | (have e_ := (Kd.R_reads' HO_0.out).1; omega) | simpa using h_) (seg := [.int .i64 x1_1]) (j := 0) hcl10 hcc10 (show 1 ≤ 3 from by decide) (x' := (⟨x1_1, (rd_T69 x0_1 x5_1).f1, (rd_T69 x0_1 x5_1).f2⟩ : S69)) (k69_mkM _ _ _ (⟨x1_1, (rd_T69 x0_1 x5_1).f1, (rd_T69 x0_1 x5_1).f2⟩ : S69) ) (fun _ hk => hk)
     have hx10_0 := hcc10 0 _ rfl
     (try simp only [show (k69).sz = 3 from rfl, Nat.mul_one, Nat.add_zero] at hx10_0)
     have hf10_0 := hfr10 0
     (try simp only [show (k69).sz = 3 from rfl, Nat.mul_one, Nat.add_zero] at hf10_0)
     clear hcl10 hcc10 hfr10 hM10
     go_wp2_with (first | ((with_reducible refine gate_store (t := 3) (p := 16) rfl ?_); refine store_event (t := 3) (p := 16) (v := ?vo_w11) (w1 := (wr.setCell ⟨go5, (x5_1 : Int).toNat * 3, none⟩ (.int .i64 x1_1))) ?hg ?ho ?hn ?hr ?_; (case ho => rfl); (case hg => rfl); (case hn => rfl); (case hr => first | (go_simp; done) | (go_simp; rfl)); intro w11 hw; have hg : wr.grownBy w11 (some go5) := (by rw [hw]; exact HP10.2); have hp_ : Kd.R k69 69 w11 w0.heap.size (fun k_ => (P0_ k_ ∨ w.heap.size ≤ k_)) (.slice (some ⟨go5, 0, none⟩) x0_1.length co9) y1074 := (by rw [hw, Ny1074.out]; exact HP10.1); clear HP10; have n0_ := Aside0.mk (hp_); have n1_ := Aside0.mk ((by rw [hw]; exact below_set (HB.out) GB5.out : Below w0.heap.size w0 w11)); have n2_ := Aside0.mk (Kept.of_grown (S := (fun k_ => P0_ k_)) hg (by repeat (first | (with_reducible first | exact HK.out | apply Kept.alloc | apply Kept.drewN | apply Kept.drew) | exact HK.out)) (fun k_ e_ => (HO_0.out.1 k_ e_))); clear HO_0; clear HB; clear HK; have HO_0 := n0_; have HB := n1_; have HK := n2_; clear n0_ n1_ n2_; clear hg hw hp_; have p6 : 0 ≤ (x5_1 : Int) := od_; have q6 : (x5_1 : Int) < ((x0_1.length : Int) : Int) := od_; obtain ⟨ce6, hcl6, hM6, hcc6, hfr6⟩ := Kd.R_elem HO_0.out z69 (x5_1 : Int) p6 q6; obtain rfl := k69_openM hM6; have hx6_0 : w11.cell? ⟨go5, (x5_1 : Int).toNat * 3, none⟩ = some (.int .i64 ((rd_T69 y1074 x5_1).f0)) := hcc6 0 _ rfl; have hx6_1 : w11.cell? ⟨go5, (x5_1 : Int).toNat * 3 + 1, none⟩ = some (.int .i64 ((rd_T69 y1074 x5_1).f1)) := hcc6 1 _ rfl; have hx6_2 : w11.cell? ⟨go5, (x5_1 : Int).toNat * 3 + 2, none⟩ = some (.string ((rd_T69 y1074 x5_1).f2)) := hcc6 2 _ rfl; have hf6_0 : w11.frozen? ⟨go5, (x5_1 : Int).toNat * 3, none⟩ = false := hfr6 0; have hf6_1 : w11.frozen? ⟨go5, (x5_1 : Int).toNat * 3 + 1, none⟩ = false := hfr6 1; have hf6_2 : w11.frozen? ⟨go5, (x5_1 : Int).toNat * 3 + 2, none⟩ = false := hfr6 2; clear hcl6 hcc6 hfr6 hM6; replace p6 := eq_true p6; replace q6 := eq_true q6; have HX12 := Aside0.mk (show Kd.R k69 69 w11 w0.heap.size (fun k_ => (P0_ k_ ∨ w.heap.size ≤ k_)) (.slice (some ⟨go5, 0, none⟩) x0_1.length co9) y1074 from (rp_ HO_0.out)); obtain ⟨ce12, hcl12, hM12, hcc12, hfr12⟩ := Kd.R_elem HX12.out z69 (x5_1 : Int) (od_) (by have h_ : (x5_1 : Int) < ((x0_1.length : Int) : Int) := od_; first | exact h_ | (have e_ := (Kd.R_reads' HO_0.out).1; omega) | simpa using h_); obtain rfl := k69_openM hM12; have HP12 := Kd.R_seg HX12.out (x5_1 : Int) (od_) (by have h_ : (x5_1 : Int) < ((x0_1.length : Int) : Int) := od_; first | exact h_ | (have e_ := (Kd.R_reads' HO_0.out).1; omega) | simpa using h_) (seg := [.int .i64 (wrap64 (x1_1 + 1))]) (j := 1) hcl12 hcc12 (show 2 ≤ 3 from by decide) (x' := (⟨(rd_T69 y1074 x5_1).f0, wrap64 (x1_1 + 1), (rd_T69 y1074 x5_1).f2⟩ : S69)) (k69_mkM _ _ _ (⟨(rd_T69 y1074 x5_1).f0, wrap64 (x1_1 + 1), (rd_T69 y1074 x5_1).f2⟩ : S69) ) (fun _ hk => hk); have hx12_1 := hcc12 1 _ rfl; (try simp only [show (k69).sz = 3 from rfl, Nat.mul_one, Nat.add_zero] at hx12_1); have hf12_1 := hfr12 1; (try simp only [show (k69).sz = 3 from rfl, Nat.mul_one, Nat.add_zero] at hf12_1); clear hcl12 hcc12 hfr12 hM12) | ((with_reducible refine gate_store (t := 3) (p := 23) rfl ?_); refine store_event (t := 3) (p := 23) (v := ?vo_w13) (w1 := (w11.setCell ⟨go5, (x5_1 : Int).toNat * 3 + 1, none⟩ (.int .i64 (wrap64 (x1_1 + 1))))) ?hg ?ho ?hn ?hr ?_; (case ho => rfl); (case hg => rfl); (case hn => rfl); (case hr => first | (go_simp; done) | (go_simp; rfl)); intro w13 hw; have hg : w11.grownBy w13 (some go5) := (by rw [hw]; exact HP12.2); have hp_ : Kd.R k69 69 w13 w0.heap.size (fun k_ => (P0_ k_ ∨ w.heap.size ≤ k_)) (.slice (some ⟨go5, 0, none⟩) x0_1.length co9) y1075 := (by rw [hw, Ny1075.out]; exact HP12.1); clear HP12; have n0_ := Aside0.mk (hp_); have n1_ := Aside0.mk ((by rw [hw]; exact below_set (HB.out) GB5.out : Below w0.heap.size w0 w13)); have n2_ := Aside0.mk (Kept.of_grown (S := (fun k_ => P0_ k_)) hg (by repeat (first | (with_reducible first | exact HK.out | apply Kept.alloc | apply Kept.drewN | apply Kept.drew) | exact HK.out)) (fun k_ e_ => (HO_0.out.1 k_ e_))); clear HO_0; clear HB; clear HK; have HO_0 := n0_; have HB := n1_; have HK := n2_; clear n0_ n1_ n2_; clear hg hw hp_) | ((with_reducible refine gate_callee (f := 103) rfl ?_); refine gl_ 29 Tryd.func103 #[.int .i64 (wrap64 ((wrap64 (x1_1 + 1)) + 1))] ?_; (with_reducible refine (laws_markText.calls k1 (wrap64 ((wrap64 (x1_1 + 1)) + 1)) t1076 _ A7.out).mono ?_); rintro e w14 ⟨rfl, hb⟩; refine ⟨_, rfl, ?_⟩; replace HO_0 := Aside0.mk (Kd.R_below (rp_ HO_0.out) hb); replace HK := Aside0.mk (Kept.below (S := (fun k_ => P0_ k_)) (by repeat (first | (with_reducible first | exact HK.out | apply Kept.alloc | apply Kept.drewN | apply Kept.drew) | exact HK.out)) hb); replace HB := Aside0.mk (below_step (bel_) hb); (try clear hb); have p8 : 0 ≤ (x5_1 : Int) := od_; have q8 : (x5_1 : Int) < ((x0_1.length : Int) : Int) := od_; obtain ⟨ce8, hcl8, hM8, hcc8, hfr8⟩ := Kd.R_elem HO_0.out z69 (x5_1 : Int) p8 q8; obtain rfl := k69_openM hM8; have hx8_0 : w14.cell? ⟨go5, (x5_1 : Int).toNat * 3, none⟩ = some (.int .i64 ((rd_T69 y1075 x5_1).f0)) := hcc8 0 _ rfl; have hx8_1 : w14.cell? ⟨go5, (x5_1 : Int).toNat * 3 + 1, none⟩ = some (.int .i64 ((rd_T69 y1075 x5_1).f1)) := hcc8 1 _ rfl; have hx8_2 : w14.cell? ⟨go5, (x5_1 : Int).toNat * 3 + 2, none⟩ = some (.string ((rd_T69 y1075 x5_1).f2)) := hcc8 2 _ rfl; have hf8_0 : w14.frozen? ⟨go5, (x5_1 : Int).toNat * 3, none⟩ = false := hfr8 0; have hf8_1 : w14.frozen? ⟨go5, (x5_1 : Int).toNat * 3 + 1, none⟩ = false := hfr8 1; have hf8_2 : w14.frozen? ⟨go5, (x5_1 : Int).toNat * 3 + 2, none⟩ = false := hfr8 2; clear hcl8 hcc8 hfr8 hM8; replace p8 := eq_true p8; replace q8 := eq_true q8; have HX15 := Aside0.mk (show Kd.R k69 69 w14 w0.heap.size (fun k_ => (P0_ k_ ∨ w.heap.size ≤ k_)) (.slice (some ⟨go5, 0, none⟩) x0_1.length co9) y1075 from (rp_ HO_0.out)); obtain ⟨ce15, hcl15, hM15, hcc15, hfr15⟩ := Kd.R_elem HX15.out z69 (x5_1 : Int) (od_) (by have h_ : (x5_1 : Int) < ((x0_1.length : Int) : Int) := od_; first | exact h_ | (have e_ := (Kd.R_reads' HO_0.out).1; omega) | simpa using h_); obtain rfl := k69_openM hM15; have HP15 := Kd.R_seg HX15.out (x5_1 : Int) (od_) (by have h_ : (x5_1 : Int) < ((x0_1.length : Int) : Int) := od_; first | exact h_ | (have e_ := (Kd.R_reads' HO_0.out).1; omega) | simpa using h_) (seg := [.string t1076]) (j := 2) hcl15 hcc15 (show 3 ≤ 3 from by decide) (x' := (⟨(rd_T69 y1075 x5_1).f0, (rd_T69 y1075 x5_1).f1, t1076⟩ : S69)) (k69_mkM _ _ _ (⟨(rd_T69 y1075 x5_1).f0, (rd_T69 y1075 x5_1).f1, t1076⟩ : S69) ) (fun _ hk => hk); have hx15_2 := hcc15 2 _ rfl; (try simp only [show (k69).sz = 3 from rfl, Nat.mul_one, Nat.add_zero] at hx15_2); have hf15_2 := hfr15 2; (try simp only [show (k69).sz = 3 from rfl, Nat.mul_one, Nat.add_zero] at hf15_2); clear hcl15 hcc15 hfr15 hM15) | ((with_reducible refine gate_store (t := 9) (p := 31) rfl ?_); refine store_event (t := 9) (p := 31) (v := ?vo_w16) (w1 := (w14.setCell ⟨go5, (x5_1 : Int).toNat * 3 + 2, none⟩ (.string t1076))) ?hg ?ho ?hn ?hr ?_; (case ho => rfl); (case hg => rfl); (case hn => rfl); (case hr => first | (go_simp; done) | (go_simp; rfl)); intro w16 hw; have hg : w14.grownBy w16 (some go5) := (by rw [hw]; exact HP15.2); have hp_ : Kd.R k69 69 w16 w0.heap.size (fun k_ => (P0_ k_ ∨ w.heap.size ≤ k_)) (.slice (some ⟨go5, 0, none⟩) x0_1.length co9) y1077 := (by rw [hw, Ny1077.out]; exact HP15.1); clear HP15; have n0_ := Aside0.mk (hp_); have n1_ := Aside0.mk ((by rw [hw]; exact below_set (HB.out) GB5.out : Below w0.heap.size w0 w16)); have n2_ := Aside0.mk (Kept.of_grown (S := (fun k_ => P0_ k_)) hg (by repeat (first | (with_reducible first | exact HK.out | apply Kept.alloc | apply Kept.drewN | apply Kept.drew) | exact HK.out)) (fun k_ e_ => (HO_0.out.1 k_ e_))); clear HO_0; clear HB; clear HK; have HO_0 := n0_; have HB := n1_; have HK := n2_; clear n0_ n1_ n2_; clear hg hw hp_))
     go_roundg k1
     case measure => have := HK1.out; omega
     case rel => exact ⟨(y1077), (wrap64 ((wrap64 ((wrap64 (x1_1 + 1)) + 1)) + 1)), (wrap64 (x5_1 + 1)), (si_), (si_), H', ⟨by have := HK1.out; omega⟩, ⟨by (with_reducible repeat (first | apply Kd.R_alloc | apply Kd.R_drewN | apply Kd.R_drew)); exact HO_0.out⟩, ⟨by repeat (first | (with_reducible first | exact HK.out | apply Kept.alloc | apply Kept.drewN | apply Kept.drew) | exact HK.out)⟩, ⟨bel_⟩⟩
    ·rw [if_neg c4] at H
     exact absurd H (by simp)
   ·rw [if_neg c3] at H
    have c3b0 : decide (x5_1 < (x0_1.length : Int)) = false := decide_eq_false c3
    clear c3
    simp only [Option.some.injEq, Prod.mk.injEq] at H
    obtain ⟨rfl, rfl⟩ := H
    obtain ⟨Ao17, co17, eo17⟩ := Kd.R_slice HO_0.out
    subst eo17
    go_wp2
    go_ret
    exact ⟨fi_, by (with_reducible repeat (first | apply Kd.R_alloc | apply Kd.R_drewN | apply Kd.R_drew)); exact HO_0.out, bel_, by repeat (first | (with_reducible first | exact HK.out | apply Kept.alloc | apply Kept.drewN | apply Kept.drew) | exact HK.out)⟩

def laws_heldRowS.l0 : Nat → List (S69) → Int → Int → Option (Int)
 | 0, _, _, _ => none
 | k + 1, x0, x1, x5 => if x5 < (x0.length : Int) then (if 0 ≤ x5 then (if ((rd_T69 x0 x5).f0) = x1 then (if ((rd_T69 x0 x5).f1) = (wrap64 (x1 + 1)) then ((laws_markText.f k (wrap64 ((wrap64 (x1 + 1)) + 1))).bind fun t1081 => (if ((rd_T69 x0 x5).f2).toList = t1081.toList then (laws_heldRowS.l0 k x0 (wrap64 ((wrap64 ((wrap64 (x1 + 1)) + 1)) + 1)) (wrap64 (x5 + 1))) else (some (-1)))) else (some (-1))) else (some (-1))) else (none)) else (some x1)
def laws_heldRowS.f (k : Nat) (l0 : List (S69)) (a1 : Int) : Option (Int) := laws_heldRowS.l0 k l0 a1 0
theorem laws_heldRowS.mono_l : ∀ k, (∀ y0 y1 y2, LeO (laws_heldRowS.l0 k y0 y1 y2) (laws_heldRowS.l0 (k + 1) y0 y1 y2))
 | 0 => fun _ _ _ r h => by simp [laws_heldRowS.l0] at h
 | k + 1 => by
  have ih0 := laws_heldRowS.mono_l k
  ·intro y0 y1 y2
   unfold laws_heldRowS.l0
   repeat' first
   | (with_reducible exact ih0 _ _ _)
   | (with_reducible exact laws_markText.mono _ _)
   | (with_reducible exact LeO.refl _)
   | (with_reducible exact LeO.none _)
   | (with_reducible refine LeO.ite ?_ ?_)
   | (with_reducible refine LeO.bind ?_ (fun _ => ?_))
   | exact ih0 _ _ _
   | exact laws_markText.mono _ _
   | exact LeO.none _
   | refine LeO.ite ?_ ?_
   | refine LeO.bind ?_ (fun _ => ?_)
theorem laws_heldRowS.mono : ∀ a0 a1 k, LeO (laws_heldRowS.f k a0 a1) (laws_heldRowS.f (k + 1) a0 a1) := by
 intro a0 a1 k
 have ih0 := laws_heldRowS.mono_l k
 unfold laws_heldRowS.f
 repeat' first
   | (with_reducible exact ih0 _ _ _)
   | (with_reducible exact laws_markText.mono _ _)
   | (with_reducible exact LeO.refl _)
   | (with_reducible exact LeO.none _)
   | (with_reducible refine LeO.ite ?_ ?_)
   | (with_reducible refine LeO.bind ?_ (fun _ => ?_))
   | exact ih0 _ _ _
   | exact laws_markText.mono _ _
   | exact LeO.none _
   | refine LeO.ite ?_ ?_
   | refine LeO.bind ?_ (fun _ => ?_)
def laws_heldRowS.T10 : Bool × List (List Nat × List Nat) := (true, [([], []), ([], []), ([0, 1], [0, 1]), ([2], [2]), ([3], [3]), ([], []), ([5], [5]), ([4, 6], [4, 6])])
def laws_heldRowS.B10 : List Nat := [0, 0, 3, 7, 15, 0, 32, 127]
theorem laws_heldRowS.tab10 : rtab .any (opsOf Tryd.f55 10) = laws_heldRowS.T10 := by kernel_rfl
theorem laws_heldRowS.bits10 : waitsOk laws_heldRowS.T10.2 laws_heldRowS.B10 = true := by kernel_rfl
set_option maxHeartbeats 8000000 in
set_option maxRecDepth 100000 in
theorem laws_heldRowS.calls (k : Nat) (A0 : Option Addr) (c0 : Nat) (l0 : List (S69)) (a1 : Int) (r : Int) (w : World) (hr0 : Kd.C k69 w A0 l0.length l0) (hc0 : l0.length ≤ c0) (h : laws_heldRowS.f k l0 a1 = some r) :
  Calls Tryd.prog 55 #[.slice A0 l0.length c0, .int .i64 a1] w fun e w' => e = .returned (.int .i64 r) ∧ Below w.heap.size w w' := by
 have HR0 := Aside0.mk hr0
 have HC0 := Aside0.mk hc0
 clear hr0 hc0
 have HB := Aside0.mk (Below.refl w.heap.size w)
 unfold laws_heldRowS.f at h
 have H := h
 clear h
 have H' := Aside0.mk H
 clear H
 go_enter Tryd.func55, Tryd.ntmps55
 go_wp2
 go_loopg [1, 5] k (fun kq v1 v5 w' => ∃ (x1_1 : Int) (x5_1 : Int), v1 = .int .i64 x1_1 ∧ v5 = .int .i64 x5_1 ∧ Aside0 (laws_heldRowS.l0 kq l0 x1_1 x5_1 = some r) ∧ Aside0 (kq ≤ k) ∧ Aside0 (Below w.heap.size w w'))
 case atStart => exact ⟨(a1), (0), (si_), (si_), H', ⟨Nat.le_refl _⟩, ⟨bel_⟩⟩
 case round =>
  clear H'
  try clear p2
  obtain ⟨x1_1, x5_1, rfl, rfl, HA, HK1, HB⟩ := hrel
  cases gk with
  | zero => exact absurd HA.out (by simp [laws_heldRowS.l0])
  | succ k1 =>
   have H := HA.out
   clear HA
   simp only [laws_heldRowS.l0] at H
   by_cases c3 : x5_1 < (l0.length : Int)
   ·rw [if_pos c3] at H
    have c3b0 : decide (x5_1 < (l0.length : Int)) = true := decide_eq_true c3
    clear c3
    by_cases c4 : 0 ≤ x5_1
    ·rw [if_pos c4] at H
     have c4b0 : decide (0 ≤ x5_1) = true := decide_eq_true c4
     clear c4
     by_cases c5 : ((rd_T69 l0 x5_1).f0) = x1_1
     ·rw [if_pos c5] at H
      have c5b0 : (((rd_T69 l0 x5_1).f0) == x1_1) = true := beq_iff_eq.mpr c5
      have c5b1 : (((rd_T69 l0 x5_1).f0) != x1_1) = false := bne_eq_false_iff_eq.mpr c5
      clear c5
      by_cases c6 : ((rd_T69 l0 x5_1).f1) = (wrap64 (x1_1 + 1))
      ·rw [if_pos c6] at H
       have c6b0 : (((rd_T69 l0 x5_1).f1) == (wrap64 (x1_1 + 1))) = true := beq_iff_eq.mpr c6
       have c6b1 : (((rd_T69 l0 x5_1).f1) != (wrap64 (x1_1 + 1))) = false := bne_eq_false_iff_eq.mpr c6
       clear c6
       replace H := Option.bind_eq_some_iff.mp H
       obtain ⟨t1081, A70, H⟩ := H
       try dsimp only at H
       have A7 := Aside0.mk A70
       clear A70
       by_cases c8 : ((rd_T69 l0 x5_1).f2).toList = t1081.toList
       ·rw [if_pos c8] at H
        have c8b0 : (((rd_T69 l0 x5_1).f2).toList == t1081.toList) = true := beq_iff_eq.mpr c8
        have c8b1 : (((rd_T69 l0 x5_1).f2).toList != t1081.toList) = false := bne_eq_false_iff_eq.mpr c8
        clear c8
        have H' := Aside0.mk H
        clear H
        have p1078 : 0 ≤ (x5_1 : Int) := od_
        have q1078 : x5_1 < (l0.length : Int) := od_
        obtain ⟨ad1078, e1078, hx1078_0, hx1078_1, hx1078_2⟩ := at_T69 HR0.out x5_1 p1078 q1078
        cases e1078
        replace hx1078_0 := (cb_ HB.out hx1078_0 :)
        replace hx1078_1 := (cb_ HB.out hx1078_1 :)
        replace hx1078_2 := (cb_ HB.out hx1078_2 :)
        replace p1078 := eq_true p1078
        replace q1078 := eq_true q1078
        have p1079 : 0 ≤ (x5_1 : Int) := od_
        have q1079 : x5_1 < (l0.length : Int) := od_
        obtain ⟨ad1079, e1079, hx1079_0, hx1079_1, hx1079_2⟩ := at_T69 HR0.out x5_1 p1079 q1079
        obtain rfl : ad1078 = ad1079 := (by injection e1079)
        replace hx1079_0 := (cb_ HB.out hx1079_0 :)
        replace hx1079_1 := (cb_ HB.out hx1079_1 :)
        replace hx1079_2 := (cb_ HB.out hx1079_2 :)
        replace p1079 := eq_true p1079
        replace q1079 := eq_true q1079
        try go_wp2
        have n0_ := Aside0.mk (below_drew1 HB.out)
        clear HB
        have HB := n0_
        clear n0_
        have p1080 : 0 ≤ (x5_1 : Int) := od_
        have q1080 : x5_1 < (l0.length : Int) := od_
        obtain ⟨ad1080, e1080, hx1080_0, hx1080_1, hx1080_2⟩ := at_T69 HR0.out x5_1 p1080 q1080
        have hw1080_2 := hx1080_2
        have hw1080_1 := hx1080_1
        have hw1080_0 := hx1080_0
        obtain rfl : ad1078 = ad1080 := (by injection e1080)
        replace hx1080_0 := (cb_ HB.out hx1080_0 :)
        replace hx1080_1 := (cb_ HB.out hx1080_1 :)
        replace hx1080_2 := (cb_ HB.out hx1080_2 :)
        replace p1080 := eq_true p1080
        replace q1080 := eq_true q1080
        refine start_ (n := 8) (S := fun w' => w'.cell? (ad1078.add ((x5_1).toNat * 3)) = some (.int .i64 ((rd_T69 l0 x5_1).f0)) ∧ w'.cell? ⟨(ad1078.add ((x5_1).toNat * 3)).block, (ad1078.add ((x5_1).toNat * 3)).off + 1, none⟩ = some (.int .i64 ((rd_T69 l0 x5_1).f1)) ∧ w'.cell? ⟨(ad1078.add ((x5_1).toNat * 3)).block, (ad1078.add ((x5_1).toNat * 3)).off + 2, none⟩ = some (.string ((rd_T69 l0 x5_1).f2))) (ds := []) #[false, false, false, false, false, false, false, false] (by kernel_rfl) rfl rfl ⟨((cb_ HB.out hw1080_0 :)), ((cb_ HB.out hw1080_1 :)), ((cb_ HB.out hw1080_2 :))⟩ (fun hHeld => ?_); refine with_tabW laws_heldRowS.tab10 laws_heldRowS.bits10 (fun HT_ HW_ => ?_)
        generalize wr.drew = w9 at HB hx1080_0 hx1080_1 hx1080_2 hHeld ⊢
        refine pa_ 0 30 ?_
        refine pa_ 1 31 ?_
        refine pa_ 2 32 ?_
        refine pa_ 3 33 ?_
        refine pa_ 5 35 ?_
        refine ta3_ 4 34 hHeld ?_
        refine on_ 6 36 (fun K hK => ?_)
        refine goes_ Tryd.func103 (by kernel_rfl) rfl #[.int .i64 (wrap64 ((wrap64 (x1_1 + 1)) + 1))] (by rfl) rfl rfl ar_ ?_
        with_reducible refine (laws_markText.calls k1 (wrap64 ((wrap64 (x1_1 + 1)) + 1)) t1081 _ A7.out).mono ?_
        rintro e w10 ⟨rfl, hb⟩
        refine ⟨_, rfl, ?_⟩
        have n0_ := Aside0.mk (below_step (bel_) hb)
        clear HB
        have HB := n0_
        clear n0_
        (try clear hb)
        (try clear hb2)
        (try clear hk)
        (try clear hi)
        refine hK.out _ _ ⟨((cb_ HB.out hw1080_0 :)), ((cb_ HB.out hw1080_1 :)), ((cb_ HB.out hw1080_2 :))⟩ (fun hHeld => ?_)
        clear hK K
        refine no_ 36 ?_
        refine pa_ 7 37 ?_
        refine done_ (done_of HT_.out (by kernel_rfl)) ?_
        try go_wp2
        go_roundg k1
        case measure => have := HK1.out; omega
        case rel => exact ⟨(wrap64 ((wrap64 ((wrap64 (x1_1 + 1)) + 1)) + 1)), (wrap64 (x5_1 + 1)), (si_), (si_), H', ⟨by have := HK1.out; omega⟩, ⟨bel_⟩⟩
       ·rw [if_neg c8] at H
        have c8b0 : (((rd_T69 l0 x5_1).f2).toList == t1081.toList) = false := beq_eq_false_iff_ne.mpr c8
        have c8b1 : (((rd_T69 l0 x5_1).f2).toList != t1081.toList) = true := bne_iff_ne.mpr c8
        obtain rfl := Option.some.inj H
        have p1078 : 0 ≤ (x5_1 : Int) := od_
        have q1078 : x5_1 < (l0.length : Int) := od_
        obtain ⟨ad1078, e1078, hx1078_0, hx1078_1, hx1078_2⟩ := at_T69 HR0.out x5_1 p1078 q1078
        cases e1078
        replace hx1078_0 := (cb_ HB.out hx1078_0 :)
        replace hx1078_1 := (cb_ HB.out hx1078_1 :)
        replace hx1078_2 := (cb_ HB.out hx1078_2 :)
        replace p1078 := eq_true p1078
        replace q1078 := eq_true q1078
        have p1079 : 0 ≤ (x5_1 : Int) := od_
        have q1079 : x5_1 < (l0.length : Int) := od_
        obtain ⟨ad1079, e1079, hx1079_0, hx1079_1, hx1079_2⟩ := at_T69 HR0.out x5_1 p1079 q1079
        obtain rfl : ad1078 = ad1079 := (by injection e1079)
        replace hx1079_0 := (cb_ HB.out hx1079_0 :)
        replace hx1079_1 := (cb_ HB.out hx1079_1 :)
        replace hx1079_2 := (cb_ HB.out hx1079_2 :)
        replace p1079 := eq_true p1079
        replace q1079 := eq_true q1079
        try go_wp2
        have n0_ := Aside0.mk (below_drew1 HB.out)
        clear HB
        have HB := n0_
        clear n0_
        have p1080 : 0 ≤ (x5_1 : Int) := od_
        have q1080 : x5_1 < (l0.length : Int) := od_
        obtain ⟨ad1080, e1080, hx1080_0, hx1080_1, hx1080_2⟩ := at_T69 HR0.out x5_1 p1080 q1080
        have hw1080_2 := hx1080_2
        have hw1080_1 := hx1080_1
        have hw1080_0 := hx1080_0
        obtain rfl : ad1078 = ad1080 := (by injection e1080)
        replace hx1080_0 := (cb_ HB.out hx1080_0 :)
        replace hx1080_1 := (cb_ HB.out hx1080_1 :)
        replace hx1080_2 := (cb_ HB.out hx1080_2 :)
        replace p1080 := eq_true p1080
        replace q1080 := eq_true q1080
        refine start_ (n := 8) (S := fun w' => w'.cell? (ad1078.add ((x5_1).toNat * 3)) = some (.int .i64 ((rd_T69 l0 x5_1).f0)) ∧ w'.cell? ⟨(ad1078.add ((x5_1).toNat * 3)).block, (ad1078.add ((x5_1).toNat * 3)).off + 1, none⟩ = some (.int .i64 ((rd_T69 l0 x5_1).f1)) ∧ w'.cell? ⟨(ad1078.add ((x5_1).toNat * 3)).block, (ad1078.add ((x5_1).toNat * 3)).off + 2, none⟩ = some (.string ((rd_T69 l0 x5_1).f2))) (ds := []) #[false, false, false, false, false, false, false, false] (by kernel_rfl) rfl rfl ⟨((cb_ HB.out hw1080_0 :)), ((cb_ HB.out hw1080_1 :)), ((cb_ HB.out hw1080_2 :))⟩ (fun hHeld => ?_); refine with_tabW laws_heldRowS.tab10 laws_heldRowS.bits10 (fun HT_ HW_ => ?_)
        generalize wr.drew = w11 at HB hx1080_0 hx1080_1 hx1080_2 hHeld ⊢
        refine pa_ 0 30 ?_
        refine pa_ 1 31 ?_
        refine pa_ 2 32 ?_
        refine pa_ 3 33 ?_
        refine pa_ 5 35 ?_
        refine ta3_ 4 34 hHeld ?_
        refine on_ 6 36 (fun K hK => ?_)
        refine goes_ Tryd.func103 (by kernel_rfl) rfl #[.int .i64 (wrap64 ((wrap64 (x1_1 + 1)) + 1))] (by rfl) rfl rfl ar_ ?_
        with_reducible refine (laws_markText.calls k1 (wrap64 ((wrap64 (x1_1 + 1)) + 1)) t1081 _ A7.out).mono ?_
        rintro e w12 ⟨rfl, hb⟩
        refine ⟨_, rfl, ?_⟩
        have n0_ := Aside0.mk (below_step (bel_) hb)
        clear HB
        have HB := n0_
        clear n0_
        (try clear hb)
        (try clear hb2)
        (try clear hk)
        (try clear hi)
        refine hK.out _ _ ⟨((cb_ HB.out hw1080_0 :)), ((cb_ HB.out hw1080_1 :)), ((cb_ HB.out hw1080_2 :))⟩ (fun hHeld => ?_)
        clear hK K
        refine no_ 36 ?_
        refine pa_ 7 37 ?_
        refine done_ (done_of HT_.out (by kernel_rfl)) ?_
        try go_wp2
        go_ret
        exact ⟨fi_, bel_⟩
      ·rw [if_neg c6] at H
       have c6b0 : (((rd_T69 l0 x5_1).f1) == (wrap64 (x1_1 + 1))) = false := beq_eq_false_iff_ne.mpr c6
       have c6b1 : (((rd_T69 l0 x5_1).f1) != (wrap64 (x1_1 + 1))) = true := bne_iff_ne.mpr c6
       obtain rfl := Option.some.inj H
       have p1078 : 0 ≤ (x5_1 : Int) := od_
       have q1078 : x5_1 < (l0.length : Int) := od_
       obtain ⟨ad1078, e1078, hx1078_0, hx1078_1, hx1078_2⟩ := at_T69 HR0.out x5_1 p1078 q1078
       cases e1078
       replace hx1078_0 := (cb_ HB.out hx1078_0 :)
       replace hx1078_1 := (cb_ HB.out hx1078_1 :)
       replace hx1078_2 := (cb_ HB.out hx1078_2 :)
       replace p1078 := eq_true p1078
       replace q1078 := eq_true q1078
       have p1079 : 0 ≤ (x5_1 : Int) := od_
       have q1079 : x5_1 < (l0.length : Int) := od_
       obtain ⟨ad1079, e1079, hx1079_0, hx1079_1, hx1079_2⟩ := at_T69 HR0.out x5_1 p1079 q1079
       obtain rfl : ad1078 = ad1079 := (by injection e1079)
       replace hx1079_0 := (cb_ HB.out hx1079_0 :)
       replace hx1079_1 := (cb_ HB.out hx1079_1 :)
       replace hx1079_2 := (cb_ HB.out hx1079_2 :)
       replace p1079 := eq_true p1079
       replace q1079 := eq_true q1079
       go_wp2
       go_ret
       exact ⟨fi_, bel_⟩
     ·rw [if_neg c5] at H
      have c5b0 : (((rd_T69 l0 x5_1).f0) == x1_1) = false := beq_eq_false_iff_ne.mpr c5
      have c5b1 : (((rd_T69 l0 x5_1).f0) != x1_1) = true := bne_iff_ne.mpr c5
      obtain rfl := Option.some.inj H
      have p1078 : 0 ≤ (x5_1 : Int) := od_
      have q1078 : x5_1 < (l0.length : Int) := od_
      obtain ⟨ad1078, e1078, hx1078_0, hx1078_1, hx1078_2⟩ := at_T69 HR0.out x5_1 p1078 q1078
      cases e1078
      replace hx1078_0 := (cb_ HB.out hx1078_0 :)
      replace hx1078_1 := (cb_ HB.out hx1078_1 :)
      replace hx1078_2 := (cb_ HB.out hx1078_2 :)
      replace p1078 := eq_true p1078
      replace q1078 := eq_true q1078
      go_wp2
      go_ret
      exact ⟨fi_, bel_⟩
    ·rw [if_neg c4] at H
     exact absurd H (by simp)
   ·rw [if_neg c3] at H
    have c3b0 : decide (x5_1 < (l0.length : Int)) = false := decide_eq_false c3
    clear c3
    obtain rfl := Option.some.inj H
    go_wp2
    go_ret
    exact ⟨fi_, bel_⟩

def laws_FnExactLogTree.f (k : Nat) (l0 : List (S36)) : Option (Bool) := (laws_szEntryS.f k l0 1048576).bind fun t1082 => (if t1082 < 0 then (some true) else ((laws_toEntryS.f k l0).bind fun t1083 => ((spec_LogTree.f k t1083).bind fun t1086 => ((laws_toEntryS.f k l0).bind fun t1089 => ((impl_LogTree.f k t1089).bind fun t1092 => ((laws_eqRowS.f k t1092 t1086).bind fun t1095 => (if t1095 = true then ((laws_toEntryS.f k l0).bind fun t1096 => ((laws_eqEntryS.f k t1089 t1096).bind fun t1099 => (if t1099 = true then ((laws_markEntryS.f k t1089 1).bind fun bt1100 => (if bt1100.1 < 0 then (none) else ((laws_eqRowS.f k t1092 t1086).bind fun t1102 => (if t1102 = true then ((laws_markRowS.f k t1092 1).bind fun bt1103 => ((laws_heldRowS.f k bt1103.2 1).bind fun t1105 => (if t1105 < 0 then (none) else (if t1105 = bt1103.1 then ((laws_toEntryS.f k l0).bind fun t1106 => ((impl_LogTree.f k t1106).bind fun t1109 => ((laws_eqRowS.f k t1109 t1086).bind fun t1112 => (if t1112 = true then ((laws_heldRowS.f k bt1103.2 1).bind fun t1113 => (if t1113 < 0 then (none) else (if t1113 = bt1103.1 then (some true) else (none)))) else (none))))) else (none))))) else (none))))) else (none)))) else (none))))))))
theorem laws_FnExactLogTree.mono : ∀ a0 k, LeO (laws_FnExactLogTree.f k a0) (laws_FnExactLogTree.f (k + 1) a0) := by
 intro a0 k
 unfold laws_FnExactLogTree.f
 repeat' first
   | (with_reducible exact impl_LogTree.mono _ _)
   | (with_reducible exact laws_eqEntryS.mono _ _ _)
   | (with_reducible exact laws_eqRowS.mono _ _ _)
   | (with_reducible exact laws_heldRowS.mono _ _ _)
   | (with_reducible exact laws_markEntryS.mono _ _ _)
   | (with_reducible exact laws_markRowS.mono _ _ _)
   | (with_reducible exact laws_szEntryS.mono _ _ _)
   | (with_reducible exact laws_toEntryS.mono _ _)
   | (with_reducible exact spec_LogTree.mono _ _)
   | (with_reducible exact LeO.refl _)
   | (with_reducible exact LeO.none _)
   | (with_reducible refine LeO.ite ?_ ?_)
   | (with_reducible refine LeO.bind ?_ (fun _ => ?_))
   | exact impl_LogTree.mono _ _
   | exact laws_eqEntryS.mono _ _ _
   | exact laws_eqRowS.mono _ _ _
   | exact laws_heldRowS.mono _ _ _
   | exact laws_markEntryS.mono _ _ _
   | exact laws_markRowS.mono _ _ _
   | exact laws_szEntryS.mono _ _ _
   | exact laws_toEntryS.mono _ _
   | exact spec_LogTree.mono _ _
   | exact LeO.none _
   | refine LeO.ite ?_ ?_
   | refine LeO.bind ?_ (fun _ => ?_)
end Go.Proofs.YtdpklbomhdpimaaDoor.P
