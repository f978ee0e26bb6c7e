/- Joined by a program (wip/shake.py): the declarations that 'YtlkheeegkifblaaDoorCardFnKeyOut' reaches. -/
import Derived.Test.YtlkheeegkifblaaDoorZFi3
set_option linter.unusedVariables false
set_option linter.unusedSimpArgs false
set_option linter.unusedSectionVars false
namespace Go.Proofs.YtlkheeegkifblaaDoor.P
open Go.RowKit Go.Shelf Go.Proofs.YtlkheeegkifblaaDoorW.PrintWords Go.Proofs.YtlkheeegkifblaaDoorW.PrintLast Go.Proofs.YtlkheeegkifblaaDoorW.PrintMore Go.Proofs.YtlkheeegkifblaaDoor.PL Go.Proofs.YtlkheeegkifblaaDoor.FP
attribute [local go_sem] Oper.semAt_some

structure Bx (w : World) (gb : Nat) (W : World) : Prop where
 blk : W.heap[gb]? = some (.cells #[.int .i64 0, .int .i64 0, .int .i64 0, .int .i64 0, .string (⟨#[]⟩ : ByteArray)] 27 (0, 0))
 ge : w.heap.size ≤ gb
 below : Below w.heap.size w W
theorem Bx.step {w W W' : World} {gb : Nat} (b : Bx w gb W) (hb : Below W.heap.size W W') : Bx w gb W' := ⟨blk_below b.blk hb, b.ge, below_step b.below hb⟩
theorem Bx.drew {w W : World} {gb : Nat} (b : Bx w gb W) : Bx w gb W.drew := ⟨b.blk, b.ge, b.below.drew⟩
theorem Bx.c0 {w W : World} {gb : Nat} (b : Bx w gb W) : W.cell? ⟨gb, 0, none⟩ = some (.int .i64 0) := (blk_cell b.blk 0).trans rfl
theorem Bx.c1 {w W : World} {gb : Nat} (b : Bx w gb W) : W.cell? ⟨gb, 1, none⟩ = some (.int .i64 0) := (blk_cell b.blk 1).trans rfl
theorem Bx.c2 {w W : World} {gb : Nat} (b : Bx w gb W) : W.cell? ⟨gb, 2, none⟩ = some (.int .i64 0) := (blk_cell b.blk 2).trans rfl
theorem Bx.c3 {w W : World} {gb : Nat} (b : Bx w gb W) : W.cell? ⟨gb, 3, none⟩ = some (.int .i64 0) := (blk_cell b.blk 3).trans rfl
theorem Bx.c4 {w W : World} {gb : Nat} (b : Bx w gb W) : W.cell? ⟨gb, 4, none⟩ = some (.string (⟨#[]⟩ : ByteArray)) := (blk_cell b.blk 4).trans rfl
theorem Bx.f {w W : World} {gb : Nat} (b : Bx w gb W) (j : Nat) : W.frozen? ⟨gb, j, none⟩ = false := blk_frozen b.blk j
theorem Bx.put {w W : World} {gb : Nat} (b : Bx w gb W) (k i u a : Int) (s : ByteArray) : (((((W.setCell ⟨gb, 0, none⟩ (.int .i64 k)).setCell ⟨gb, 1, none⟩ (.int .i64 i)).setCell ⟨gb, 2, none⟩ (.int .i64 u)).setCell ⟨gb, 3, none⟩ (.int .i64 a)).setCell ⟨gb, 4, none⟩ (.string s)).heap[gb]? = some (.cells #[.int .i64 k, .int .i64 i, .int .i64 u, .int .i64 a, .string s] 27 (0, 0)) := by
 refine blk_put (cs := #[.int .i64 k, .int .i64 i, .int .i64 u, .int .i64 a, .string (⟨#[]⟩ : ByteArray)]) ?_ 4 _ rfl
 refine blk_put (cs := #[.int .i64 k, .int .i64 i, .int .i64 u, .int .i64 0, .string (⟨#[]⟩ : ByteArray)]) ?_ 3 _ rfl
 refine blk_put (cs := #[.int .i64 k, .int .i64 i, .int .i64 0, .int .i64 0, .string (⟨#[]⟩ : ByteArray)]) ?_ 2 _ rfl
 refine blk_put (cs := #[.int .i64 k, .int .i64 0, .int .i64 0, .int .i64 0, .string (⟨#[]⟩ : ByteArray)]) ?_ 1 _ rfl
 exact blk_put (cs := #[.int .i64 0, .int .i64 0, .int .i64 0, .int .i64 0, .string (⟨#[]⟩ : ByteArray)]) b.blk 0 _ rfl
theorem Bx.put_below {w W : World} {gb : Nat} (b : Bx w gb W) (k i u a : Int) (s : ByteArray) : Below w.heap.size w (((((W.setCell ⟨gb, 0, none⟩ (.int .i64 k)).setCell ⟨gb, 1, none⟩ (.int .i64 i)).setCell ⟨gb, 2, none⟩ (.int .i64 u)).setCell ⟨gb, 3, none⟩ (.int .i64 a)).setCell ⟨gb, 4, none⟩ (.string s)) :=
 ((((b.below.setCell (p := ⟨gb, 0, none⟩) b.ge _).setCell (p := ⟨gb, 1, none⟩) b.ge _).setCell (p := ⟨gb, 2, none⟩) b.ge _).setCell (p := ⟨gb, 3, none⟩) b.ge _).setCell (p := ⟨gb, 4, none⟩) b.ge _
set_option maxHeartbeats 4000000 in
set_option maxRecDepth 100000 in
theorem moveTo_any {w : World} {n0 F : Nat} {A : Nat → Option Nat} {h : Nat → Nd} (m : Mem w n0 F A h) {i u a bi bu : Nat} (hi : A i = some bi) (hu : A u = some bu) (ha : a = 0 ∨ A a ≠ none) :
  Calls Tryd.prog 104 #[.pointer (some ⟨bi, 0, none⟩), .pointer (some ⟨bu, 0, none⟩), .pointer (pa (A a))] w fun e w' => e = .returned (.agg #[.int .i64 3, .int .i64 (i : Int), .int .i64 (u : Int), .int .i64 (a : Int), .string (⟨#[]⟩ : ByteArray)]) ∧ Below w.heap.size w w' := by
 have hu27 := Tryd.underlying27
 have M := Aside0.mk m
 have HI := Aside0.mk hi
 have HU := Aside0.mk hu
 have HA := Aside0.mk ha
 clear m hi hu ha
 go_enter Tryd.func104, Tryd.ntmps104
 go_wp2_with ((with_reducible refine gate_dst (N := 6) rfl ?_); refine bx_ 6 (#[.int .i64 0, .int .i64 0, .int .i64 0, .int .i64 0, .string (⟨#[]⟩ : ByteArray)]) 27 ?_; intro gb hg W1 hbox hb; have X1 := Aside0.mk (Bx.mk hbox (by rw [hg]; exact Nat.le_refl _) (hb)); have hb1 := Aside0.mk hb; clear hbox hb hg; have M1 := Aside0.mk (M.out.below hb1.out); have q0 := M1.out.c0 HI.out; have q1 := M1.out.c0 HU.out; have za_0 := X1.out.c0; have ya_0 := X1.out.f 0; have za_1 := X1.out.c1; have ya_1 := X1.out.f 1; have za_2 := X1.out.c2; have ya_2 := X1.out.f 2; have za_3 := X1.out.c3; have ya_3 := X1.out.f 3; have za_4 := X1.out.c4; have ya_4 := X1.out.f 4)
 go_region_with (go_at_call 75; (with_reducible refine (idOf_any M1.out.drew a HA.out).mono ?_); rintro en W4 ⟨rfl, rfl⟩)
 all_goals go_wp2
 all_goals refine bodyPost_ret (results_cell_row rfl _ _ gb 27 #[.int .i64 3, .int .i64 (i : Int), .int .i64 (u : Int), .int .i64 (a : Int), .string (⟨#[]⟩ : ByteArray)] (0, 0) _ rfl (by (with_reducible repeat (first | refine blk_drewN ?_ _ | refine blk_drew ?_)); exact X1.out.put _ _ _ _ _) hu27 rfl (by kernel_rfl)) rfl ?_
 all_goals exact ⟨rfl, (by (with_reducible repeat (first | apply pw_below_drewN | apply below_drew1)); exact X1.out.put_below _ _ _ _ _)⟩
def LastI (w : World) (A : Nat → Option Nat) (pre : List (KA fun x => A x ≠ none)) (W : World) : Prop :=
 W.cell? ⟨w.heap.size, 0, none⟩ = some (.pointer (pa (A (lastN 0 (pre.map KA.val))))) ∧ W.frozen? ⟨w.heap.size, 0, none⟩ = false
theorem lastI_own (w : World) (A : Nat → Option Nat) : Own (LastI w A) := fun s V W row hs hg hr => ⟨cell_kept hs.1 hg hr, (frozen_kept hs.1 hg hr).trans hs.2⟩
set_option maxHeartbeats 4000000 in
set_option maxRecDepth 100000 in
theorem lastKid_any {w : World} {n0 Fb : Nat} {A : Nat → Option Nat} {h : Nat → Nd} (m : Mem w n0 Fb A h)
  {u bu : Nat} (hu : A u = some bu) (xs : List Nat) (hxs : ∀ x ∈ xs, A x ≠ none) (hL : NList A w.heap.size w (pa (A (h u).first)) xs) :
  Calls Tryd.prog 114 #[.pointer (some ⟨bu, 0, none⟩)] w fun e W' => e = .returned (.pointer (pa (A (lastN 0 xs)))) ∧ Below w.heap.size w W' := by
 refine (callsIn_wide (n := 8)).1 ?_
 obtain ⟨ys, hys⟩ := attach_val (Q := fun x => A x ≠ none) hxs
 subst hys
 have HZ := Aside0.mk m.z
 have c3 := m.c3 hu
 have HBU := Aside0.mk (m.lt hu)
 have M := Aside0.mk m
 clear hu m
 refine callsIn_of_wp_marks Tryd.func114 rfl trivial ?_ rfl
 simp only [Tryd.ntmps114, List.size_toArray, List.length_cons, List.length_nil, Nat.reduceAdd, Nat.reduceSub, Array.replicate_succ, Array.replicate_zero, List.push_toArray, List.append_toArray, List.nil_append, List.cons_append]
 gi_wp2_with (refine ⟨trivial, ?_⟩; gi_at_call 77; refine (kids_in Fence.wide _ trivial rfl _ _).mono ?_; rintro e w' ⟨rfl, rfl⟩)
 have b1 := cell_new_f w (.pointer none) 70
 have b2 := cell_new_f (w.alloc (.cells #[.pointer none] 70)) (.pointer (some ⟨bu, 0, none⟩)) 70
 simp only [World.size_alloc] at b2
 have hB0 : Below w.heap.size w ((w.alloc (.cells #[.pointer none] 70)).alloc (.cells #[.pointer (some ⟨bu, 0, none⟩)] 70)) := ((Below.refl _ w).alloc (Nat.le_refl _) _).alloc (by simp) _
 refine wpIn_rangeFunc_ownF rfl (by omega) (gf := 105) (lb := #[.pointer (some ⟨w.heap.size + 1, 0, none⟩)]) rfl trivial (enters_of Tryd.func105 (by kernel_rfl) rfl)
  (kids_stops Fence.wide 7 trivial rfl (by omega) (w.heap.size + 1) w.heap.size bu _ A _ ys _ (by simp) (by simp; omega) (by simp; have := HBU.out; omega) b2.1 (cell_alloc_f _ (cell_alloc_f _ c3)) (hL.below hB0)) belowK_t (belowK_b (by simp; omega)) (Below.refl _ _) (fun _ => by rfl)
  (fun pre W => LastI w A pre W ∧ Below w.heap.size w W) (fun _ _ _ => False)
  (OwnFrom.and (Own.from (lastI_own w A) _) (ownFrom_below (Nat.le_refl _) (by simp; omega)))
  (fun _ _ _ _ _ h _ _ => h.elim)
  ⟨⟨by rw [show lastN 0 (([] : List (KA fun x => A x ≠ none)).map KA.val) = 0 from rfl, HZ.out]; exact cell_alloc_f _ b1.1, frozen_alloc_f _ b1.1 b1.2⟩, hB0⟩
  (fun x => { tmps := #[.pointer (some ⟨bu, 0, none⟩), undef, .pointer none, .pointer (some ⟨w.heap.size, 0, none⟩), .pointer (pa (A x.val)), .pointer (some ⟨bu, 0, none⟩), .func (.func 105) #[] #[.pointer (some ⟨w.heap.size + 1, 0, none⟩)], .pointer (pa (A x.val)), undef, undef], defers := [] }) ?assign ?body ?done ?stop
 case assign =>
  intro l x W K hK
  gi_wp2
  exact hK
 case body =>
  rintro l pre x W ⟨⟨hca, hfa⟩, hB⟩ _
  obtain ⟨c, hc⟩ := Option.ne_none_iff_exists'.1 x.ok
  have hbelow : Below w.heap.size W (W.setCell ⟨w.heap.size, 0, none⟩ (.pointer (some ⟨c, 0, none⟩))) := (Below.refl _ W).setCell (p := ⟨w.heap.size, 0, none⟩) (Nat.le_refl _) _
  have HC := Aside0.mk hc
  rw [hc, pa_some]
  clear hc
  gi_wp2
  refine ⟨KeepsOthers.setCell _ _ _, hbelow, ⟨?_, ?_⟩, hB.trans hbelow⟩
  ·rw [List.map_append, List.map_cons, List.map_nil, lastN_snoc, HC.out]
   exact World.cell?_setCell_same' _ _ _ (by rw [hca]; rfl)
  ·rw [World.frozen?_setCell]; exact hfa
 case done =>
  rintro D zs W hD rfl ⟨⟨hca, hfa⟩, hB⟩ hK
  gi_wp2
  refine ⟨by simp, .inl ⟨_, _, rfl, run_takeDeferred hK, ?_⟩⟩
  refine ⟨_, results_tmp rfl _ _ _, ?_, hB.trans (belowK_b (w := w) (Nat.le_refl _) W D _ _ (by simp at hD; omega) hK rfl rfl)⟩
  rfl
 case stop =>
  rintro D c pre W hD hpre h
  exact h.elim
theorem At.lastKid {w : World} {n0 F : Nat} {A : Nat → Option Nat} {h : Nat → Nd} {G : Fo} (t : At w n0 F A h G) {u b : Nat} (hu : A u = some b) :
  Calls Tryd.prog 114 #[.pointer (some ⟨b, 0, none⟩)] w fun e W' => e = .returned (.pointer (pa (A (lastN 0 (sub u G).tops)))) ∧ Below w.heap.size w W' := by
 have hG : u ∈ G.ids := (t.dom u).1 (by rw [hu]; simp)
 obtain ⟨r1, r2⟩ := reptop_sub t.rep t.nd hG
 have hsA : ∀ x ∈ (sub u G).ids, A x ≠ none := fun x hx => (t.dom x).2 (sub_ids _ hx)
 have hL := nlist_of t.m r1 hsA
 rw [← r2] at hL
 exact lastKid_any t.m hu (sub u G).tops (fun x hx => hsA x (tops_ids hx)) hL
end Go.Proofs.YtlkheeegkifblaaDoor.P
namespace Go.Proofs.YtlkheeegkifblaaDoor.FP
open Go.Proofs.YtlkheeegkifblaaDoor.P
def dep (x : Nat) (d : Nat) : Fo → Nat
 | .nil => d
 | .nd j _ k n => if j = x then d else if x ∈ k.ids then dep x (d + 1) k else dep x d n
theorem setF_id (x : Nat) (t : ByteArray) : ∀ {F : Fo}, x ∉ F.ids → setF x t F = F
 | .nil, _ => rfl
 | .nd j u k n, h => by
  simp only [Fo.ids, List.mem_cons, List.mem_append, not_or] at h
  rw [setF, if_neg (fun e => h.1 e.symm), setF_id x t h.2.1, setF_id x t h.2.2]
theorem fl_ids : ∀ (F : Fo) (d : Nat) {r : S37}, r ∈ F.fl d → ∃ i ∈ F.ids, r.f0 = (i : Int)
 | .nil, d, r, h => by simp [Fo.fl] at h
 | .nd j t k n, d, r, h => by
  simp only [Fo.fl, List.mem_cons, List.mem_append] at h
  rcases h with rfl | h | h
  ·exact ⟨j, by simp [Fo.ids], rfl⟩
  ·obtain ⟨i, hi, e⟩ := fl_ids k (d + 1) h; exact ⟨i, by simp [Fo.ids, hi], e⟩
  ·obtain ⟨i, hi, e⟩ := fl_ids n d h; exact ⟨i, by simp [Fo.ids, hi], e⟩
theorem fl_map : ∀ (F : Fo) (d : Nat), (F.fl d).map (·.f0) = F.ids.map Int.ofNat
 | .nil, d => rfl
 | .nd j t k n, d => by simp [Fo.fl, Fo.ids, fl_map k, fl_map n]
theorem fl_len (F : Fo) (d : Nat) : (F.fl d).length = F.ids.length := by
 have := congrArg List.length (fl_map F d)
 simpa using this
structure Spot (x d : Nat) (G : Fo) (pre post : List S37) : Prop where
 all : G.fl d = pre ++ (⟨(x : Int), (dep x d G : Int), txtF x G⟩ :: ((sub x G).fl (dep x d G + 1) ++ post))
 out : ∀ r ∈ pre, r.f0 ≠ (x : Int)
 high : post = [] ∨ ∃ r rest, post = r :: rest ∧ r.f1 ≤ (dep x d G : Int)
 ge : d ≤ dep x d G
 del : (del x G).fl d = pre ++ post
 first : ∀ i t s, (insFirst x i t s G).fl d = pre ++ (⟨(x : Int), (dep x d G : Int), txtF x G⟩ :: (⟨(i : Int), ((dep x d G + 1 : Nat) : Int), t⟩ :: (s.fl (dep x d G + 2) ++ ((sub x G).fl (dep x d G + 1) ++ post))))
 after : ∀ i t s, (insAfter x i t s G).fl d = pre ++ (⟨(x : Int), (dep x d G : Int), txtF x G⟩ :: ((sub x G).fl (dep x d G + 1) ++ (⟨(i : Int), (dep x d G : Int), t⟩ :: (s.fl (dep x d G + 1) ++ post))))
 text : ∀ t', (setF x t' G).fl d = pre ++ (⟨(x : Int), (dep x d G : Int), t'⟩ :: ((sub x G).fl (dep x d G + 1) ++ post))
theorem spot (x : Nat) : ∀ (G : Fo) (d : Nat), G.ids.Nodup → x ∈ G.ids → ∃ pre post, Spot x d G pre post
 | .nil, d, _, hx => by simp [Fo.ids] at hx
 | .nd j u k n, d, hn, hx => by
  obtain ⟨n1, n2, n3, n4, n5⟩ := nodup_nd hn
  simp only [Fo.ids, List.mem_cons, List.mem_append] at hx
  by_cases e : j = x
  ·subst e
   refine ⟨[], n.fl d, ?_, by simp, ?_, ?_, ?_, fun i t s => ?_, fun i t s => ?_, fun t' => ?_⟩
   ·simp [Fo.fl, dep, txtF, sub]
   ·rcases fl_head n d with h | ⟨r, rest, h, h2⟩
    ·exact Or.inl h
    ·refine Or.inr ⟨r, rest, h, ?_⟩; simp [dep, h2]
   ·simp [dep]
   ·simp [FP.del]
   ·simp [insFirst, Fo.fl, dep, txtF, sub]
   ·simp [insAfter, Fo.fl, dep, txtF, sub]
   ·simp [setF, Fo.fl, dep, sub, setF_id j t' n1, setF_id j t' n2]
  ·have e' : x ≠ j := fun g => e g.symm
   by_cases hk : x ∈ k.ids
   ·have hxn : x ∉ n.ids := n5 x hk
    obtain ⟨pre, post, s⟩ := spot x k (d + 1) n3 hk
    have hd : dep x d (.nd j u k n) = dep x (d + 1) k := by rw [dep, if_neg e, if_pos hk]
    have ht : txtF x (.nd j u k n) = txtF x k := by rw [txtF, if_neg e, if_pos hk]
    have hs : sub x (.nd j u k n) = sub x k := by rw [sub, if_neg e, if_pos hk]
    refine ⟨⟨(j : Int), (d : Int), u⟩ :: pre, post ++ n.fl d, ?_, ?_, ?_, ?_, ?_, fun i t s' => ?_, fun i t s' => ?_, fun t' => ?_⟩
    ·rw [hd, ht, hs, Fo.fl, s.all]; simp
    ·intro r hr
     rcases List.mem_cons.1 hr with rfl | hr
     ·show (j : Int) ≠ (x : Int); omega
     ·exact s.out r hr
    ·rw [hd]
     have hge := s.ge
     rcases s.high with h | ⟨r, rest, h, h2⟩
     ·rw [h, List.nil_append]
      rcases fl_head n d with h | ⟨r, rest, h, h2⟩
      ·exact Or.inl h
      ·exact Or.inr ⟨r, rest, h, by omega⟩
     ·exact Or.inr ⟨r, rest ++ n.fl d, by rw [h]; rfl, h2⟩
    ·rw [hd]; have := s.ge; omega
    ·rw [FP.del, if_neg e, Fo.fl, s.del, del_id x hxn]; simp
    ·rw [hd, ht, hs, insFirst, if_neg e, Fo.fl, s.first, insFirst_id x i t s' hxn]; simp
    ·rw [hd, ht, hs, insAfter, if_neg e, Fo.fl, s.after, insAfter_id x i t s' hxn]; simp
    ·rw [hd, hs, setF, if_neg e, Fo.fl, s.text, setF_id x t' hxn]; simp
   ·have hxn : x ∈ n.ids := by rcases hx with g | g | g; exact absurd g e'; exact absurd g hk; exact g
    obtain ⟨pre, post, s⟩ := spot x n d n4 hxn
    have hd : dep x d (.nd j u k n) = dep x d n := by rw [dep, if_neg e, if_neg hk]
    have ht : txtF x (.nd j u k n) = txtF x n := by rw [txtF, if_neg e, if_neg hk]
    have hs : sub x (.nd j u k n) = sub x n := by rw [sub, if_neg e, if_neg hk]
    refine ⟨⟨(j : Int), (d : Int), u⟩ :: (k.fl (d + 1) ++ pre), post, ?_, ?_, ?_, ?_, ?_, fun i t s' => ?_, fun i t s' => ?_, fun t' => ?_⟩
    ·rw [hd, ht, hs, Fo.fl, s.all]; simp
    ·intro r hr
     rcases List.mem_cons.1 hr with rfl | hr
     ·show (j : Int) ≠ (x : Int); omega
     ·rcases List.mem_append.1 hr with hr | hr
      ·obtain ⟨i, hi, e2⟩ := fl_ids k (d + 1) hr
       rw [e2]
       intro e3
       exact hk ((show i = x by omega) ▸ hi)
      ·exact s.out r hr
    ·rw [hd]; exact s.high
    ·rw [hd]; exact s.ge
    ·rw [FP.del, if_neg e, Fo.fl, s.del, del_id x hk]; simp
    ·rw [hd, ht, hs, insFirst, if_neg e, Fo.fl, s.first, insFirst_id x i t s' hk]; simp
    ·rw [hd, ht, hs, insAfter, if_neg e, Fo.fl, s.after, insAfter_id x i t s' hk]; simp
    ·rw [hd, hs, setF, if_neg e, Fo.fl, s.text, setF_id x t' hk]; simp
theorem dep_par (x : Nat) : ∀ (G : Fo) (d up : Nat), G.ids.Nodup → x ∈ G.ids → (x ∈ G.tops ∧ dep x d G = d ∧ par x up G = up) ∨ (par x up G ∈ G.ids ∧ dep x d G = dep (par x up G) d G + 1)
 | .nil, d, up, _, hx => by simp [Fo.ids] at hx
 | .nd j u k n, d, up, hn, hx => by
  obtain ⟨n1, n2, n3, n4, n5⟩ := nodup_nd hn
  simp only [Fo.ids, List.mem_cons, List.mem_append] at hx
  by_cases e : j = x
  ·left
   exact ⟨by simp [Fo.tops, e], by rw [dep, if_pos e], by rw [par, if_pos e]⟩
  ·by_cases hk : x ∈ k.ids
   ·right
    have hp : par x up (.nd j u k n) = par x j k := by rw [par, if_neg e, if_pos hk]
    have hd : dep x d (.nd j u k n) = dep x (d + 1) k := by rw [dep, if_neg e, if_pos hk]
    rw [hp, hd]
    rcases dep_par x k (d + 1) j n3 hk with ⟨_, h2, h3⟩ | ⟨h2, h3⟩
    ·rw [h3, h2]
     refine ⟨by simp [Fo.ids], ?_⟩
     rw [dep, if_pos rfl]
    ·refine ⟨by simp [Fo.ids, h2], ?_⟩
     rw [h3, dep, if_neg (fun (g : j = par x j k) => n1 (by rw [g]; exact h2)), if_pos h2]
   ·have hxn : x ∈ n.ids := by rcases hx with g | g | g; exact absurd g.symm e; exact absurd g hk; exact g
    have hp : par x up (.nd j u k n) = par x up n := by rw [par, if_neg e, if_neg hk]
    have hd : dep x d (.nd j u k n) = dep x d n := by rw [dep, if_neg e, if_neg hk]
    rw [hp, hd]
    rcases dep_par x n d up n4 hxn with ⟨h1, h2, h3⟩ | ⟨h2, h3⟩
    ·exact Or.inl ⟨by simp [Fo.tops, h1], h2, h3⟩
    ·refine Or.inr ⟨by simp [Fo.ids, h2], ?_⟩
     rw [h3, dep, if_neg (fun (g : j = par x up n) => n2 (by rw [g]; exact h2)), if_neg (fun g => n5 _ g h2)]
theorem del_ids_sub (i : Nat) : ∀ {F : Fo} {y : Nat}, y ∈ (del i F).ids → y ∈ F.ids
 | .nil, y, h => h
 | .nd j t k n, y, h => by
  rw [FP.del] at h
  split at h
  ·simp [Fo.ids, h]
  ·simp only [Fo.ids, List.mem_cons, List.mem_append] at h ⊢
   exact h.imp id (Or.imp (del_ids_sub i) (del_ids_sub i))
theorem par_del (i a : Nat) : ∀ (G : Fo) (up : Nat), G.ids.Nodup → a ∈ (del i G).ids → par a up (del i G) = par a up G
 | .nil, up, _, h => rfl
 | .nd j u k n, up, hn, h => by
  obtain ⟨n1, n2, n3, n4, n5⟩ := nodup_nd hn
  rw [FP.del] at h ⊢
  by_cases e : j = i
  ·rw [if_pos e] at h ⊢
   rw [par, if_neg (fun (g : j = a) => n2 (by rw [g]; exact h)), if_neg (fun g => n5 a g h)]
  ·rw [if_neg e] at h ⊢
   simp only [Fo.ids, List.mem_cons, List.mem_append] at h
   rw [par, par]
   by_cases e2 : j = a
   ·rw [if_pos e2, if_pos e2]
   ·rw [if_neg e2, if_neg e2]
    by_cases hk : a ∈ (FP.del i k).ids
    ·rw [if_pos hk, if_pos (del_ids_sub i hk)]; exact par_del i a k j n3 hk
    ·have hn' : a ∈ (FP.del i n).ids := by rcases h with g | g | g; exact absurd g.symm e2; exact absurd g hk; exact g
     rw [if_neg hk, if_neg (fun g => n5 a g (del_ids_sub i hn'))]; exact par_del i a n up n4 hn'
theorem rep_ex : ∀ (G : Fo) (up : Nat), G.ids.Nodup → (∀ x ∈ G.ids, x ≠ 0) → ∃ h, Rep h up G
 | .nil, up, _, _ => ⟨fun _ => ⟨ByteArray.empty, 0, 0, 0⟩, trivial⟩
 | .nd j u k n, up, hn, h0 => by
  obtain ⟨n1, n2, n3, n4, n5⟩ := nodup_nd hn
  obtain ⟨hk, rk⟩ := rep_ex k j n3 fun x hx => h0 x (by simp [Fo.ids, hx])
  obtain ⟨hm, rm⟩ := rep_ex n up n4 fun x hx => h0 x (by simp [Fo.ids, hx])
  refine ⟨fun x => if x = j then ⟨u, up, k.hd, n.hd⟩ else if x ∈ k.ids then hk x else hm x, h0 j (by simp [Fo.ids]), if_pos rfl, rk.ext fun x hx => ?_, rm.ext fun x hx => ?_⟩
  ·rw [if_neg (fun (e : x = j) => n1 (e ▸ hx)), if_pos hx]
  ·rw [if_neg (fun (e : x = j) => n2 (e ▸ hx)), if_neg (fun g => n5 x g hx)]
theorem reptop_ex : ∀ (G : Fo), G.ids.Nodup → (∀ x ∈ G.ids, x ≠ 0) → ∃ h, RepTop h G
 | .nil, _, _ => ⟨fun _ => ⟨ByteArray.empty, 0, 0, 0⟩, trivial⟩
 | .nd j u k n, hn, h0 => by
  obtain ⟨n1, n2, n3, n4, n5⟩ := nodup_nd hn
  obtain ⟨hk, rk⟩ := rep_ex k j n3 fun x hx => h0 x (by simp [Fo.ids, hx])
  obtain ⟨hm, rm⟩ := reptop_ex n n4 fun x hx => h0 x (by simp [Fo.ids, hx])
  refine ⟨fun x => if x = j then ⟨u, 0, k.hd, 0⟩ else if x ∈ k.ids then hk x else hm x, h0 j (by simp [Fo.ids]), if_pos rfl, rk.ext fun x hx => ?_, rm.ext fun x hx => ?_⟩
  ·rw [if_neg (fun (e : x = j) => n1 (e ▸ hx)), if_pos hx]
  ·rw [if_neg (fun (e : x = j) => n2 (e ▸ hx)), if_neg (fun g => n5 x g hx)]
theorem kids_par {G : Fo} (hn : G.ids.Nodup) (h0 : ∀ x ∈ G.ids, x ≠ 0) {u x : Nat} (hu : u ∈ G.ids) : x ∈ (sub u G).tops ↔ x ∈ G.ids ∧ par x 0 G = u := by
 obtain ⟨h, hr⟩ := reptop_ex G hn h0
 obtain ⟨r1, _⟩ := reptop_sub hr hn hu
 constructor
 ·intro hx
  have hxs := tops_ids hx
  have hxG := sub_ids u hxs
  refine ⟨hxG, ?_⟩
  rw [← reptop_par hr hn hxG]
  rcases rep_at r1 (sub_nodup u hn) hxs with ⟨_, g⟩ | ⟨g, _⟩
  ·exact g
  ·exact absurd hx g
 ·rintro ⟨hxG, hp⟩
  have ht := par_top h hr hn hxG (by rw [hp]; exact h0 u hu)
  have := (sibT_pv hr hn hxG ht).2
  rwa [reptop_par hr hn hxG, hp] at this
theorem mem_insFirst (p i : Nat) (t : ByteArray) (s : Fo) (y : Nat) : ∀ (F : Fo), y ∈ (insFirst p i t s F).ids ↔ y ∈ F.ids ∨ (p ∈ F.ids ∧ (y = i ∨ y ∈ s.ids))
 | .nil => by simp [insFirst, Fo.ids]
 | .nd j u k n => by
  rw [insFirst]
  have h1 := mem_insFirst p i t s y k
  have h2 := mem_insFirst p i t s y n
  by_cases e : j = p
  ·rw [if_pos e]
   simp only [Fo.ids, List.mem_cons, List.mem_append, e]
   grind
  ·rw [if_neg e]
   simp only [Fo.ids, List.mem_cons, List.mem_append, h1, h2]
   grind
theorem mem_insAfter (a i : Nat) (t : ByteArray) (s : Fo) (y : Nat) : ∀ (F : Fo), y ∈ (insAfter a i t s F).ids ↔ y ∈ F.ids ∨ (a ∈ F.ids ∧ (y = i ∨ y ∈ s.ids))
 | .nil => by simp [insAfter, Fo.ids]
 | .nd j u k n => by
  rw [insAfter]
  have h1 := mem_insAfter a i t s y k
  have h2 := mem_insAfter a i t s y n
  by_cases e : j = a
  ·rw [if_pos e]
   simp only [Fo.ids, List.mem_cons, List.mem_append, e]
   grind
  ·rw [if_neg e]
   simp only [Fo.ids, List.mem_cons, List.mem_append, h1, h2]
   grind
theorem del_insFirst (p i : Nat) (t : ByteArray) (s : Fo) : ∀ {F : Fo}, i ∉ F.ids → del i (insFirst p i t s F) = F
 | .nil, _ => rfl
 | .nd j u k n, h => by
  simp only [Fo.ids, List.mem_cons, List.mem_append, not_or] at h
  have hj : ¬ j = i := fun e => h.1 e.symm
  rw [insFirst]
  by_cases e : j = p
  ·rw [if_pos e, del, if_neg hj, del, if_pos rfl, del_id i h.2.2]
  ·rw [if_neg e, del, if_neg hj, del_insFirst p i t s h.2.1, del_insFirst p i t s h.2.2]
theorem del_insAfter (a i : Nat) (t : ByteArray) (s : Fo) : ∀ {F : Fo}, i ∉ F.ids → del i (insAfter a i t s F) = F
 | .nil, _ => rfl
 | .nd j u k n, h => by
  simp only [Fo.ids, List.mem_cons, List.mem_append, not_or] at h
  have hj : ¬ j = i := fun e => h.1 e.symm
  rw [insAfter]
  by_cases e : j = a
  ·rw [if_pos e, del, if_neg hj, del, if_pos rfl, del_id i h.2.1]
  ·rw [if_neg e, del, if_neg hj, del_insAfter a i t s h.2.1, del_insAfter a i t s h.2.2]
theorem sub_insFirst_new (p i : Nat) (t : ByteArray) (s : Fo) : ∀ {F : Fo}, i ∉ F.ids → p ∈ F.ids → sub i (insFirst p i t s F) = s
 | .nil, _, h => by simp [Fo.ids] at h
 | .nd j u k n, h, hp => by
  simp only [Fo.ids, List.mem_cons, List.mem_append, not_or] at h hp
  have hj : ¬ j = i := fun e => h.1 e.symm
  rw [insFirst]
  by_cases e : j = p
  ·rw [if_pos e, sub, if_neg hj, if_pos (by simp [Fo.ids]), sub, if_pos rfl]
  ·rw [if_neg e, sub, if_neg hj]
   by_cases hk : p ∈ k.ids
   ·rw [if_pos ((mem_insFirst p i t s i k).2 (Or.inr ⟨hk, Or.inl rfl⟩)), sub_insFirst_new p i t s h.2.1 hk]
   ·rw [if_neg (by rw [mem_insFirst]; grind), sub_insFirst_new p i t s h.2.2 (by grind)]
theorem sub_insAfter_new (a i : Nat) (t : ByteArray) (s : Fo) : ∀ {F : Fo}, i ∉ F.ids → a ∈ F.ids → sub i (insAfter a i t s F) = s
 | .nil, _, h => by simp [Fo.ids] at h
 | .nd j u k n, h, hp => by
  simp only [Fo.ids, List.mem_cons, List.mem_append, not_or] at h hp
  have hj : ¬ j = i := fun e => h.1 e.symm
  rw [insAfter]
  by_cases e : j = a
  ·rw [if_pos e, sub, if_neg hj, if_neg h.2.1, sub, if_pos rfl]
  ·rw [if_neg e, sub, if_neg hj]
   by_cases hk : a ∈ k.ids
   ·rw [if_pos ((mem_insAfter a i t s i k).2 (Or.inr ⟨hk, Or.inl rfl⟩)), sub_insAfter_new a i t s h.2.1 hk]
   ·rw [if_neg (by rw [mem_insAfter]; grind), sub_insAfter_new a i t s h.2.2 (by grind)]
theorem txt_insFirst_new (p i : Nat) (t : ByteArray) (s : Fo) : ∀ {F : Fo}, i ∉ F.ids → p ∈ F.ids → txtF i (insFirst p i t s F) = t
 | .nil, _, h => by simp [Fo.ids] at h
 | .nd j u k n, h, hp => by
  simp only [Fo.ids, List.mem_cons, List.mem_append, not_or] at h hp
  have hj : ¬ j = i := fun e => h.1 e.symm
  rw [insFirst]
  by_cases e : j = p
  ·rw [if_pos e, txtF, if_neg hj, if_pos (by simp [Fo.ids]), txtF, if_pos rfl]
  ·rw [if_neg e, txtF, if_neg hj]
   by_cases hk : p ∈ k.ids
   ·rw [if_pos ((mem_insFirst p i t s i k).2 (Or.inr ⟨hk, Or.inl rfl⟩)), txt_insFirst_new p i t s h.2.1 hk]
   ·rw [if_neg (by rw [mem_insFirst]; grind), txt_insFirst_new p i t s h.2.2 (by grind)]
theorem txt_insAfter_new (a i : Nat) (t : ByteArray) (s : Fo) : ∀ {F : Fo}, i ∉ F.ids → a ∈ F.ids → txtF i (insAfter a i t s F) = t
 | .nil, _, h => by simp [Fo.ids] at h
 | .nd j u k n, h, hp => by
  simp only [Fo.ids, List.mem_cons, List.mem_append, not_or] at h hp
  have hj : ¬ j = i := fun e => h.1 e.symm
  rw [insAfter]
  by_cases e : j = a
  ·rw [if_pos e, txtF, if_neg hj, if_neg h.2.1, txtF, if_pos rfl]
  ·rw [if_neg e, txtF, if_neg hj]
   by_cases hk : a ∈ k.ids
   ·rw [if_pos ((mem_insAfter a i t s i k).2 (Or.inr ⟨hk, Or.inl rfl⟩)), txt_insAfter_new a i t s h.2.1 hk]
   ·rw [if_neg (by rw [mem_insAfter]; grind), txt_insAfter_new a i t s h.2.2 (by grind)]
theorem par_insFirst_new (p i : Nat) (t : ByteArray) (s : Fo) : ∀ {F : Fo} (up : Nat), i ∉ F.ids → p ∈ F.ids → par i up (insFirst p i t s F) = p
 | .nil, _, _, h => by simp [Fo.ids] at h
 | .nd j u k n, up, h, hp => by
  simp only [Fo.ids, List.mem_cons, List.mem_append, not_or] at h hp
  have hj : ¬ j = i := fun e => h.1 e.symm
  rw [insFirst]
  by_cases e : j = p
  ·rw [if_pos e, par, if_neg hj, if_pos (by simp [Fo.ids]), par, if_pos rfl, e]
  ·rw [if_neg e, par, if_neg hj]
   by_cases hk : p ∈ k.ids
   ·rw [if_pos ((mem_insFirst p i t s i k).2 (Or.inr ⟨hk, Or.inl rfl⟩)), par_insFirst_new p i t s j h.2.1 hk]
   ·rw [if_neg (by rw [mem_insFirst]; grind), par_insFirst_new p i t s up h.2.2 (by grind)]
theorem par_insAfter_new (a i : Nat) (t : ByteArray) (s : Fo) : ∀ {F : Fo} (up : Nat), i ∉ F.ids → a ∈ F.ids → par i up (insAfter a i t s F) = par a up F
 | .nil, _, _, h => by simp [Fo.ids] at h
 | .nd j u k n, up, h, hp => by
  simp only [Fo.ids, List.mem_cons, List.mem_append, not_or] at h hp
  have hj : ¬ j = i := fun e => h.1 e.symm
  rw [insAfter]
  by_cases e : j = a
  ·rw [if_pos e, par, if_neg hj, if_neg h.2.1, par, if_pos rfl, par, if_pos e]
  ·rw [if_neg e, par, if_neg hj, par, if_neg e]
   by_cases hk : a ∈ k.ids
   ·rw [if_pos ((mem_insAfter a i t s i k).2 (Or.inr ⟨hk, Or.inl rfl⟩)), if_pos hk, par_insAfter_new a i t s j h.2.1 hk]
   ·rw [if_neg (by rw [mem_insAfter]; grind), if_neg hk, par_insAfter_new a i t s up h.2.2 (by grind)]
theorem sub_insFirst_in (p i : Nat) (t : ByteArray) (s : Fo) {x : Nat} (hx : x ∈ s.ids) (hxi : x ≠ i) : ∀ {F : Fo}, x ∉ F.ids → p ∈ F.ids → sub x (insFirst p i t s F) = sub x s
 | .nil, _, h => by simp [Fo.ids] at h
 | .nd j u k n, h, hp => by
  simp only [Fo.ids, List.mem_cons, List.mem_append, not_or] at h hp
  have hj : ¬ j = x := fun e => h.1 e.symm
  rw [insFirst]
  by_cases e : j = p
  ·rw [if_pos e, sub, if_neg hj, if_pos (by simp [Fo.ids, hx]), sub, if_neg (fun e => hxi e.symm), if_pos hx]
  ·rw [if_neg e, sub, if_neg hj]
   by_cases hk : p ∈ k.ids
   ·rw [if_pos ((mem_insFirst p i t s x k).2 (Or.inr ⟨hk, Or.inr hx⟩)), sub_insFirst_in p i t s hx hxi h.2.1 hk]
   ·rw [if_neg (by rw [mem_insFirst]; grind), sub_insFirst_in p i t s hx hxi h.2.2 (by grind)]
theorem sub_insAfter_in (a i : Nat) (t : ByteArray) (s : Fo) {x : Nat} (hx : x ∈ s.ids) (hxi : x ≠ i) : ∀ {F : Fo}, x ∉ F.ids → a ∈ F.ids → sub x (insAfter a i t s F) = sub x s
 | .nil, _, h => by simp [Fo.ids] at h
 | .nd j u k n, h, hp => by
  simp only [Fo.ids, List.mem_cons, List.mem_append, not_or] at h hp
  have hj : ¬ j = x := fun e => h.1 e.symm
  rw [insAfter]
  by_cases e : j = a
  ·rw [if_pos e, sub, if_neg hj, if_neg h.2.1, sub, if_neg (fun e => hxi e.symm), if_pos hx]
  ·rw [if_neg e, sub, if_neg hj]
   by_cases hk : a ∈ k.ids
   ·rw [if_pos ((mem_insAfter a i t s x k).2 (Or.inr ⟨hk, Or.inr hx⟩)), sub_insAfter_in a i t s hx hxi h.2.1 hk]
   ·rw [if_neg (by rw [mem_insAfter]; grind), sub_insAfter_in a i t s hx hxi h.2.2 (by grind)]
theorem par_insFirst_in (p i : Nat) (t : ByteArray) (s : Fo) {x : Nat} (hx : x ∈ s.ids) (hxi : x ≠ i) : ∀ {F : Fo} (up : Nat), x ∉ F.ids → p ∈ F.ids → par x up (insFirst p i t s F) = par x i s
 | .nil, _, _, h => by simp [Fo.ids] at h
 | .nd j u k n, up, h, hp => by
  simp only [Fo.ids, List.mem_cons, List.mem_append, not_or] at h hp
  have hj : ¬ j = x := fun e => h.1 e.symm
  rw [insFirst]
  by_cases e : j = p
  ·rw [if_pos e, par, if_neg hj, if_pos (by simp [Fo.ids, hx]), par, if_neg (fun e => hxi e.symm), if_pos hx]
  ·rw [if_neg e, par, if_neg hj]
   by_cases hk : p ∈ k.ids
   ·rw [if_pos ((mem_insFirst p i t s x k).2 (Or.inr ⟨hk, Or.inr hx⟩)), par_insFirst_in p i t s hx hxi j h.2.1 hk]
   ·rw [if_neg (by rw [mem_insFirst]; grind), par_insFirst_in p i t s hx hxi up h.2.2 (by grind)]
theorem par_insAfter_in (a i : Nat) (t : ByteArray) (s : Fo) {x : Nat} (hx : x ∈ s.ids) (hxi : x ≠ i) : ∀ {F : Fo} (up : Nat), x ∉ F.ids → a ∈ F.ids → par x up (insAfter a i t s F) = par x i s
 | .nil, _, _, h => by simp [Fo.ids] at h
 | .nd j u k n, up, h, hp => by
  simp only [Fo.ids, List.mem_cons, List.mem_append, not_or] at h hp
  have hj : ¬ j = x := fun e => h.1 e.symm
  rw [insAfter]
  by_cases e : j = a
  ·rw [if_pos e, par, if_neg hj, if_neg h.2.1, par, if_neg (fun e => hxi e.symm), if_pos hx]
  ·rw [if_neg e, par, if_neg hj]
   by_cases hk : a ∈ k.ids
   ·rw [if_pos ((mem_insAfter a i t s x k).2 (Or.inr ⟨hk, Or.inr hx⟩)), par_insAfter_in a i t s hx hxi j h.2.1 hk]
   ·rw [if_neg (by rw [mem_insAfter]; grind), par_insAfter_in a i t s hx hxi up h.2.2 (by grind)]
theorem txt_insFirst_in (p i : Nat) (t : ByteArray) (s : Fo) {x : Nat} (hx : x ∈ s.ids) (hxi : x ≠ i) : ∀ {F : Fo}, x ∉ F.ids → p ∈ F.ids → txtF x (insFirst p i t s F) = txtF x s
 | .nil, _, h => by simp [Fo.ids] at h
 | .nd j u k n, h, hp => by
  simp only [Fo.ids, List.mem_cons, List.mem_append, not_or] at h hp
  have hj : ¬ j = x := fun e => h.1 e.symm
  rw [insFirst]
  by_cases e : j = p
  ·rw [if_pos e, txtF, if_neg hj, if_pos (by simp [Fo.ids, hx]), txtF, if_neg (fun e => hxi e.symm), if_pos hx]
  ·rw [if_neg e, txtF, if_neg hj]
   by_cases hk : p ∈ k.ids
   ·rw [if_pos ((mem_insFirst p i t s x k).2 (Or.inr ⟨hk, Or.inr hx⟩)), txt_insFirst_in p i t s hx hxi h.2.1 hk]
   ·rw [if_neg (by rw [mem_insFirst]; grind), txt_insFirst_in p i t s hx hxi h.2.2 (by grind)]
theorem txt_insAfter_in (a i : Nat) (t : ByteArray) (s : Fo) {x : Nat} (hx : x ∈ s.ids) (hxi : x ≠ i) : ∀ {F : Fo}, x ∉ F.ids → a ∈ F.ids → txtF x (insAfter a i t s F) = txtF x s
 | .nil, _, h => by simp [Fo.ids] at h
 | .nd j u k n, h, hp => by
  simp only [Fo.ids, List.mem_cons, List.mem_append, not_or] at h hp
  have hj : ¬ j = x := fun e => h.1 e.symm
  rw [insAfter]
  by_cases e : j = a
  ·rw [if_pos e, txtF, if_neg hj, if_neg h.2.1, txtF, if_neg (fun e => hxi e.symm), if_pos hx]
  ·rw [if_neg e, txtF, if_neg hj]
   by_cases hk : a ∈ k.ids
   ·rw [if_pos ((mem_insAfter a i t s x k).2 (Or.inr ⟨hk, Or.inr hx⟩)), txt_insAfter_in a i t s hx hxi h.2.1 hk]
   ·rw [if_neg (by rw [mem_insAfter]; grind), txt_insAfter_in a i t s hx hxi h.2.2 (by grind)]
theorem par_insFirst_old (p i : Nat) (t : ByteArray) (s : Fo) {x : Nat} (hx : x ∉ s.ids) (hxi : x ≠ i) : ∀ (F : Fo) (up : Nat), par x up (insFirst p i t s F) = par x up F
 | .nil, _ => rfl
 | .nd j u k n, up => by
  have m1 : x ∈ (insFirst p i t s k).ids ↔ x ∈ k.ids := by rw [mem_insFirst]; grind
  have m2 : x ∈ (Fo.nd i t s k).ids ↔ x ∈ k.ids := by simp only [Fo.ids, List.mem_cons, List.mem_append]; grind
  rw [insFirst]
  by_cases e : j = p
  ·rw [if_pos e]
   simp only [par, m2, if_neg (fun e : i = x => hxi e.symm), if_neg hx]
  ·rw [if_neg e]
   simp only [par, m1, par_insFirst_old p i t s hx hxi k, par_insFirst_old p i t s hx hxi n]
theorem par_insAfter_old (a i : Nat) (t : ByteArray) (s : Fo) {x : Nat} (hx : x ∉ s.ids) (hxi : x ≠ i) : ∀ (F : Fo) (up : Nat), par x up (insAfter a i t s F) = par x up F
 | .nil, _ => rfl
 | .nd j u k n, up => by
  have m1 : x ∈ (insAfter a i t s k).ids ↔ x ∈ k.ids := by rw [mem_insAfter]; grind
  rw [insAfter]
  by_cases e : j = a
  ·rw [if_pos e]
   simp only [par, if_neg (fun e : i = x => hxi e.symm), if_neg hx]
  ·rw [if_neg e]
   simp only [par, m1, par_insAfter_old a i t s hx hxi k, par_insAfter_old a i t s hx hxi n]
theorem txt_insFirst_old (p i : Nat) (t : ByteArray) (s : Fo) {x : Nat} (hx : x ∉ s.ids) (hxi : x ≠ i) : ∀ (F : Fo), txtF x (insFirst p i t s F) = txtF x F
 | .nil => rfl
 | .nd j u k n => by
  have m1 : x ∈ (insFirst p i t s k).ids ↔ x ∈ k.ids := by rw [mem_insFirst]; grind
  have m2 : x ∈ (Fo.nd i t s k).ids ↔ x ∈ k.ids := by simp only [Fo.ids, List.mem_cons, List.mem_append]; grind
  rw [insFirst]
  by_cases e : j = p
  ·rw [if_pos e]
   simp only [txtF, m2, if_neg (fun e : i = x => hxi e.symm), if_neg hx]
  ·rw [if_neg e]
   simp only [txtF, m1, txt_insFirst_old p i t s hx hxi k, txt_insFirst_old p i t s hx hxi n]
theorem txt_insAfter_old (a i : Nat) (t : ByteArray) (s : Fo) {x : Nat} (hx : x ∉ s.ids) (hxi : x ≠ i) : ∀ (F : Fo), txtF x (insAfter a i t s F) = txtF x F
 | .nil => rfl
 | .nd j u k n => by
  have m1 : x ∈ (insAfter a i t s k).ids ↔ x ∈ k.ids := by rw [mem_insAfter]; grind
  rw [insAfter]
  by_cases e : j = a
  ·rw [if_pos e]
   simp only [txtF, if_neg (fun e : i = x => hxi e.symm), if_neg hx]
  ·rw [if_neg e]
   simp only [txtF, m1, txt_insAfter_old a i t s hx hxi k, txt_insAfter_old a i t s hx hxi n]
theorem txt_del (i a : Nat) : ∀ (G : Fo), G.ids.Nodup → a ∈ (del i G).ids → txtF a (del i G) = txtF a G
 | .nil, _, h => rfl
 | .nd j u k n, hn, h => by
  obtain ⟨n1, n2, n3, n4, n5⟩ := nodup_nd hn
  rw [FP.del] at h ⊢
  by_cases e : j = i
  ·rw [if_pos e] at h ⊢
   rw [txtF, if_neg (fun (g : j = a) => n2 (by rw [g]; exact h)), if_neg (fun g => n5 a g h)]
  ·rw [if_neg e] at h ⊢
   simp only [Fo.ids, List.mem_cons, List.mem_append] at h
   rw [txtF, txtF]
   by_cases e2 : j = a
   ·rw [if_pos e2, if_pos e2]
   ·rw [if_neg e2, if_neg e2]
    by_cases hk : a ∈ (FP.del i k).ids
    ·rw [if_pos hk, if_pos (del_ids_sub i hk)]; exact txt_del i a k n3 hk
    ·have hn' : a ∈ (FP.del i n).ids := by rcases h with g | g | g; exact absurd g.symm e2; exact absurd g hk; exact g
     rw [if_neg hk, if_neg (fun g => n5 a g (del_ids_sub i hn'))]; exact txt_del i a n n4 hn'
theorem par_sub (i a : Nat) : ∀ (G : Fo) (up : Nat), G.ids.Nodup → a ∈ (sub i G).ids → par a up G = par a i (sub i G)
 | .nil, up, _, h => by simp [sub, Fo.ids] at h
 | .nd j u k n, up, hn, h => by
  obtain ⟨n1, n2, n3, n4, n5⟩ := nodup_nd hn
  rw [sub] at h ⊢
  by_cases e : j = i
  ·rw [if_pos e] at h ⊢
   rw [par, if_neg (fun (g : j = a) => n1 (by rw [g]; exact h)), if_pos h, e]
  ·rw [if_neg e] at h ⊢
   by_cases hk : i ∈ k.ids
   ·rw [if_pos hk] at h ⊢
    have ha := sub_ids i h
    rw [par, if_neg (fun (g : j = a) => n1 (by rw [g]; exact ha)), if_pos ha]
    exact par_sub i a k j n3 h
   ·rw [if_neg hk] at h ⊢
    have ha := sub_ids i h
    rw [par, if_neg (fun (g : j = a) => n2 (by rw [g]; exact ha)), if_neg (fun g => n5 a g ha)]
    exact par_sub i a n up n4 h
theorem txt_sub (i a : Nat) : ∀ (G : Fo), G.ids.Nodup → a ∈ (sub i G).ids → txtF a G = txtF a (sub i G)
 | .nil, _, h => by simp [sub, Fo.ids] at h
 | .nd j u k n, hn, h => by
  obtain ⟨n1, n2, n3, n4, n5⟩ := nodup_nd hn
  rw [sub] at h ⊢
  by_cases e : j = i
  ·rw [if_pos e] at h ⊢
   rw [txtF, if_neg (fun (g : j = a) => n1 (by rw [g]; exact h)), if_pos h]
  ·rw [if_neg e] at h ⊢
   by_cases hk : i ∈ k.ids
   ·rw [if_pos hk] at h ⊢
    have ha := sub_ids i h
    rw [txtF, if_neg (fun (g : j = a) => n1 (by rw [g]; exact ha)), if_pos ha]
    exact txt_sub i a k n3 h
   ·rw [if_neg hk] at h ⊢
    have ha := sub_ids i h
    rw [txtF, if_neg (fun (g : j = a) => n2 (by rw [g]; exact ha)), if_neg (fun g => n5 a g ha)]
    exact txt_sub i a n n4 h
theorem sub_sub (i a : Nat) : ∀ (G : Fo), G.ids.Nodup → a ∈ (sub i G).ids → sub a G = sub a (sub i G)
 | .nil, _, h => by simp [sub, Fo.ids] at h
 | .nd j u k n, hn, h => by
  obtain ⟨n1, n2, n3, n4, n5⟩ := nodup_nd hn
  rw [sub.eq_2 i] at h ⊢
  by_cases e : j = i
  ·rw [if_pos e] at h ⊢
   rw [sub, if_neg (fun (g : j = a) => n1 (by rw [g]; exact h)), if_pos h]
  ·rw [if_neg e] at h ⊢
   by_cases hk : i ∈ k.ids
   ·rw [if_pos hk] at h ⊢
    have ha := sub_ids i h
    rw [sub, if_neg (fun (g : j = a) => n1 (by rw [g]; exact ha)), if_pos ha]
    exact sub_sub i a k n3 h
   ·rw [if_neg hk] at h ⊢
    have ha := sub_ids i h
    rw [sub, if_neg (fun (g : j = a) => n2 (by rw [g]; exact ha)), if_neg (fun g => n5 a g ha)]
    exact sub_sub i a n n4 h
theorem set_txt_ne (x : Nat) (t' : ByteArray) {i : Nat} (h : i ≠ x) : ∀ (F : Fo), txtF i (setF x t' F) = txtF i F
 | .nil => rfl
 | .nd j u k n => by
  rw [setF, txtF, txtF, setF_ids, set_txt_ne x t' h k, set_txt_ne x t' h n]
  by_cases e : j = i
  ·rw [if_pos e, if_pos e, if_neg (fun g => h (e ▸ g))]
  ·rw [if_neg e, if_neg e]
theorem set_txt_eq (x : Nat) (t' : ByteArray) : ∀ {F : Fo}, x ∈ F.ids → txtF x (setF x t' F) = t'
 | .nil, h => by simp [Fo.ids] at h
 | .nd j u k n, h => by
  simp only [Fo.ids, List.mem_cons, List.mem_append] at h
  rw [setF, txtF, setF_ids]
  by_cases e : j = x
  ·rw [if_pos e, if_pos e]
  ·rw [if_neg e]
   by_cases hk : x ∈ k.ids
   ·rw [if_pos hk]; exact set_txt_eq x t' hk
   ·rw [if_neg hk]; exact set_txt_eq x t' (by grind)
end Go.Proofs.YtlkheeegkifblaaDoor.FP
namespace Go.Proofs.YtlkheeegkifblaaDoor.FP
open Go.Proofs.YtlkheeegkifblaaDoor.P
structure PutOk (H : Fo) (q : Nat × Nat) (i : Nat) (s : Fo) : Prop where
 nd : H.ids.Nodup
 snd : s.ids.Nodup
 iH : i ∉ H.ids
 is : i ∉ s.ids
 dis : ∀ x ∈ s.ids, x ∉ H.ids
 up : q.1 ∈ H.ids
 at_ : q.2 = 0 ∨ (q.2 ∈ H.ids ∧ par q.2 0 H = q.1)
section
variable {H : Fo} {q : Nat × Nat} {i : Nat} {s : Fo} {t : ByteArray}
theorem PutOk.del (o : PutOk H q i s) : del i (putF H q i t s) = H := by
 unfold putF
 split
 ·exact del_insFirst _ _ _ _ o.iH
 ·exact del_insAfter _ _ _ _ o.iH
theorem PutOk.sub (o : PutOk H q i s) : sub i (putF H q i t s) = s := by
 unfold putF
 split
 ·exact sub_insFirst_new _ _ _ _ o.iH o.up
 ·rename_i h; exact sub_insAfter_new _ _ _ _ o.iH (o.at_.resolve_left h).1
theorem PutOk.txt (o : PutOk H q i s) : txtF i (putF H q i t s) = t := by
 unfold putF
 split
 ·exact txt_insFirst_new _ _ _ _ o.iH o.up
 ·rename_i h; exact txt_insAfter_new _ _ _ _ o.iH (o.at_.resolve_left h).1
theorem PutOk.par (o : PutOk H q i s) : par i 0 (putF H q i t s) = q.1 := by
 unfold putF
 split
 ·exact par_insFirst_new _ _ _ _ _ o.iH o.up
 ·rename_i h
  rw [par_insAfter_new _ _ _ _ _ o.iH (o.at_.resolve_left h).1]; exact (o.at_.resolve_left h).2
theorem PutOk.mem (o : PutOk H q i s) (y : Nat) : y ∈ (putF H q i t s).ids ↔ y = i ∨ y ∈ s.ids ∨ y ∈ H.ids := by
 unfold putF
 split
 ·rw [mem_insFirst]; have := o.up; grind
 ·rename_i h; rw [mem_insAfter]; have := (o.at_.resolve_left h).1; grind
theorem PutOk.perm (o : PutOk H q i s) : (putF H q i t s).ids.Perm (i :: (s.ids ++ H.ids)) := putF_ids o.nd o.up (o.at_.imp id And.left)
theorem PutOk.nodup (o : PutOk H q i s) : (putF H q i t s).ids.Nodup := by
 refine o.perm.nodup_iff.2 (List.nodup_cons.2 ⟨?_, List.nodup_append.2 ⟨o.snd, o.nd, fun a ha b hb e => o.dis a ha (e ▸ hb)⟩⟩)
 rw [List.mem_append]
 exact fun h => h.elim o.is o.iH
theorem PutOk.ne {x : Nat} (o : PutOk H q i s) (hx : x ∈ H.ids) : x ≠ i ∧ x ∉ s.ids := ⟨fun e => o.iH (e ▸ hx), fun g => o.dis x g hx⟩
theorem PutOk.par_old (o : PutOk H q i s) {x : Nat} (hx : x ∈ H.ids) : FP.par x 0 (putF H q i t s) = FP.par x 0 H := by
 obtain ⟨h1, h2⟩ := o.ne hx
 unfold putF
 split
 ·exact par_insFirst_old _ _ _ _ h2 h1 _ _
 ·exact par_insAfter_old _ _ _ _ h2 h1 _ _
theorem PutOk.txt_old (o : PutOk H q i s) {x : Nat} (hx : x ∈ H.ids) : txtF x (putF H q i t s) = txtF x H := by
 obtain ⟨h1, h2⟩ := o.ne hx
 unfold putF
 split
 ·exact txt_insFirst_old _ _ _ _ h2 h1 _
 ·exact txt_insAfter_old _ _ _ _ h2 h1 _
theorem PutOk.par_in (o : PutOk H q i s) {x : Nat} (hx : x ∈ s.ids) : FP.par x 0 (putF H q i t s) = FP.par x i s := by
 have h1 : x ≠ i := fun e => o.is (e ▸ hx)
 unfold putF
 split
 ·exact par_insFirst_in _ _ _ _ hx h1 _ (o.dis x hx) o.up
 ·rename_i h; exact par_insAfter_in _ _ _ _ hx h1 _ (o.dis x hx) (o.at_.resolve_left h).1
theorem PutOk.txt_in (o : PutOk H q i s) {x : Nat} (hx : x ∈ s.ids) : txtF x (putF H q i t s) = txtF x s := by
 have h1 : x ≠ i := fun e => o.is (e ▸ hx)
 unfold putF
 split
 ·exact txt_insFirst_in _ _ _ _ hx h1 (o.dis x hx) o.up
 ·rename_i h; exact txt_insAfter_in _ _ _ _ hx h1 (o.dis x hx) (o.at_.resolve_left h).1
theorem PutOk.sub_in (o : PutOk H q i s) {x : Nat} (hx : x ∈ s.ids) : FP.sub x (putF H q i t s) = FP.sub x s := by
 have h1 : x ≠ i := fun e => o.is (e ▸ hx)
 unfold putF
 split
 ·exact sub_insFirst_in _ _ _ _ hx h1 (o.dis x hx) o.up
 ·rename_i h; exact sub_insAfter_in _ _ _ _ hx h1 (o.dis x hx) (o.at_.resolve_left h).1
end
theorem fnd_congr {G G' : Fo} (h : ∀ y, y ∈ G'.ids ↔ y ∈ G.ids) (x : Int) : fndF G' x = fndF G x := by
 unfold fndF; simp only [h]
theorem mem_del {i y : Nat} {G : Fo} (hn : G.ids.Nodup) (hi : i ∈ G.ids) : y ∈ (del i G).ids ↔ y ∈ G.ids ∧ y ≠ i ∧ y ∉ (sub i G).ids := by
 have hp := ids_del i G hn hi
 obtain ⟨m1, m2⟩ := List.nodup_cons.1 (hp.nodup_iff.1 hn)
 have m3 := (List.nodup_append.1 m2).2.2
 have m4 := hp.mem_iff (a := y)
 simp only [List.mem_cons, List.mem_append] at m4 m1
 constructor
 ·intro h
  exact ⟨m4.2 (Or.inr (Or.inr h)), fun e => m1 (Or.inr (e ▸ h)), fun g => m3 y g y h rfl⟩
 ·rintro ⟨h1, h2, h3⟩
  rcases m4.1 h1 with g | g | g
  ·exact absurd g h2
  ·exact absurd g h3
  ·exact g
structure MvOk (G : Fo) (i : Nat) (q : Nat × Nat) : Prop where
 nd : G.ids.Nodup
 mem : i ∈ G.ids
 put : PutOk (del i G) q i (sub i G)
def mvF (G : Fo) (q : Nat × Nat) (i : Nat) : Fo := putF (del i G) q i (txtF i G) (sub i G)
section
variable {G : Fo} {i : Nat} {q : Nat × Nat}
theorem MvOk.ids (o : MvOk G i q) (y : Nat) : y ∈ (mvF G q i).ids ↔ y ∈ G.ids := by
 unfold mvF
 rw [o.put.mem, mem_del o.nd o.mem]
 have := o.mem
 have h2 : y ∈ (sub i G).ids → y ∈ G.ids := sub_ids i
 grind
theorem MvOk.perm (o : MvOk G i q) : (mvF G q i).ids.Perm G.ids := by
 unfold mvF
 exact o.put.perm.trans (ids_del i G o.nd o.mem).symm
theorem MvOk.nodup (o : MvOk G i q) : (mvF G q i).ids.Nodup := o.put.nodup
theorem MvOk.par_ne (o : MvOk G i q) {x : Nat} (hx : x ∈ G.ids) (hne : x ≠ i) : par x 0 (mvF G q i) = par x 0 G := by
 unfold mvF
 by_cases hs : x ∈ (sub i G).ids
 ·rw [o.put.par_in hs, par_sub i x G 0 o.nd hs]
 ·have hd := (mem_del o.nd o.mem).2 ⟨hx, hne, hs⟩
  rw [o.put.par_old hd, par_del i x G 0 o.nd hd]
theorem MvOk.txt (o : MvOk G i q) {x : Nat} (hx : x ∈ G.ids) : txtF x (mvF G q i) = txtF x G := by
 unfold mvF
 by_cases hne : x = i
 ·subst hne; exact o.put.txt
 ·by_cases hs : x ∈ (sub i G).ids
  ·rw [o.put.txt_in hs, txt_sub i x G o.nd hs]
  ·have hd := (mem_del o.nd o.mem).2 ⟨hx, hne, hs⟩
   rw [o.put.txt_old hd, txt_del i x G o.nd hd]
theorem MvOk.sub_self (o : MvOk G i q) : sub i (mvF G q i) = sub i G := o.put.sub
theorem MvOk.sub_in (o : MvOk G i q) {x : Nat} (hx : x ∈ (sub i G).ids) : sub x (mvF G q i) = sub x G := by
 unfold mvF
 rw [o.put.sub_in hx, sub_sub i x G o.nd hx]
theorem MvOk.del (o : MvOk G i q) : del i (mvF G q i) = del i G := o.put.del
theorem MvOk.again (o : MvOk G i q) (q' : Nat × Nat) : mvF (mvF G q i) q' i = mvF G q' i := by
 have h1 := o.del
 have h2 := o.txt o.mem
 have h3 := o.sub_self
 unfold mvF at h1 h2 h3 ⊢
 rw [h1, h2, h3]
theorem MvOk.under (o : MvOk G i q) (x : Nat) : under i x (mvF G q i) ↔ under i x G := by
 unfold FP.under
 rw [o.sub_self, o.ids]
theorem MvOk.fnd (o : MvOk G i q) (x : Int) : fndF (mvF G q i) x = fndF G x := fnd_congr o.ids x
theorem MvOk.near (o : MvOk G i q) (up at_ : Int) : nearF (mvF G q i) (i : Int) up at_ = nearF G (i : Int) up at_ := by
 unfold nearF
 rw [o.fnd, o.fnd]
 by_cases h1 : fndF G up = 0
 ·rw [if_pos h1, if_pos h1]
 ·rw [if_neg h1, if_neg h1]
  by_cases h2 : fndF G at_ = 0
  ·rw [if_pos h2, if_pos h2]
  ·rw [if_neg h2, if_neg h2]
   by_cases h3 : at_ = (i : Int)
   ·simp only [h3, if_true, ite_self]
   ·obtain ⟨m1, m2⟩ := fndF_mem h2
    rw [o.par_ne m1 (fun e => h3 (by rw [← m2, e]))]
end
theorem move_ok {G : Fo} (hn : G.ids.Nodup) (h0 : ∀ x ∈ G.ids, x ≠ 0) (h3 : 3 ∈ G.tops) {i : Nat} (hi : i ∈ G.ids) (hit : i ∉ G.tops) {up at_ : Int} (hw : ¬ under i (fndF G up) G) : MvOk G i (nearF G (i : Int) up at_) := by
 obtain ⟨h, hr⟩ := reptop_ex G hn h0
 have hp := near_del hr hn h3 hi hit (id := (i : Int)) (up := up) (at_ := at_) rfl hw
 have hperm := ids_del i G hn hi
 obtain ⟨m1, m2⟩ := List.nodup_cons.1 (hperm.nodup_iff.1 hn)
 obtain ⟨m3, m4, m5⟩ := List.nodup_append.1 m2
 rw [List.mem_append, not_or] at m1
 refine ⟨hn, hi, ⟨m4, m3, m1.2, m1.1, fun x hx g => m5 x hx x g rfl, hp.1, hp.2.imp id fun ⟨a1, a2, _⟩ => ⟨a1, ?_⟩⟩⟩
 rw [par_del i _ G 0 hn a1, ← reptop_par hr hn (del_ids_sub i a1)]; exact a2
theorem make_ok {G : Fo} (hn : G.ids.Nodup) (h3 : 3 ∈ G.tops) {i : Nat} (hi : i ∉ G.ids) {up at_ : Int} : PutOk G (nearF G (i : Int) up at_) i .nil := by
 have hp := near_ok (G := G) (tops_ids h3) (i : Int) up at_
 exact ⟨hn, by simp [Fo.ids], hi, by simp [Fo.ids], by simp [Fo.ids], hp.up, hp.at_.imp id fun ⟨a1, a2, _⟩ => ⟨a1, a2⟩⟩
inductive Does (G : Fo) (kd : Int) (i : Nat) (up at_ : Int) (s : ByteArray) : Fo → Prop
 | text (h : kd = 2) (hi : i ∈ G.ids) : Does G kd i up at_ s (setF i s G)
 | make (h : kd = 1) (hi : i ∉ G.ids) (o : PutOk G (nearF G (i : Int) up at_) i .nil) : Does G kd i up at_ s (putF G (nearF G (i : Int) up at_) i s .nil)
 | move (h : kd = 3) (hi : i ∈ G.ids) (hw : ¬ under i (fndF G up) G) (o : MvOk G i (nearF G (i : Int) up at_)) : Does G kd i up at_ s (mvF G (nearF G (i : Int) up at_) i)
 | none (h : (kd = 2 ∧ i ∉ G.ids) ∨ (kd = 1 ∧ i ∈ G.ids) ∨ (kd = 3 ∧ i ∉ G.ids) ∨ (kd = 3 ∧ i ∈ G.ids ∧ under i (fndF G up) G)) : Does G kd i up at_ s G
theorem fnd_nat {G : Fo} {y : Nat} (hy : y ∈ G.ids) : fndF G (y : Int) = y := by unfold fndF; rw [if_pos ⟨by omega, by simpa using hy⟩]; rfl
theorem fnd_not {G : Fo} {y : Nat} (hy : y ∉ G.ids) : fndF G (y : Int) = 0 := by unfold fndF; rw [if_neg (by simpa using hy)]
theorem does {G : Fo} (hn : G.ids.Nodup) (h0 : ∀ x ∈ G.ids, x ≠ 0) (h3 : 3 ∈ G.tops) (kd : Int) (i : Nat) (hit : i ∉ G.tops) (up at_ : Int) (s : ByteArray) (hk : kd = 1 ∨ kd = 2 ∨ kd = 3) : Does G kd i up at_ s (doF G kd (i : Int) up at_ s) := by
 unfold doF
 by_cases hi : i ∈ G.ids
 ·have hi0 := h0 i hi
  rw [fnd_nat hi, if_neg hi0, if_neg hi0, if_neg hi0]
  rcases hk with rfl | rfl | rfl
  ·rw [if_neg (by decide), if_pos rfl]; exact .none (Or.inr (Or.inl ⟨rfl, hi⟩))
  ·rw [if_pos rfl]; exact .text rfl hi
  ·rw [if_neg (by decide), if_neg (by decide)]
   by_cases hu : under i (fndF G up) G
   ·rw [if_pos hu]; exact .none (Or.inr (Or.inr (Or.inr ⟨rfl, hi, hu⟩)))
   ·rw [if_neg hu]; exact .move rfl hi hu (move_ok hn h0 h3 hi hit hu)
 ·rw [fnd_not hi, if_pos rfl, if_pos rfl, if_pos rfl]
  rcases hk with rfl | rfl | rfl
  ·rw [if_neg (by decide), if_pos rfl]; exact .make rfl hi (make_ok hn h3 hi)
  ·rw [if_pos rfl]; exact .none (Or.inl ⟨rfl, hi⟩)
  ·rw [if_neg (by decide), if_neg (by decide)]; exact .none (Or.inr (Or.inr (Or.inl ⟨rfl, hi⟩)))
theorem doF_move {G : Fo} {i : Nat} (hi : i ∈ G.ids) (h0 : i ≠ 0) (u a : Int) (s : ByteArray) (hw : ¬ under i (fndF G u) G) : doF G 3 (i : Int) u a s = mvF G (nearF G (i : Int) u a) i := by
 unfold doF mvF; rw [if_neg (by decide), if_neg (by decide), fnd_nat hi, if_neg h0, if_neg hw]
section
variable {G : Fo} (hn : G.ids.Nodup) (h0 : ∀ x ∈ G.ids, x ≠ 0) (h3 : 3 ∈ G.tops) {kd : Int} {i : Nat} (hi0 : i ≠ 0) (hit : i ∉ G.tops) {up at_ : Int} {s : ByteArray} (hk : kd = 1 ∨ kd = 2 ∨ kd = 3)
end
theorem par_top0 {G : Fo} {x : Nat} : ∀ {F : Fo}, F.ids.Nodup → x ∈ F.tops → par x 0 F = 0
 | .nil, _, h => by simp [Fo.tops] at h
 | .nd j u k n, hn, h => by
  obtain ⟨n1, n2, n3, n4, n5⟩ := nodup_nd hn
  simp only [Fo.tops, List.mem_cons] at h
  rw [par]
  by_cases e : j = x
  ·rw [if_pos e]
  ·have hx : x ∈ n.tops := by grind
   rw [if_neg e, if_neg (fun g => n5 x g (tops_ids hx)), par_top0 (G := G) n4 hx]
theorem near_at_top {G : Fo} (hn : G.ids.Nodup) (h0 : ∀ x ∈ G.ids, x ≠ 0) {H : Fo} {q : Nat × Nat} {i : Nat} {s : Fo} (o : PutOk H q i s) (hH : ∀ x ∈ H.ids, x ≠ 0) : q.2 = 0 ∨ q.2 ∉ H.tops := by
 refine o.at_.imp id fun ⟨h1, h2⟩ ht => ?_
 have := par_top0 (G := G) o.nd ht
 rw [h2] at this
 exact hH _ o.up this
theorem do_tops {G : Fo} (hn : G.ids.Nodup) (h0 : ∀ x ∈ G.ids, x ≠ 0) {kd : Int} {i : Nat} (hi0 : i ≠ 0) (hit : i ∉ G.tops) {up at_ : Int} {s : ByteArray} {G' : Fo} (hd : Does G kd i up at_ s G') : G'.tops = G.tops ∧ G'.ids.Nodup ∧ (∀ x, x ∈ G'.ids ↔ x ∈ G.ids ∨ (kd = 1 ∧ x = i)) := by
 cases hd with
 | text h hi => exact ⟨setF_tops _ _ _, by rw [setF_ids]; exact hn, fun x => by rw [setF_ids, h]; simp⟩
 | make h hi o =>
  refine ⟨putF_tops (near_at_top hn h0 o h0), o.nodup, fun x => ?_⟩
  rw [o.mem]; simp [Fo.ids, h, or_comm]
 | move h hi hw o =>
  refine ⟨?_, o.nodup, fun x => by rw [o.ids, h]; simp⟩
  unfold mvF
  rw [putF_tops (near_at_top hn h0 o.put fun x hx => h0 x (del_ids_sub i hx)), tops_del i G hit]
 | none h => exact ⟨rfl, hn, fun x => ⟨Or.inl, fun g => g.elim id fun ⟨g1, g2⟩ => by rcases h with h | h | h | h <;> first | omega | exact g2 ▸ h.2⟩⟩
end Go.Proofs.YtlkheeegkifblaaDoor.FP
namespace Go.Proofs.YtlkheeegkifblaaDoor.PL
open Go.RowKit Go.Proofs.YtlkheeegkifblaaDoor.P Go.Proofs.YtlkheeegkifblaaDoorW.PrintWords Go.Proofs.YtlkheeegkifblaaDoorW.PrintLast
def Bytes (b : List Int) : Prop := b.length ≤ 2000 ∧ ∀ x ∈ b, 0 ≤ x ∧ x ≤ 255
def Rd (p : Int) (m : Nat) : Prop := 0 ≤ p ∧ p + m ≤ 1000000
theorem Rd.less {p : Int} {m n : Nat} (h : Rd p m) (hn : n ≤ m) : Rd p n := ⟨h.1, by have := h.2; omega⟩
theorem wrap_id (x : Int) (h0 : -9223372036854775808 ≤ x) (h1 : x ≤ 9223372036854775807) : wrap64 x = x := by unfold wrap64; omega
theorem wraps_i64 (n : Int) (h0 : 0 ≤ n) (h1 : n < 2 ^ 62) : IntKind.i64.wrap n = n := by rw [IntKind.wrap_i64]; omega
theorem xor_pos (a b : Int) (ha : 0 ≤ a) (hb : 0 ≤ b) (ha' : a < 4611686018427387904) (hb' : b < 4611686018427387904) : 0 ≤ Go.bits .xor .i64 a b := by
 obtain ⟨m, rfl⟩ : ∃ m : Nat, a = m := ⟨a.toNat, by omega⟩
 obtain ⟨n, rfl⟩ : ∃ n : Nat, b = n := ⟨b.toNat, by omega⟩
 have hm : m < 2 ^ 62 := by omega
 have hn : n < 2 ^ 62 := by omega
 have e1 : m % 2 ^ 64 = m := Nat.mod_eq_of_lt (by omega)
 have e2 : n % 2 ^ 64 = n := Nat.mod_eq_of_lt (by omega)
 have hx : m ^^^ n < 2 ^ 62 := Nat.xor_lt_two_pow hm hn
 have hq : (BitVec.ofNat 64 m ^^^ BitVec.ofNat 64 n).toNat = m ^^^ n := by rw [BitVec.toNat_xor, BitVec.toNat_ofNat, BitVec.toNat_ofNat, e1, e2]
 have h2 : Go.bits .xor .i64 (m : Int) (n : Int) = IntKind.i64.wrap (((BitVec.ofNat 64 m ^^^ BitVec.ofNat 64 n).toNat : Nat) : Int) := by simp only [Go.bits, BitVec.ofInt_natCast]; rfl
 rw [h2, hq, wraps_i64 _ (by omega) (by omega)]
 omega
theorem rd_byte {b : List Int} (hb : Bytes b) (i : Int) : 0 ≤ rd b i ∧ rd b i ≤ 255 := by
 unfold rd
 rw [List.getD_eq_getElem?_getD]
 rcases Nat.lt_or_ge i.toNat b.length with h | h
 ·rw [List.getElem?_eq_getElem h]
  exact hb.2 _ (List.getElem_mem h)
 ·rw [List.getElem?_eq_none h]
  simp
theorem tmod_range (x n : Int) (hx : 0 ≤ x) (hn : 1 ≤ n) : 0 ≤ Int.tmod x n ∧ Int.tmod x n < n := by
 rw [Int.tmod_eq_emod_of_nonneg hx]
 exact ⟨Int.emod_nonneg _ (by omega), Int.emod_lt_of_pos _ (by omega)⟩
theorem pick_f (b : List Int) (p n : Int) (m : Nat) (hb : Bytes b) (hp : Rd p (m + 1)) : ∃ r : Int, Ev (fun k => spec_l6Rd_pick.f k b p n) (r, p + 1) ∧ Rd (p + 1) m ∧ 0 ≤ r ∧ (1 ≤ n → r < n) ∧ (n < 1 → r = 0) := by
 obtain ⟨h0, h1⟩ := hp
 have hR : Rd (p + 1) m := ⟨by omega, by omega⟩
 have w1 : wrap64 (p + 1) = p + 1 := wrap_id _ (by omega) (by omega)
 have w2 : wrap64 (p + 1 - 1) = p := by rw [wrap_id (p + 1 - 1) (by omega) (by omega)]; omega
 unfold spec_l6Rd_pick.f
 rw [w1]
 by_cases hn : n < 1
 ·refine ⟨0, ev_pos hn ?_, hR, Int.le_refl _, fun h => by omega, fun _ => rfl⟩
  refine Ev.step (f := fun _ => some (0, p + 1)) (fun k => ?_) (evnow _)
  simp only [spec_l6Rd_pick.j0, if_true]
 ·by_cases hl : b.length = 0
  ·refine ⟨0, ev_neg hn ?_, hR, Int.le_refl _, fun h => by omega, fun _ => rfl⟩
   refine Ev.step (f := fun _ => some (0, p + 1)) (fun k => ?_) (evnow _)
   have : ((b.length : Int) == 0) = true := by simp [hl]
   simp only [spec_l6Rd_pick.j0, this, if_true]
  ·have hf : ((b.length : Int) == 0) = false := beq_eq_false_iff_ne.2 (by omega)
   by_cases hk : p < (b.length : Int)
   ·have hx := rd_byte hb p
    have hr := tmod_range (wrap64 (rd b p)) n (by rw [wrap_id (rd b p) (by omega) (by omega)]; omega) (by omega)
    refine ⟨Int.tmod (wrap64 (rd b p)) n, ev_neg hn ?_, hR, hr.1, fun _ => hr.2, fun h => absurd h hn⟩
    refine Ev.step (f := fun _ => some (Int.tmod (wrap64 (rd b p)) n, p + 1)) (fun k => ?_) (evnow _)
    simp only [spec_l6Rd_pick.j0, hf, Bool.false_eq_true, if_false, w2]
    rw [if_pos hk, if_pos h0, if_neg (show ¬ n = 0 by omega)]
   ·have hlen : (1 : Int) ≤ b.length := by omega
    have m1 := tmod_range p b.length h0 hlen
    have e7 : wrap64 (p * 7) = p * 7 := wrap_id _ (by omega) (by omega)
    have e73 : wrap64 (p * 7 + 3) = p * 7 + 3 := wrap_id _ (by omega) (by omega)
    have m2 := tmod_range (p * 7 + 3) b.length (by omega) hlen
    have x1 := rd_byte hb (Int.tmod p b.length)
    have x2 := rd_byte hb (Int.tmod (p * 7 + 3) b.length)
    have d1 : 0 ≤ Int.tdiv p b.length ∧ Int.tdiv p b.length ≤ 1000000 := by
     rw [Int.tdiv_eq_ediv_of_nonneg h0]
     exact ⟨Int.ediv_nonneg h0 (by omega), Int.le_trans (Int.ediv_le_self _ h0) (by omega)⟩
    obtain ⟨r, hr⟩ : ∃ r, r = Int.tmod (Go.bits .xor .i64 (wrap64 ((wrap64 ((wrap64 ((wrap64 ((wrap64 (rd b (Int.tmod p (b.length : Int)))) * 131)) + (wrap64 ((wrap64 (rd b (Int.tmod (p * 7 + 3) (b.length : Int)))) * 1117)))) + (wrap64 (p * 29)))) + (wrap64 ((wrap64 (Int.tdiv p (b.length : Int))) * 53)))) (wrap64 (Int.tdiv (wrap64 ((wrap64 ((wrap64 ((wrap64 ((wrap64 (rd b (Int.tmod p (b.length : Int)))) * 131)) + (wrap64 ((wrap64 (rd b (Int.tmod (p * 7 + 3) (b.length : Int)))) * 1117)))) + (wrap64 (p * 29)))) + (wrap64 ((wrap64 (Int.tdiv p (b.length : Int))) * 53)))) 64))) n := ⟨_, rfl⟩
    have hrr : 0 ≤ r ∧ r < n := by
     rw [hr]
     refine tmod_range _ n ?_ (by omega)
     generalize rd b (Int.tmod p (b.length : Int)) = u at x1
     generalize rd b (Int.tmod (p * 7 + 3) (b.length : Int)) = v at x2
     generalize Int.tdiv p (b.length : Int) = d at d1
     rw [wrap_id u (by omega) (by omega), wrap_id v (by omega) (by omega), wrap_id d (by omega) (by omega)]
     rw [wrap_id (u * 131) (by omega) (by omega), wrap_id (v * 1117) (by omega) (by omega), wrap_id (p * 29) (by omega) (by omega), wrap_id (d * 53) (by omega) (by omega)]
     rw [wrap_id (u * 131 + v * 1117) (by omega) (by omega)]
     rw [wrap_id (u * 131 + v * 1117 + p * 29) (by omega) (by omega)]
     rw [wrap_id (u * 131 + v * 1117 + p * 29 + d * 53) (by omega) (by omega)]
     have hs : Int.tdiv (u * 131 + v * 1117 + p * 29 + d * 53) 64 = (u * 131 + v * 1117 + p * 29 + d * 53) / 64 := Int.tdiv_eq_ediv_of_nonneg (by omega)
     rw [hs, wrap_id _ (by omega) (by omega)]
     exact xor_pos _ _ (by omega) (by omega) (by omega) (by omega)
    refine ⟨r, ev_neg hn ?_, hR, hrr.1, fun _ => hrr.2, fun h => absurd h hn⟩
    refine Ev.step (f := fun _ => some (r, p + 1)) (fun k => ?_) (evnow _)
    simp only [spec_l6Rd_pick.j0, hf, Bool.false_eq_true, if_false, w2, e7, e73]
    rw [if_neg hk, if_neg (show ¬ (b.length : Int) = 0 by omega), if_pos m1.1, if_pos m1.2, if_pos m2.1, if_pos m2.2, if_neg (show ¬ n = 0 by omega), hr]
theorem rdR_get (t : List S37) (i : Nat) (h : i < t.length) : rd_T37 t i = t[i] := by
 unfold rd_T37
 rw [List.getD_eq_getElem?_getD, show ((i : Int)).toNat = i from rfl, List.getElem?_eq_getElem h]
 rfl
def atFrom (id : Int) : List S37 → Nat → Int
 | [], _ => -1
 | r :: rest, i => if r.f0 = id then (i : Int) else atFrom id rest (i + 1)
def atI (t : List S37) (id : Int) : Int := atFrom id t 0
theorem at_l0 (t : List S37) (id : Int) (hl : t.length ≤ 1099511627776) : ∀ (n i : Nat), i + n = t.length → Ev (fun k => spec_l2At.l0 k t id i) (atFrom id (t.drop i) i)
 | 0, i, h => by
  rw [List.drop_eq_nil_of_le (by omega)]
  refine Ev.step (f := fun _ => some (-1)) (fun k => ?_) (evnow _)
  simp only [spec_l2At.l0]; rw [if_neg (by omega)]
 | n + 1, i, h => by
  have hi : i < t.length := by omega
  rw [List.drop_eq_getElem_cons hi]
  unfold atFrom
  by_cases hq : t[i].f0 = id
  ·rw [if_pos hq]
   refine Ev.step (f := fun _ => some (i : Int)) (fun k => ?_) (evnow _)
   simp only [spec_l2At.l0]
   rw [if_pos (by omega), if_pos (by omega), rdR_get t i hi, if_pos hq]
  ·rw [if_neg hq]
   refine Ev.step (fun k => ?_) (at_l0 t id hl n (i + 1) (by omega))
   simp only [spec_l2At.l0]
   rw [if_pos (by omega), if_pos (by omega), rdR_get t i hi, if_neg hq, wrapS i (by omega) (by omega)]
   rfl
theorem at_f (t : List S37) (id : Int) (hl : t.length ≤ 1099511627776) : Ev (fun k => spec_l2At.f k t id) (atI t id) := at_l0 t id hl t.length 0 (by omega)
theorem atFrom_spec (id : Int) : ∀ (t : List S37) (i : Nat), (atFrom id t i = -1 ∧ ∀ x ∈ t, x.f0 ≠ id) ∨ ∃ (j : Nat) (h : j < t.length), atFrom id t i = ((i + j : Nat) : Int) ∧ t[j].f0 = id
 | [], i => Or.inl ⟨rfl, fun x hx => by cases hx⟩
 | r :: rest, i => by
  unfold atFrom
  by_cases hq : r.f0 = id
  ·rw [if_pos hq]
   exact Or.inr ⟨0, by simp, by simp, hq⟩
  ·rw [if_neg hq]
   rcases atFrom_spec id rest (i + 1) with ⟨h1, h2⟩ | ⟨j, h, h1, h2⟩
   ·refine Or.inl ⟨h1, fun x hx => ?_⟩
    rcases List.mem_cons.1 hx with rfl | hx
    ·exact hq
    ·exact h2 x hx
   ·exact Or.inr ⟨j + 1, by simp; omega, by rw [h1]; congr 1; omega, by simpa using h2⟩
theorem atI_spec (t : List S37) (id : Int) : (atI t id = -1 ∧ ∀ x ∈ t, x.f0 ≠ id) ∨ ∃ (j : Nat) (h : j < t.length), atI t id = (j : Int) ∧ t[j].f0 = id := by
 rcases atFrom_spec id t 0 with h | ⟨j, h, h1, h2⟩
 ·exact Or.inl h
 ·exact Or.inr ⟨j, h, by rw [atI, h1]; congr 1; omega, h2⟩
theorem atI_mem {t : List S37} {id : Int} {x : S37} (hx : x ∈ t) (h : x.f0 = id) : ∃ (j : Nat) (hj : j < t.length), atI t id = (j : Int) ∧ t[j].f0 = id := by
 rcases atI_spec t id with ⟨_, h2⟩ | h2
 ·exact absurd h (h2 x hx)
 ·exact h2
def endFrom (d : Int) : List S37 → Nat → Nat
 | [], e => e
 | r :: rest, e => if r.f1 > d then endFrom d rest (e + 1) else e
def endI (t : List S37) (i : Nat) : Nat := endFrom (t.getD i z37).f1 (t.drop (i + 1)) (i + 1)
theorem getD_get (t : List S37) (i : Nat) (h : i < t.length) : t.getD i z37 = t[i] := by
 rw [List.getD_eq_getElem?_getD, List.getElem?_eq_getElem h]
 rfl
theorem end_l0 (t : List S37) (a : Nat) (ha : a < t.length) (hl : t.length ≤ 1099511627776) : ∀ (n i : Nat), i + n = t.length → Ev (fun k => spec_l2End.l0 k t a i) (endFrom t[a].f1 (t.drop i) i : Int)
 | 0, i, h => by
  rw [List.drop_eq_nil_of_le (by omega)]
  refine Ev.step (f := fun _ => some (i : Int)) (fun k => ?_) (evnow _)
  simp only [spec_l2End.l0]; rw [if_neg (by omega)]
 | n + 1, i, h => by
  have hi : i < t.length := by omega
  rw [List.drop_eq_getElem_cons hi]
  unfold endFrom
  by_cases hq : t[i].f1 > t[a].f1
  ·rw [if_pos hq]
   refine Ev.step (fun k => ?_) (end_l0 t a ha hl n (i + 1) (by omega))
   simp only [spec_l2End.l0]
   rw [if_pos (by omega), if_pos (by omega), if_pos (by omega), if_pos (by omega), rdR_get t i hi, rdR_get t a ha, if_pos hq, wrapS i (by omega) (by omega)]
   rfl
  ·rw [if_neg hq]
   refine Ev.step (f := fun _ => some (i : Int)) (fun k => ?_) (evnow _)
   simp only [spec_l2End.l0]
   rw [if_pos (by omega), if_pos (by omega), if_pos (by omega), if_pos (by omega), rdR_get t i hi, rdR_get t a ha, if_neg hq]
theorem end_f (t : List S37) (a : Nat) (ha : a < t.length) (hl : t.length ≤ 1099511627776) : Ev (fun k => spec_l2End.f k t a) (endI t a : Int) := by
 have := end_l0 t a ha hl (t.length - (a + 1)) (a + 1) (by omega)
 unfold endI
 rw [getD_get t a ha]
 refine Ev.congr (fun k => ?_) this
 unfold spec_l2End.f
 rw [wrapS a (by omega) (by omega)]
 rfl
theorem endFrom_spec (d : Int) : ∀ (t : List S37) (e : Nat), e ≤ endFrom d t e ∧ endFrom d t e ≤ e + t.length ∧ (∀ (j : Nat) (hj : j < t.length), e + j < endFrom d t e → d < t[j].f1) ∧ (∀ (hj : endFrom d t e - e < t.length), t[endFrom d t e - e].f1 ≤ d)
 | [], e => ⟨Nat.le_refl _, by simp [endFrom], fun j hj => by simp at hj, fun hj => by simp at hj⟩
 | r :: rest, e => by
  by_cases hq : r.f1 > d
  ·have he : endFrom d (r :: rest) e = endFrom d rest (e + 1) := if_pos hq
   obtain ⟨h1, h2, h3, h4⟩ := endFrom_spec d rest (e + 1)
   refine ⟨by rw [he]; omega, by rw [he]; simp; omega, fun j hj hlt => ?_, fun hj => ?_⟩
   ·rw [he] at hlt
    cases j with
    | zero => exact hq
    | succ j => exact h3 j (by simpa using hj) (by omega)
   ·have e1 : endFrom d (r :: rest) e - e = (endFrom d rest (e + 1) - (e + 1)) + 1 := by rw [he]; omega
    have hj' : endFrom d rest (e + 1) - (e + 1) < rest.length := by rw [e1] at hj; simpa using hj
    have := h4 hj'
    simp only [e1, List.getElem_cons_succ]
    exact this
  ·have he : endFrom d (r :: rest) e = e := if_neg hq
   refine ⟨by rw [he]; exact Nat.le_refl _, by rw [he]; omega, fun j hj hlt => by rw [he] at hlt; omega, fun hj => ?_⟩
   have e1 : endFrom d (r :: rest) e - e = 0 := by rw [he]; omega
   simp only [e1, List.getElem_cons_zero]
   omega
theorem endI_spec (t : List S37) (a : Nat) (ha : a < t.length) : a < endI t a ∧ endI t a ≤ t.length ∧ (∀ (j : Nat) (hj : j < t.length), a < j → j < endI t a → t[a].f1 < t[j].f1) ∧ (∀ (hj : endI t a < t.length), t[endI t a].f1 ≤ t[a].f1) := by
 unfold endI
 rw [getD_get t a ha]
 obtain ⟨h1, h2, h3, h4⟩ := endFrom_spec t[a].f1 (t.drop (a + 1)) (a + 1)
 rw [List.length_drop] at h2
 refine ⟨by omega, by omega, fun j hj h5 h6 => ?_, fun hj => ?_⟩
 ·have := h3 (j - (a + 1)) (by rw [List.length_drop]; omega) (by omega)
  rw [List.getElem_drop] at this
  simpa [show a + 1 + (j - (a + 1)) = j by omega] using this
 ·have := h4 (by rw [List.length_drop]; omega)
  rw [List.getElem_drop] at this
  simpa [show a + 1 + (endFrom t[a].f1 (t.drop (a + 1)) (a + 1) - (a + 1)) = endFrom t[a].f1 (t.drop (a + 1)) (a + 1) by omega] using this
def KidOf (t : List S37) (a i : Nat) (x : Int) : Prop := ∃ (ha : a < t.length) (j : Nat) (hj : j < t.length), i ≤ j ∧ j < endI t a ∧ t[j].f0 = x ∧ t[j].f1 = wrap64 (t[a].f1 + 1)
theorem kids_l0 (t : List S37) (a : Nat) (ha : a < t.length) (hl : t.length ≤ 1099511627776) : ∀ (n i : Nat) (acc : List Int), i + n = endI t a → acc.length + n ≤ 1099511627776 →
  ∃ r : List Int, Ev (fun k => spec_l2Kids.l0 k t acc a i) (acc ++ r) ∧ r.length ≤ n ∧ ∀ x ∈ r, KidOf t a i x
 | 0, i, acc, h, hacc => by
  refine ⟨[], ?_, by simp, fun x hx => by cases hx⟩
  rw [List.append_nil]
  refine Ev.step (fun k => by simp only [spec_l2Kids.l0]; rfl) ?_
  refine Ev.bind (end_f t a ha hl) ?_
  refine ev_neg (by omega) ?_
  exact evnow _
 | n + 1, i, acc, h, hacc => by
  obtain ⟨e1, e2, _, _⟩ := endI_spec t a ha
  have hi : i < t.length := by omega
  by_cases hq : t[i].f1 = wrap64 (t[a].f1 + 1)
  ·obtain ⟨r, hr, hlen, hk⟩ := kids_l0 t a ha hl n (i + 1) (acc ++ [t[i].f0]) (by omega) (by simp; omega)
   refine ⟨t[i].f0 :: r, ?_, by simp; omega, fun x hx => ?_⟩
   ·rw [List.append_assoc] at hr
    refine Ev.step (fun k => by simp only [spec_l2Kids.l0]; rfl) ?_
    refine Ev.bind (end_f t a ha hl) ?_
    refine ev_pos (by omega) (ev_pos (by omega) (ev_pos (by omega) (ev_pos (by omega) (ev_pos (by omega) ?_))))
    rw [rdR_get t i hi, rdR_get t a ha, wrapS i (by omega) (by omega)]
    refine ev_pos hq (ev_pos (by omega) ?_)
    exact hr
   ·rcases List.mem_cons.1 hx with rfl | hx
    ·exact ⟨ha, i, hi, Nat.le_refl _, by omega, rfl, hq⟩
    ·obtain ⟨h1, j, hj, h2, h3, h4, h5⟩ := hk x hx
     exact ⟨h1, j, hj, by omega, h3, h4, h5⟩
  ·obtain ⟨r, hr, hlen, hk⟩ := kids_l0 t a ha hl n (i + 1) acc (by omega) (by omega)
   refine ⟨r, ?_, by omega, fun x hx => ?_⟩
   ·refine Ev.step (fun k => by simp only [spec_l2Kids.l0]; rfl) ?_
    refine Ev.bind (end_f t a ha hl) ?_
    refine ev_pos (by omega) (ev_pos (by omega) (ev_pos (by omega) (ev_pos (by omega) (ev_pos (by omega) ?_))))
    rw [rdR_get t i hi, rdR_get t a ha, wrapS i (by omega) (by omega)]
    refine ev_neg hq ?_
    exact hr
   ·obtain ⟨h1, j, hj, h2, h3, h4, h5⟩ := hk x hx
    exact ⟨h1, j, hj, by omega, h3, h4, h5⟩
theorem kids_f (t : List S37) (id : Int) (hl : t.length ≤ 1000000) : ∃ r : List Int, Ev (fun k => spec_l2Kids.f k t id) r ∧ r.length ≤ t.length ∧ ∀ x ∈ r, ∃ a : Nat, atI t id = (a : Int) ∧ KidOf t a (a + 1) x := by
 unfold spec_l2Kids.f
 simp only [Option.bind_some]
 rcases atI_spec t id with ⟨h1, _⟩ | ⟨a, ha, h1, _⟩
 ·refine ⟨[], ?_, by simp, fun x hx => by cases hx⟩
  refine Ev.bind (at_f t id (by omega)) ?_
  rw [h1]
  exact ev_pos (by omega) (evnow _)
 ·obtain ⟨e1, e2, _, _⟩ := endI_spec t a ha
  obtain ⟨r, hr, hlen, hk⟩ := kids_l0 t a ha (by omega) (endI t a - (a + 1)) (a + 1) [] (by omega) (by simp; omega)
  refine ⟨r, ?_, by omega, fun x hx => ⟨a, h1, hk x hx⟩⟩
  refine Ev.bind (at_f t id (by omega)) ?_
  rw [h1]
  refine ev_neg (by omega) ?_
  rw [wrapS a (by omega) (by omega)]
  exact hr
def shift (d : Int) (r : S37) : S37 := ⟨r.f0, wrap64 (r.f1 + d), r.f2⟩
theorem put_l0 (t rows : List S37) (d : Int) (p : Nat) (hp : p ≤ t.length) (hl : t.length ≤ 1000000) (hr : rows.length ≤ 1000000) : ∀ (n i : Nat) (acc : List S37), i + n = rows.length → acc.length + n ≤ 3000000 →
  Ev (fun k => spec_l3Put.l0 k t rows d p acc i) (acc ++ (rows.drop i).map (shift d) ++ t.drop p)
 | 0, i, acc, h, ha => by
  rw [List.drop_eq_nil_of_le (show rows.length ≤ i by omega), List.map_nil, List.append_nil]
  refine Ev.step (fun k => by simp only [spec_l3Put.l0]; rfl) ?_
  refine ev_neg (by omega) (ev_pos (by omega) (ev_pos (by omega) ?_))
  simp only [Option.bind_some]
  refine ev_pos (by rw [List.length_drop]; omega) ?_
  exact evnow _
 | n + 1, i, acc, h, ha => by
  have hi : i < rows.length := by omega
  rw [List.drop_eq_getElem_cons hi, List.map_cons]
  have ih := put_l0 t rows d p hp hl hr n (i + 1) (acc ++ [shift d rows[i]]) (by omega) (by simp; omega)
  rw [List.append_assoc acc] at ih
  refine Ev.step (fun k => by simp only [spec_l3Put.l0]; rfl) ?_
  refine ev_pos (by omega) (ev_pos (by omega) (ev_pos (by omega) ?_))
  rw [rdR_get rows i hi, wrapS i (by omega) (by omega)]
  exact ih
theorem put_f (t rows : List S37) (u a : Int) (hl : t.length ≤ 1000000) (hr : rows.length ≤ 1000000) (h0 : 0 < rows.length) (hu : ∃ x ∈ t, x.f0 = u) (ha : a > 0 → ∃ x ∈ t, x.f0 = a) :
  ∃ (y : S37) (p : Nat), y ∈ t ∧ y.f0 = u ∧ p ≤ t.length ∧ Ev (fun k => spec_l3Put.f k t rows u a) (t.take p ++ rows.map (shift (wrap64 (wrap64 (y.f1 + 1) - rows[0].f1))) ++ t.drop p) := by
 obtain ⟨x, hx, hxu⟩ := hu
 obtain ⟨j, hj, e1, e2⟩ := atI_mem hx hxu
 have fin : ∀ (p : Nat), p ≤ t.length → Ev (fun k => spec_l3Put.j0 k t rows (wrap64 (wrap64 (t[j].f1 + 1) - rows[0].f1)) p) (t.take p ++ rows.map (shift (wrap64 (wrap64 (t[j].f1 + 1) - rows[0].f1))) ++ t.drop p) := fun p hp => by
  refine Ev.step (fun k => by simp only [spec_l3Put.j0]; rfl) ?_
  simp only [Option.bind_some]
  refine ev_pos (by omega) (ev_pos (by omega) ?_)
  refine ev_pos (by simp; omega) ?_
  simp only [List.nil_append, Int.toNat_natCast]
  have := put_l0 t rows (wrap64 (wrap64 (t[j].f1 + 1) - rows[0].f1)) p hp hl hr rows.length 0 (t.take p) (by omega) (by rw [List.length_take]; omega)
  simpa using this
 have r0 : rd_T37 rows 0 = rows[0] := rdR_get rows 0 h0
 by_cases h : a > 0
 ·obtain ⟨x2, hx2, hxa⟩ := ha h
  obtain ⟨i, hi, e3, e4⟩ := atI_mem hx2 hxa
  obtain ⟨_, e5, _, _⟩ := endI_spec t i hi
  refine ⟨t[j], endI t i, List.getElem_mem hj, e2, e5, ?_⟩
  unfold spec_l3Put.f
  refine Ev.bind (at_f t u (by omega)) ?_
  rw [e1]
  refine ev_pos (by omega) (ev_pos (by omega) (ev_pos (by omega) (ev_pos h ?_)))
  refine Ev.bind (at_f t a (by omega)) ?_
  rw [e3]
  refine Ev.bind (end_f t i hi (by omega)) ?_
  rw [rdR_get t j hj, r0]
  exact fin _ e5
 ·refine ⟨t[j], j + 1, List.getElem_mem hj, e2, by omega, ?_⟩
  unfold spec_l3Put.f
  refine Ev.bind (at_f t u (by omega)) ?_
  rw [e1]
  refine ev_pos (by omega) (ev_pos (by omega) (ev_pos (by omega) (ev_neg h ?_)))
  rw [rdR_get t j hj, r0, wrapS j (by omega) (by omega)]
  exact fin (j + 1) (by omega)
theorem under_f (t : List S37) (u id : Int) (k : Nat) (hk : k < t.length) (hi : atI t id = (k : Int)) (hl : t.length ≤ 1000000) :
  Ev (fun n => spec_l2Under.f n t u id) (decide (0 ≤ atI t u) && (decide ((k : Int) ≤ atI t u) && decide (atI t u ≤ (endI t k : Int) - 1))) := by
 obtain ⟨e1, e2, _, _⟩ := endI_spec t k hk
 unfold spec_l2Under.f
 refine Ev.bind (at_f t u (by omega)) ?_
 refine Ev.bind (at_f t id (by omega)) ?_
 rw [hi]
 by_cases h : atI t u ≥ 0
 ·refine ev_pos h (ev_pos (by omega) ?_)
  refine Ev.bind (end_f t k hk (by omega)) ?_
  have hw : wrap64 ((endI t k : Int) - 1) = (endI t k : Int) - 1 := by unfold wrap64; omega
  rw [hw, in_f, decide_eq_true (show 0 ≤ atI t u from h), Bool.true_and]
  simp only [Option.bind_some]
  exact evnow _
 ·rw [decide_eq_false (show ¬ 0 ≤ atI t u from h), Bool.false_and]
  exact ev_neg h (evnow _)
theorem where_l0 (u : Int) (ks : List Int) (kd id up at_ : Int) (s : ByteArray) (hl : ks.length ≤ 1000000) : ∀ (n i : Nat) (a : Int), i + n = ks.length → (a > 0 → a ∈ ks ∧ a ≠ id) → ∃ a' : Int, Ev (fun k => spec_l3Where.l0 k u a ks i kd id up at_ s) (u, a', true) ∧ (a' > 0 → a' ∈ ks ∧ a' ≠ id)
 | 0, i, a, h, ha => ⟨a, by
   refine Ev.step (fun k => by simp only [spec_l3Where.l0]; rfl) ?_
   exact ev_neg (by omega) (evnow _), ha⟩
 | n + 1, i, a, h, ha => by
  have hi : i < ks.length := by omega
  have hrd : rd ks i = ks[i] := by
   unfold rd
   rw [List.getD_eq_getElem?_getD, show ((i : Int)).toNat = i from rfl, List.getElem?_eq_getElem hi]
   rfl
  by_cases hq : ks[i] = at_ ∧ at_ ≠ id
  ·obtain ⟨a', h1, h2⟩ := where_l0 u ks kd id up at_ s hl n (i + 1) at_ (by omega) (fun _ => ⟨hq.1 ▸ List.getElem_mem hi, hq.2⟩)
   refine ⟨a', ?_, h2⟩
   refine Ev.step (fun k => by simp only [spec_l3Where.l0]; rfl) ?_
   rw [hrd, wrapS i (by omega) (by omega)]
   exact ev_pos (by omega) (ev_pos (by omega) (ev_pos hq.1 (ev_neg hq.2 h1)))
  ·obtain ⟨a', h1, h2⟩ := where_l0 u ks kd id up at_ s hl n (i + 1) a (by omega) ha
   refine ⟨a', ?_, h2⟩
   refine Ev.step (fun k => by simp only [spec_l3Where.l0]; rfl) ?_
   rw [hrd, wrapS i (by omega) (by omega)]
   refine ev_pos (by omega) (ev_pos (by omega) ?_)
   by_cases h3 : ks[i] = at_
   ·refine ev_pos h3 (ev_pos ?_ h1)
    by_cases h4 : at_ = id
    ·exact h4
    ·exact absurd ⟨h3, h4⟩ hq
   ·exact ev_neg h3 h1
structure Inv (t : List S37) (B : Int) : Prop where
 deep : ∀ x ∈ t, 0 ≤ x.f1 ∧ x.f1 ≤ B
 root : ∀ x ∈ t, x.f0 = 3 → x.f1 = 0
 found : ∃ x ∈ t, x.f0 = 3
 ids : ∀ x ∈ t, I64 x.f0 ∧ x.f2.size ≤ 2000
def Fits (t : List S37) (kd id : Int) (u a : Int) : Prop :=
 kd ≠ 2 ∧ (kd ≠ 3 → atI t id = -1) ∧ (kd = 3 → ∃ k : Nat, k < t.length ∧ atI t id = (k : Int)) ∧
 ∃ (p : Nat) (hp : p < t.length), t[p].f0 = u ∧ (a > 0 → ∃ (q : Nat) (hq : q < t.length), t[q].f0 = a ∧ ∀ k : Nat, kd = 3 → atI t id = (k : Int) → ¬ (k ≤ q ∧ q < endI t k)) ∧
  ∀ k : Nat, kd = 3 → atI t id = (k : Int) → ¬ (k ≤ p ∧ p < endI t k)
theorem where_f (t : List S37) (B kd id up at_ : Int) (s : ByteArray) (hI : Inv t B) (hB : B ≤ 1099511627776) (hid : id ≠ 3) (hl : t.length ≤ 1000000) :
  ∃ (u a : Int) (ok : Bool), Ev (fun n => spec_l3Where.f n t kd id up at_ s) (u, a, ok) ∧ (ok = true → Fits t kd id u a) := by
 have none_ : ∀ f : Nat → Option (Int × Int × Bool), (∀ n, f n = spec_l3Where.j0 n t true kd id up at_ s) → Ev f (0, 0, false) := fun f hf =>
  Ev.congr hf (Ev.step (f := fun _ => some (0, 0, false)) (fun n => by simp only [spec_l3Where.j0, if_true]) (evnow _))
 unfold spec_l3Where.f
 by_cases h2 : kd = 2
 ·exact ⟨0, 0, false, Ev.bind (at_f t id (by omega)) (ev_pos h2 (none_ _ (fun n => rfl))), fun h => by cases h⟩
 ·by_cases h3 : ((decide (atI t id ≥ 0)) != (kd == 3)) = true
  ·exact ⟨0, 0, false, Ev.bind (at_f t id (by omega)) (ev_neg h2 (ev_pos h3 (none_ _ (fun n => rfl)))), fun h => by cases h⟩
  ·have h3' : decide (atI t id ≥ 0) = (kd == 3) := by simpa using h3
   -- the rest: 'up' is there, or it isn't
   have rest : (∀ (p k : Nat), atI t up = (p : Int) → kd = 3 → atI t id = (k : Int) → ¬ (k ≤ p ∧ p < endI t k)) → ∃ (u a : Int), Ev (fun n => spec_l3Where.j0 n t false kd id up at_ s) (u, a, true) ∧ Fits t kd id u a := by
    intro hout
    have c1 : kd ≠ 3 → atI t id = -1 := fun hk => by
     have : (kd == 3) = false := beq_eq_false_iff_ne.2 hk
     rw [this] at h3'
     have h4 := of_decide_eq_false h3'
     rcases atI_spec t id with ⟨h5, _⟩ | ⟨j, hj, h5, _⟩
     ·exact h5
     ·omega
    have c2 : kd = 3 → ∃ k : Nat, k < t.length ∧ atI t id = (k : Int) := fun hk => by
     have : (kd == 3) = true := beq_iff_eq.2 hk
     rw [this] at h3'
     have h4 := of_decide_eq_true h3'
     rcases atI_spec t id with ⟨h5, _⟩ | ⟨j, hj, h5, _⟩
     ·omega
     ·exact ⟨j, hj, h5⟩
    rcases atI_spec t up with ⟨h5, _⟩ | ⟨p, hp, h5, h6⟩
    ·obtain ⟨x, hx, hx3⟩ := hI.found
     obtain ⟨p, hp, rfl⟩ := List.getElem_of_mem hx
     refine ⟨3, 0, ?_, h2, c1, c2, p, hp, hx3, fun h => by omega, fun k hk hik hin => ?_⟩
     ·refine Ev.step (fun n => by simp only [spec_l3Where.j0]; rfl) ?_
      refine ev_neg (by decide) ?_
      refine Ev.bind (at_f t up (by omega)) ?_
      exact ev_pos (by omega) (evnow _)
     ·obtain ⟨k', hk', e⟩ := c2 hk
      obtain rfl : k' = k := by omega
      rcases Nat.eq_or_lt_of_le hin.1 with e6 | e6
      ·subst e6
       rcases atI_spec t id with ⟨h7, _⟩ | ⟨j, hj, h7, h8⟩
       ·omega
       ·obtain rfl : j = k' := by omega
        exact hid (h8.symm.trans hx3)
      ·have := (endI_spec t k' hk').2.2.1 p hp e6 hin.2
       have d1 := (hI.deep _ (List.getElem_mem hk')).1
       have d2 := hI.root _ hx hx3
       omega
    ·obtain ⟨ks, hks, hkl, hkk⟩ := kids_f t up hl
     obtain ⟨a, ha, hak⟩ := where_l0 up ks kd id up at_ s (by omega) ks.length 0 0 (by omega) (fun h => by omega)
     refine ⟨up, a, ?_, h2, c1, c2, p, hp, h6, fun hpos => ?_, fun k hk hik => hout p k h5 hk hik⟩
     ·refine Ev.step (fun n => by simp only [spec_l3Where.j0]; rfl) ?_
      refine ev_neg (by decide) ?_
      refine Ev.bind (at_f t up (by omega)) ?_
      refine ev_neg (by omega) ?_
      exact Ev.bind hks ha
     ·obtain ⟨hmem, hne⟩ := hak hpos
      obtain ⟨p', hp', hpl, q, hq, hq1, hq2, hq3, hq4⟩ := hkk a hmem
      obtain rfl : p' = p := by omega
      refine ⟨q, hq, hq3, fun k hk hik hin => ?_⟩
      obtain ⟨k', hk', e⟩ := c2 hk
      obtain rfl : k' = k := by omega
      have out := hout p' k' h5 hk hik
      have hkq : k' ≠ q := by
       rintro rfl
       rcases atI_spec t id with ⟨h7, _⟩ | ⟨j, hj, h7, h8⟩
       ·omega
       ·obtain rfl : j = k' := by omega
        exact hne (hq3.symm.trans h8)
      have dq := (endI_spec t k' hk').2.2.1 q hq (by omega) hin.2
      have dB := hI.deep _ (List.getElem_mem hp)
      have hw : wrap64 (t[p'].f1 + 1) = t[p'].f1 + 1 := wrap_id _ (by omega) (by omega)
      rw [hw] at hq4
      rcases Nat.lt_or_ge p' k' with h9 | h9
      ·have := (endI_spec t p' hp).2.2.1 k' hk' h9 (by omega)
       omega
      ·exact out ⟨h9, by omega⟩
   by_cases h4 : atI t id ≥ 0
   ·have h33 : kd = 3 := by
     rw [decide_eq_true h4] at h3'
     exact beq_iff_eq.1 h3'.symm
    rcases atI_spec t id with ⟨h5, _⟩ | ⟨k, hk, h5, h6⟩
    ·omega
    have hu := under_f t up id k hk h5 hl
    cases hd : (decide (0 ≤ atI t up) && (decide ((k : Int) ≤ atI t up) && decide (atI t up ≤ (endI t k : Int) - 1))) with
    | true =>
     rw [hd] at hu
     exact ⟨0, 0, false, Ev.bind (at_f t id (by omega)) (ev_neg h2 (ev_neg h3 (ev_pos h4 (Ev.bind hu (none_ _ (fun n => rfl)))))), fun h => by cases h⟩
    | false =>
     rw [hd] at hu
     obtain ⟨u, a, h7, h8⟩ := rest (fun p k2 hp _ hk2 hin => by
      obtain rfl : k2 = k := by omega
      have : (decide (0 ≤ atI t up) && (decide ((k2 : Int) ≤ atI t up) && decide (atI t up ≤ (endI t k2 : Int) - 1))) = true := by
       simp only [Bool.and_eq_true, decide_eq_true_eq]
       omega
      rw [this] at hd
      cases hd)
     exact ⟨u, a, true, Ev.bind (at_f t id (by omega)) (ev_neg h2 (ev_neg h3 (ev_pos h4 (Ev.bind hu h7)))), fun _ => h8⟩
   ·obtain ⟨u, a, h7, h8⟩ := rest (fun p k2 hp _ hk2 hin => by omega)
    exact ⟨u, a, true, Ev.bind (at_f t id (by omega)) (ev_neg h2 (ev_neg h3 (ev_neg h4 h7))), fun _ => h8⟩
theorem mem_rest {t : List S37} {k e j : Nat} (hj : j < t.length) (h : ¬ (k ≤ j ∧ j < e)) (hk : k ≤ e) : t[j] ∈ t.take k ++ t.drop e := by
 rcases Nat.lt_or_ge j k with h1 | h1
 ·exact List.mem_append_left _ (List.mem_take_iff_getElem.2 ⟨j, by omega, rfl⟩)
 ·exact List.mem_append_right _ (List.mem_drop_iff_getElem.2 ⟨j - e, by omega, by congr 1; omega⟩)
theorem rest_mem {t : List S37} {k e : Nat} {x : S37} (h : x ∈ t.take k ++ t.drop e) : x ∈ t := by
 rcases List.mem_append.1 h with h | h
 ·exact List.mem_of_mem_take h
 ·exact List.mem_of_mem_drop h
theorem Inv.more {t : List S37} {B C : Int} (h : Inv t B) (hc : B ≤ C) : Inv t C := ⟨fun x hx => ⟨(h.deep x hx).1, Int.le_trans (h.deep x hx).2 hc⟩, h.root, h.found, h.ids⟩
theorem do_f (t : List S37) (B kd id up at_ : Int) (s : ByteArray) (hI : Inv t B) (hB0 : 0 ≤ B) (hB : B ≤ 1099511627776) (hk : kd = 1 ∨ kd = 2 ∨ kd = 3) (hid : id ≠ 3) (hid64 : I64 id) (hl : t.length ≤ 100000) (hs : s.size ≤ 2000) :
  ∃ t' : List S37, Ev (fun n => spec_l3Do.f n t kd id up at_ s) t' ∧ Inv t' (2 * B + 1) ∧ (t'.length ≤ t.length + 1 ∧ t.length ≤ t'.length) := by
 have same : ∀ y : List S37, y = t → Inv y (2 * B + 1) ∧ (y.length ≤ t.length + 1 ∧ t.length ≤ y.length) := fun y hy => by
  subst hy
  exact ⟨hI.more (by omega), by omega⟩
 unfold spec_l3Do.f
 by_cases h2 : kd = 2
 ·rcases atI_spec t id with ⟨h5, _⟩ | ⟨k, hk', h5, h6⟩
  ·refine ⟨[] ++ t, Ev.bind (at_f t id (by omega)) (ev_pos h2 ?_), same _ (by simp)⟩
   simp only [Option.bind_some]
   refine ev_pos (by simp; omega) ?_
   rw [h5]
   exact ev_neg (by omega) (evnow _)
  ·refine ⟨t.set k ⟨t[k].f0, t[k].f1, s⟩, Ev.bind (at_f t id (by omega)) (ev_pos h2 ?_), ?_, by rw [List.length_set]; omega⟩
   ·simp only [Option.bind_some]
    refine ev_pos (by simp; omega) ?_
    rw [h5]
    simp only [List.nil_append, Int.toNat_natCast, rdR_get t k hk']
    exact ev_pos (by omega) (ev_pos (by omega) (ev_pos (by omega) (evnow _)))
   ·have hm : ∀ x ∈ t.set k ⟨t[k].f0, t[k].f1, s⟩, ∃ y ∈ t, x.f0 = y.f0 ∧ x.f1 = y.f1 ∧ (x.f2 = s ∨ x.f2 = y.f2) := fun x hx => by
     obtain ⟨i, hi, rfl⟩ := List.getElem_of_mem hx
     rw [List.length_set] at hi
     rw [List.getElem_set]
     split
     ·exact ⟨t[k], List.getElem_mem hk', rfl, rfl, Or.inl rfl⟩
     ·exact ⟨t[i], List.getElem_mem hi, rfl, rfl, Or.inr rfl⟩
    refine ⟨fun x hx => ?_, fun x hx h3 => ?_, ?_, fun x hx => ?_⟩
    ·obtain ⟨y, hy, _, e, _⟩ := hm x hx
     have := hI.deep y hy
     rw [e]; omega
    ·obtain ⟨y, hy, e0, e, _⟩ := hm x hx
     rw [e]
     exact hI.root y hy (e0 ▸ h3)
    ·obtain ⟨x, hx, h3⟩ := hI.found
     obtain ⟨i, hi, rfl⟩ := List.getElem_of_mem hx
     refine ⟨(t.set k ⟨t[k].f0, t[k].f1, s⟩)[i]'(by rw [List.length_set]; exact hi), List.getElem_mem _, ?_⟩
     rw [List.getElem_set]
     split
     ·rename_i e; subst e; exact h3
     ·exact h3
    ·obtain ⟨y, hy, e0, _, e2⟩ := hm x hx
     rw [e0]
     refine ⟨(hI.ids y hy).1, ?_⟩
     rcases e2 with e2 | e2 <;> rw [e2]
     ·exact hs
     ·exact (hI.ids y hy).2
 ·obtain ⟨u, a, ok, hw, hfit⟩ := where_f t B kd id up at_ s hI hB hid (by omega)
  cases ok with
  | false =>
   refine ⟨[] ++ t, Ev.bind (at_f t id (by omega)) (ev_neg h2 (Ev.bind hw (ev_neg (by simp) ?_))), same _ (by simp)⟩
   simp only [Option.bind_some]
   exact ev_pos (by simp; omega) (evnow _)
  | true =>
   obtain ⟨_, c1, c2, p, hp, hpu, hpa, hpo⟩ := hfit rfl
   by_cases h1 : kd = 1
   ·obtain ⟨y, q, hy, hyu, hq, hev⟩ := put_f t [⟨id, 0, s⟩] u a (by omega) (by simp) (by simp) ⟨t[p], List.getElem_mem hp, hpu⟩ (fun h => by
     obtain ⟨q, hq, e, _⟩ := hpa h
     exact ⟨t[q], List.getElem_mem hq, e⟩)
    refine ⟨_, Ev.bind (at_f t id (by omega)) (ev_neg h2 (Ev.bind hw (ev_pos rfl (ev_pos h1 (Ev.bind hev (evnow _)))))), ?_, by simp; omega⟩
    have dy := hI.deep y hy
    have hw1 : wrap64 (wrap64 (y.f1 + 1) - 0) = y.f1 + 1 := by rw [wrap_id (y.f1 + 1) (by omega) (by omega), wrap_id _ (by omega) (by omega)]; omega
    have hmem : ∀ x ∈ t.take q ++ [(⟨id, 0, s⟩ : S37)].map (shift (wrap64 (wrap64 (y.f1 + 1) - ([(⟨id, 0, s⟩ : S37)])[0].f1))) ++ t.drop q, x ∈ t ∨ (x.f0 = id ∧ x.f1 = y.f1 + 1 ∧ x.f2 = s) := fun x hx => by
     rcases List.mem_append.1 hx with hx | hx
     ·rcases List.mem_append.1 hx with hx | hx
      ·exact Or.inl (List.mem_of_mem_take hx)
      ·right
       simp only [List.map_cons, List.map_nil, List.mem_singleton] at hx
       subst hx
       refine ⟨rfl, ?_, rfl⟩
       show wrap64 (0 + wrap64 (wrap64 (y.f1 + 1) - 0)) = y.f1 + 1
       rw [hw1, wrap_id _ (by omega) (by omega)]
       omega
     ·exact Or.inl (List.mem_of_mem_drop hx)
    refine ⟨fun x hx => ?_, fun x hx h3 => ?_, ?_, fun x hx => ?_⟩
    ·rcases hmem x hx with h | ⟨_, h, _⟩
     ·have := hI.deep x h
      omega
     ·rw [h]; omega
    ·rcases hmem x hx with h | ⟨h, _⟩
     ·exact hI.root x h h3
     ·exact absurd (h.symm.trans h3) hid
    ·obtain ⟨x, hx, h3⟩ := hI.found
     rw [← List.take_append_drop q t] at hx
     rcases List.mem_append.1 hx with hx | hx
     ·exact ⟨x, List.mem_append_left _ (List.mem_append_left _ hx), h3⟩
     ·exact ⟨x, List.mem_append_right _ hx, h3⟩
    ·rcases hmem x hx with h | ⟨h, _, h2⟩
     ·exact hI.ids x h
     ·rw [h, h2]; exact ⟨hid64, hs⟩
   ·have h33 : kd = 3 := by
     rcases hk with h | h | h
     ·exact absurd h h1
     ·exact absurd h h2
     ·exact h
    obtain ⟨k, hk', h5⟩ := c2 h33
    obtain ⟨e1, e2, e3, _⟩ := endI_spec t k hk'
    have hkid : t[k].f0 = id := by
     rcases atI_spec t id with ⟨h7, _⟩ | ⟨j, hj, h7, h8⟩
     ·omega
     ·obtain rfl : j = k := by omega
      exact h8
    have hout := hpo k h33 h5
    obtain ⟨rest, hrest⟩ : ∃ r, r = t.take k ++ t.drop (endI t k) := ⟨_, rfl⟩
    obtain ⟨rows, hrows⟩ : ∃ r, r = (t.take (endI t k)).drop k := ⟨_, rfl⟩
    have hrl : rows.length = endI t k - k := by rw [hrows, List.length_drop, List.length_take]; omega
    have hsl : rest.length = k + (t.length - endI t k) := by rw [hrest, List.length_append, List.length_take, List.length_drop]; omega
    have hr0 : rows[0]'(by omega) = t[k] := by
     simp only [hrows, List.getElem_drop, List.getElem_take]
     rfl
    have hrm : ∀ x ∈ rows, ∃ (j : Nat) (hj : j < t.length), k ≤ j ∧ j < endI t k ∧ x = t[j] := fun x hx => by
     rw [hrows] at hx
     obtain ⟨i, hi, rfl⟩ := List.getElem_of_mem hx
     rw [List.length_drop, List.length_take] at hi
     refine ⟨k + i, by omega, by omega, by omega, ?_⟩
     rw [List.getElem_drop, List.getElem_take]
    obtain ⟨y, q, hy, hyu, hq, hev⟩ := put_f rest rows u a (by omega) (by omega) (by omega) ⟨t[p], by rw [hrest]; exact mem_rest hp hout (by omega), hpu⟩ (fun h => by
     obtain ⟨q, hq, e, ho⟩ := hpa h
     exact ⟨t[q], by rw [hrest]; exact mem_rest hq (ho k h33 h5) (by omega), e⟩)
    refine ⟨rest.take q ++ rows.map (shift (wrap64 (wrap64 (y.f1 + 1) - (rows[0]'(by omega)).f1))) ++ rest.drop q, Ev.bind (at_f t id (by omega)) (ev_neg h2 (Ev.bind hw (ev_pos rfl (ev_neg h1 ?_)))), ?_, ?_⟩
    rotate_left
    ·have hyt : y ∈ t := rest_mem (hrest ▸ hy)
     have dy := hI.deep y hyt
     have dk := hI.deep _ (List.getElem_mem hk')
     have hw1 : wrap64 (wrap64 (y.f1 + 1) - (rows[0]'(by omega)).f1) = y.f1 + 1 - t[k].f1 := by rw [hr0, wrap_id (y.f1 + 1) (by omega) (by omega), wrap_id _ (by omega) (by omega)]
     rw [hw1]
     have hmem : ∀ x ∈ rest.take q ++ rows.map (shift (y.f1 + 1 - t[k].f1)) ++ rest.drop q, x ∈ t ∨ (x.f0 ≠ 3 ∧ (0 ≤ x.f1 ∧ x.f1 ≤ 2 * B + 1) ∧ I64 x.f0 ∧ x.f2.size ≤ 2000) := fun x hx => by
      rcases List.mem_append.1 hx with hx | hx
      ·rcases List.mem_append.1 hx with hx | hx
       ·exact Or.inl (rest_mem (hrest ▸ List.mem_of_mem_take hx))
       ·right
        obtain ⟨z, hz, rfl⟩ := List.mem_map.1 hx
        obtain ⟨j, hj, hkj, hje, rfl⟩ := hrm z hz
        have dj := hI.deep _ (List.getElem_mem hj)
        have hge : t[k].f1 ≤ t[j].f1 := by
         rcases Nat.eq_or_lt_of_le hkj with e | e
         ·subst e; exact Int.le_refl _
         ·exact Int.le_of_lt (e3 j hj e hje)
        have hf : (shift (y.f1 + 1 - t[k].f1) t[j]).f1 = t[j].f1 + (y.f1 + 1 - t[k].f1) := wrap_id _ (by omega) (by omega)
        refine ⟨?_, ⟨by rw [hf]; omega, by rw [hf]; omega⟩, hI.ids t[j] (List.getElem_mem hj)⟩
        show t[j].f0 ≠ 3
        intro h3
        rcases Nat.eq_or_lt_of_le hkj with e | e
        ·subst e; exact hid (hkid.symm.trans h3)
        ·have := e3 j hj e hje
         have := hI.root _ (List.getElem_mem hj) h3
         omega
      ·exact Or.inl (rest_mem (hrest ▸ List.mem_of_mem_drop hx))
     refine ⟨fun x hx => ?_, fun x hx h3 => ?_, ?_, fun x hx => ?_⟩
     ·rcases hmem x hx with h | ⟨_, h, _⟩
      ·have := hI.deep x h
       omega
      ·exact h
     ·rcases hmem x hx with h | ⟨h, _⟩
      ·exact hI.root x h h3
      ·exact absurd h3 h
     ·obtain ⟨x, hx, h3⟩ := hI.found
      obtain ⟨j, hj, rfl⟩ := List.getElem_of_mem hx
      have hj3 : ¬ (k ≤ j ∧ j < endI t k) := by
       rintro ⟨g1, g2⟩
       rcases Nat.eq_or_lt_of_le g1 with e | e
       ·subst e; exact hid (hkid.symm.trans h3)
       ·have := e3 j hj e g2
        have := hI.root _ (List.getElem_mem hj) h3
        omega
      have hxr : t[j] ∈ rest := by rw [hrest]; exact mem_rest hj hj3 (by omega)
      rw [← List.take_append_drop q rest] at hxr
      rcases List.mem_append.1 hxr with hx | hx
      ·exact ⟨_, List.mem_append_left _ (List.mem_append_left _ hx), h3⟩
      ·exact ⟨_, List.mem_append_right _ hx, h3⟩
     ·rcases hmem x hx with h | ⟨_, _, h⟩
      ·exact hI.ids x h
      ·exact h
    ·rw [List.length_append, List.length_append, List.length_map, List.length_take, List.length_drop]
     omega
    ·rw [h5]
     refine Ev.bind (end_f t k hk' (by omega)) ?_
     simp only [Option.bind_some, Int.toNat_natCast]
     refine ev_pos (by omega) (ev_pos (by omega) (ev_pos (by omega) ?_))
     refine ev_pos (by rw [List.length_drop, List.length_take]; simp; omega) ?_
     refine ev_pos (by omega) ?_
     refine ev_pos (by rw [List.length_take]; simp; omega) ?_
     refine ev_pos (by omega) ?_
     refine ev_pos (by rw [List.length_append, List.length_take, List.length_drop]; simp; omega) ?_
     simp only [List.nil_append]
     rw [← hrest, ← hrows]
     exact Ev.bind hev (evnow _)
end Go.Proofs.YtlkheeegkifblaaDoor.PL
namespace Go.Proofs.YtlkheeegkifblaaDoor.PL
open Go.RowKit Go.Proofs.YtlkheeegkifblaaDoor.P Go.Proofs.YtlkheeegkifblaaDoorW.PrintWords Go.Proofs.YtlkheeegkifblaaDoorW.PrintLast Go.Proofs.YtlkheeegkifblaaDoor.FP
structure Good (G : Fo) : Prop where
 nd : G.ids.Nodup
 ne0 : ∀ x ∈ G.ids, x ≠ 0
 tops : G.tops = [1, 2, 3]
 len : G.ids.length ≤ 1000
theorem Good.three {G : Fo} (g : Good G) : 3 ∈ G.tops := by rw [g.tops]; simp
theorem fl_le : ∀ (F : Fo) (d : Nat) {r : S37}, r ∈ F.fl d → r.f1 < (d : Int) + F.ids.length
 | .nil, d, r, h => by simp [Fo.fl] at h
 | .nd j t k n, d, r, h => by
  simp only [Fo.fl, List.mem_cons, List.mem_append] at h
  simp only [Fo.ids, List.length_cons, List.length_append]
  rcases h with rfl | h | h
  ·show (d : Int) < _; omega
  ·have := fl_le k (d + 1) h; omega
  ·have := fl_le n d h; omega
theorem atFrom_pre {r : S37} {rest : List S37} {id : Int} (hr : r.f0 = id) : ∀ (pre : List S37) (i : Nat), (∀ q ∈ pre, q.f0 ≠ id) → atFrom id (pre ++ r :: rest) i = ((i + pre.length : Nat) : Int)
 | [], i, _ => by simp [atFrom, hr]
 | q :: pre, i, h => by
  rw [List.cons_append, atFrom, if_neg (h q List.mem_cons_self), atFrom_pre hr pre (i + 1) fun x hx => h x (List.mem_cons_of_mem _ hx), List.length_cons]
  congr 1; omega
theorem at_pre {r : S37} {pre rest : List S37} {id : Int} (hr : r.f0 = id) (h : ∀ q ∈ pre, q.f0 ≠ id) : atI (pre ++ r :: rest) id = (pre.length : Int) := by
 rw [atI, atFrom_pre hr pre 0 h, Nat.zero_add]
theorem at_none {t : List S37} {id : Int} (h : ∀ q ∈ t, q.f0 ≠ id) : atI t id = -1 := by
 rcases atI_spec t id with ⟨e, _⟩ | ⟨j, hj, _, e⟩
 ·exact e
 ·exact absurd e (h _ (List.getElem_mem hj))
theorem spot_at {x d : Nat} {G : Fo} {pre post : List S37} (s : Spot x d G pre post) : atI (G.fl d) (x : Int) = (pre.length : Int) := by
 rw [s.all]; exact at_pre rfl s.out
theorem spot_len {x d : Nat} {G : Fo} {pre post : List S37} (s : Spot x d G pre post) : (G.fl d).length = pre.length + 1 + (sub x G).ids.length + post.length := by
 have := congrArg List.length s.all
 simp only [List.length_append, List.length_cons, fl_len] at this ⊢
 omega
theorem spot_get {x d : Nat} {G : Fo} {pre post : List S37} (s : Spot x d G pre post) (h : pre.length < (G.fl d).length) : (G.fl d)[pre.length] = ⟨(x : Int), (dep x d G : Int), txtF x G⟩ := by
 simp [s.all]
theorem at_fnd0 {G : Fo} {x : Int} (h : fndF G x = 0) (h0 : ∀ y ∈ G.ids, y ≠ 0) : atI (G.fl 0) x = -1 := at_none fun q hq e => by
 obtain ⟨i, hi, e2⟩ := fl_ids G 0 hq
 have hx : x = (i : Int) := by rw [← e, e2]
 unfold fndF at h
 rw [if_pos ⟨by omega, by rw [hx]; exact hi⟩, hx] at h
 exact h0 i hi h
theorem fndF_zero {G : Fo} (h0 : ∀ y ∈ G.ids, y ≠ 0) {x : Int} : fndF G x = 0 ↔ ∀ y ∈ G.ids, (y : Int) ≠ x := by
 constructor
 ·intro h y hy e
  unfold fndF at h
  rw [if_pos ⟨by omega, by rw [← e]; exact hy⟩, ← e] at h
  exact h0 y hy h
 ·intro h
  unfold fndF
  rw [if_neg]
  rintro ⟨h1, h2⟩
  exact h _ h2 (by omega)
theorem fndF_nat {G : Fo} {y : Nat} (hy : y ∈ G.ids) : fndF G (y : Int) = y := by
 unfold fndF
 rw [if_pos ⟨by omega, show (y : Int).toNat ∈ G.ids from hy⟩]; rfl
theorem fndF_cases {G : Fo} (g : Good G) (i : Nat) : (i ∈ G.ids ∧ fndF G (i : Int) = i) ∨ (i ∉ G.ids ∧ fndF G (i : Int) = 0) := by
 by_cases hi : i ∈ G.ids
 ·exact Or.inl ⟨hi, fndF_nat hi⟩
 ·exact Or.inr ⟨hi, (fndF_zero g.ne0).2 fun y hy e => hi ((show y = i by omega) ▸ hy)⟩
def wfR (r : S37) : Prop := I64 r.f0 ∧ r.f2.size ≤ 9223372036854775807
theorem treeGo_congr : ∀ (l : List S37) (s s' : List Int) (roots d : Int), (∀ x, x ∈ s ↔ x ∈ s') → treeGo s roots d l = treeGo s' roots d l
 | [], _, _, _, _, _ => rfl
 | r :: rest, s, s', roots, d, h => by
  have hc : ∀ x, x ∈ r.f0 :: s ↔ x ∈ r.f0 :: s' := fun x => by simp only [List.mem_cons, h x]
  have hd : decide (r.f0 ∉ s) = decide (r.f0 ∉ s') := by simp only [h r.f0]
  unfold treeGo
  rw [hd, treeGo_congr rest _ _ (roots + 1) r.f1 hc, treeGo_congr rest _ _ roots r.f1 hc]
theorem rowB_deep {r : S37} (h : rowB r = true) : 0 ≤ r.f1 ∧ r.f1 ≤ 18 := by
 obtain ⟨_, _, d0, d18⟩ := rowB_id h
 exact ⟨d0, d18⟩
theorem st_l1 (t : List S37) (hl : t.length ≤ 1000000000) (roots : Int) (i : Nat) (hi : i < t.length) (b : Bool) (hnext : Ev (fun k => spec_TreeOk.l0 k t roots ((i : Int) + 1)) b) : ∀ (n j : Nat), j + n = i → Ev (fun k => spec_TreeOk.l1 k t roots i j) (decide (t[i].f0 ∉ ((t.take i).drop j).map (·.f0)) && b)
 | 0, j, h => by
  have hji : j = i := by omega
  subst hji
  rw [List.drop_eq_nil_of_le (by rw [List.length_take]; omega)]
  refine Ev.step (fun k => by simp only [spec_TreeOk.l1]; rfl) ?_
  refine ev_neg (by omega) ?_
  rw [wrapS j (by omega) (by omega)]
  simpa using hnext
 | n + 1, j, h => by
  have hj : j < (t.take i).length := by rw [List.length_take]; omega
  have hjt : j < t.length := by omega
  rw [List.drop_eq_getElem_cons hj, List.map_cons, List.getElem_take]
  refine Ev.step (fun k => by simp only [spec_TreeOk.l1]; rfl) ?_
  refine ev_pos (by omega) (ev_pos (by omega) (ev_pos (by omega) (ev_pos (by omega) (ev_pos (by omega) ?_))))
  rw [rdR_get t j hjt, rdR_get t i hi, wrapS j (by omega) (by omega)]
  by_cases hq : t[j].f0 = t[i].f0
  ·refine ev_pos hq ?_
   rw [decide_eq_false (by simp [hq]), Bool.false_and]
   exact evnow _
  ·refine ev_neg hq ?_
   have ih := st_l1 t hl roots i hi b hnext n (j + 1) (by omega)
   have e : decide (t[i].f0 ∉ t[j].f0 :: ((t.take i).drop (j + 1)).map (·.f0)) = decide (t[i].f0 ∉ ((t.take i).drop (j + 1)).map (·.f0)) := by
    rw [decide_eq_decide, List.mem_cons, not_or]
    exact ⟨fun q => q.2, fun q => ⟨fun e => hq e.symm, q⟩⟩
   rw [e]
   exact ih
theorem st_l0 (t : List S37) (hl : t.length ≤ 1000000000) (hw : ∀ r ∈ t, wfR r) : ∀ (n i : Nat) (roots : Int) (h : i + n = t.length) (h1 : 0 < i) (h2 : i ≤ t.length), 0 ≤ roots → roots ≤ i → rowB (t[i - 1]'(by omega)) = true →
  Ev (fun k => spec_TreeOk.l0 k t roots i) (treeGo ((t.take i).map (·.f0)) roots (t[i - 1]'(by omega)).f1 (t.drop i) && ((t[0]'(by omega)).f0 == 1))
 | 0, i, roots, h, h1, h2, r0, r1, hp => by
  rw [List.drop_eq_nil_of_le (by omega)]
  refine Ev.step (fun k => by simp only [spec_TreeOk.l0]; rfl) ?_
  refine ev_neg (by omega) ?_
  unfold treeGo
  by_cases hr : roots = 3
  ·refine ev_pos hr (ev_pos (by omega) ?_)
   rw [decide_eq_true hr, Bool.true_and, show rd_T37 t 0 = t[0]'(by omega) from rdR_get t 0 (by omega)]
   exact evnow _
  ·refine ev_neg hr ?_
   rw [decide_eq_false hr, Bool.false_and]
   exact evnow _
 | n + 1, i, roots, h, h1, h2, r0, r1, hp => by
  have hi : i < t.length := by omega
  have hi1 : i - 1 < t.length := by omega
  obtain ⟨w0, w1⟩ := hw t[i] (List.getElem_mem hi)
  obtain ⟨d0, d18⟩ := rowB_deep hp
  rw [List.drop_eq_getElem_cons hi]
  refine Ev.step (fun k => by simp only [spec_TreeOk.l0]; rfl) ?_
  refine ev_pos (by omega) (ev_pos (by omega) ?_)
  rw [rdR_get t i hi]
  refine Ev.bind (srow_f t[i] w0 w1) ?_
  unfold treeGo
  cases hrow : rowB t[i] with
  | false =>
   simp only [Bool.false_eq_true, if_false, Bool.false_and]
   refine Ev.step (fun k => by simp only [spec_TreeOk.j1]; rfl) ?_
   exact ev_pos trivial (evnow _)
  | true =>
   simp only [if_true, Bool.true_and]
   have hw1 : wrap64 ((i : Int) - 1) = ((i - 1 : Nat) : Int) := by rw [wrap_id _ (by omega) (by omega)]; omega
   rw [hw1]
   refine ev_pos (by omega) (ev_pos (by omega) (ev_pos (by omega) ?_))
   rw [rdR_get t (i - 1) hi1, wrap_id (t[i - 1].f1 + 1) (by omega) (by omega)]
   refine Ev.step (fun k => by simp only [spec_TreeOk.j1]; rfl) ?_
   by_cases hd : t[i].f1 > t[i - 1].f1 + 1
   ·refine ev_pos (by simpa using hd) ?_
    rw [decide_eq_false (show ¬ t[i].f1 ≤ t[i - 1].f1 + 1 by omega), Bool.false_and, Bool.and_false, Bool.false_and]
    exact evnow _
   ·refine ev_neg (by simpa using hd) (ev_pos (by omega) (ev_pos (by omega) ?_))
    rw [decide_eq_true (show t[i].f1 ≤ t[i - 1].f1 + 1 by omega), Bool.true_and, rdR_get t i hi, root_f]
    simp only [Option.bind_some]
    have hseen : ∀ x, x ∈ (t.take (i + 1)).map (·.f0) ↔ x ∈ t[i].f0 :: (t.take i).map (·.f0) := fun x => by
     rw [List.take_succ_eq_append_getElem hi, List.map_append, List.mem_append, List.mem_cons]
     simp [or_comm]
    have hstep : ∀ (roots' : Int), 0 ≤ roots' → roots' ≤ (i + 1 : Nat) → Ev (fun k => spec_TreeOk.j2 k t roots' i) (decide (t[i].f0 ∉ (t.take i).map (·.f0)) && (treeGo (t[i].f0 :: (t.take i).map (·.f0)) roots' t[i].f1 (t.drop (i + 1)) && ((t[0]'(by omega)).f0 == 1))) := fun roots' q0 q1 => by
     refine Ev.step (fun k => by simp only [spec_TreeOk.j2]; rfl) ?_
     have ih := st_l0 t hl hw n (i + 1) roots' (by omega) (by omega) (by omega) q0 q1 hrow
     have ih2 : Ev (fun k => spec_TreeOk.l0 k t roots' ((i : Int) + 1)) (treeGo (t[i].f0 :: (t.take i).map (·.f0)) roots' t[i].f1 (t.drop (i + 1)) && ((t[0]'(by omega)).f0 == 1)) := by
      rw [← treeGo_congr (t.drop (i + 1)) _ _ roots' t[i].f1 hseen]
      exact ih
     have := st_l1 t hl roots' i hi _ ih2 i 0 (by omega)
     rw [List.drop_zero] at this
     exact this
    cases hroot : rootB t[i].f0 with
    | true =>
     simp only [if_true]
     have hw2 : wrap64 (roots + 1) = roots + 1 := wrap_id _ (by omega) (by omega)
     rw [hw2]
     by_cases he : t[i].f0 = roots + 1
     ·refine ev_pos he ?_
      rw [decide_eq_true he, Bool.true_and, Bool.and_assoc]
      exact hstep (roots + 1) (by omega) (by omega)
     ·refine ev_neg he ?_
      rw [decide_eq_false he, Bool.false_and, Bool.and_false, Bool.false_and]
      exact evnow _
    | false =>
     simp only [Bool.false_eq_true, if_false]
     rw [Bool.and_assoc]
     exact hstep roots r0 (by omega)
theorem stree_f (t : List S37) (hl : t.length ≤ 1000000000) (hw : ∀ r ∈ t, wfR r) : Ev (fun k => spec_TreeOk.f k t) (treeB t) := by
 unfold spec_TreeOk.f treeB
 cases t with
 | nil =>
  refine Ev.step (fun k => by simp only [spec_TreeOk.l0]; rfl) ?_
  exact ev_neg (by simp) (ev_neg (by decide) (evnow _))
 | cons r rest =>
  obtain ⟨w0, w1⟩ := hw r List.mem_cons_self
  have hr0 : rd_T37 (r :: rest) 0 = r := rdR_get (r :: rest) 0 (by simp)
  refine Ev.step (fun k => by simp only [spec_TreeOk.l0]; rfl) ?_
  refine ev_pos (by simp) (ev_pos (by omega) ?_)
  rw [hr0]
  refine Ev.bind (srow_f r w0 w1) ?_
  unfold treeGo
  cases hrow : rowB r with
  | false =>
   simp only [Bool.false_eq_true, if_false, Bool.false_and]
   refine Ev.step (fun k => by simp only [spec_TreeOk.j1]; rfl) ?_
   exact ev_pos trivial (evnow _)
  | true =>
   simp only [if_true, Bool.true_and]
   refine ev_neg (by omega) ?_
   refine Ev.step (fun k => by simp only [spec_TreeOk.j1]; rfl) ?_
   refine ev_neg (by decide) (ev_pos (by omega) (ev_pos (by simp) ?_))
   rw [hr0, root_f]
   simp only [Option.bind_some]
   have hstep : ∀ (roots' : Int), 0 ≤ roots' → roots' ≤ 1 → Ev (fun k => spec_TreeOk.j2 k (r :: rest) roots' 0) (treeGo [r.f0] roots' r.f1 rest && (r.f0 == 1)) := fun roots' q0 q1 => by
    refine Ev.step (fun k => by simp only [spec_TreeOk.j2]; rfl) ?_
    have ih := st_l0 (r :: rest) hl hw rest.length 1 roots' (by simp; omega) (by omega) (by simp) q0 (by omega) hrow
    have := st_l1 (r :: rest) hl roots' 0 (by simp) _ ih 0 0 rfl
    simpa using this
   have hdp := rowB_deep hrow
   cases hroot : rootB r.f0 with
   | true =>
    simp only [if_true]
    have hd : r.f1 = 0 := by
     unfold rowB at hrow
     rw [if_pos hroot] at hrow
     simp only [Bool.and_eq_true, decide_eq_true_eq] at hrow
     exact hrow.1
    rw [decide_eq_true (show r.f1 ≤ -1 + 1 by omega), Bool.true_and, show wrap64 (0 + 1) = 1 from wrap_id (0 + 1) (by omega) (by omega)]
    by_cases he : r.f0 = 1
    ·refine ev_pos he ?_
     have := hstep 1 (by omega) (by omega)
     have e1 : (r.f0 == 1) = true := beq_iff_eq.2 he
     rw [e1, Bool.and_true] at this
     simpa [he] using this
    ·refine ev_neg he ?_
     rw [decide_eq_false (show ¬ r.f0 = 0 + 1 by omega), Bool.false_and, Bool.and_false]
     exact evnow _
   | false =>
    simp only [Bool.false_eq_true, if_false]
    have hd : 1 ≤ r.f1 := by
     unfold rowB at hrow
     rw [if_neg (by rw [hroot]; decide)] at hrow
     simp only [Bool.and_eq_true, decide_eq_true_eq] at hrow
     exact hrow.2.1
    have hne : (r.f0 == 1) = false := beq_eq_false_iff_ne.2 fun e => by rw [e] at hroot; exact absurd hroot (by decide)
    rw [decide_eq_false (show ¬ r.f1 ≤ -1 + 1 by omega), Bool.false_and, Bool.and_false]
    have := hstep 0 (by omega) (by omega)
    rwa [hne, Bool.and_false] at this
theorem good_fold : ∀ (l : List S37) (G : Fo) (seen : List Int) (roots : Nat), treeGo seen (roots : Int) ((dpth G : Int) - 1) l = true → G.ids.Nodup → (∀ x ∈ G.ids, x ≠ 0 ∧ x < 37 ∧ (x : Int) ∈ seen) → G.tops = List.range' 1 roots →
  (l.foldl (fun G x => snoc x.f0.toNat x.f2 x.f1.toNat G) G).ids.Nodup ∧ (∀ x ∈ (l.foldl (fun G x => snoc x.f0.toNat x.f2 x.f1.toNat G) G).ids, x ≠ 0 ∧ x < 37) ∧ (l.foldl (fun G x => snoc x.f0.toNat x.f2 x.f1.toNat G) G).tops = [1, 2, 3]
 | [], G, seen, roots, h, hn, hs, ht => by
  unfold treeGo at h
  have h3 := of_decide_eq_true h
  refine ⟨hn, fun x hx => ⟨(hs x hx).1, (hs x hx).2.1⟩, ?_⟩
  show G.tops = _
  rw [ht, show roots = 3 by omega]; rfl
 | x :: l, G, seen, roots, h, hn, hs, ht => by
  unfold treeGo at h
  simp only [Bool.and_eq_true, decide_eq_true_eq] at h
  obtain ⟨hrow, hns, hdep, hrest⟩ := h
  obtain ⟨b0, b37, d0, d18⟩ := rowB_id hrow
  have he : x.f1.toNat ≤ dpth G := by omega
  have hd : ((dpth (snoc x.f0.toNat x.f2 x.f1.toNat G) : Int) - 1) = x.f1 := by rw [snoc_dpth _ _ G _ he]; omega
  have hx0 : x.f0.toNat ≠ 0 := by
   intro e
   have e2 : x.f0 = 0 := by omega
   unfold rowB at hrow
   rw [e2] at hrow
   have r0 : rootB (0 : Int) = false := by decide
   have m0 : madeB (0 : Int) = false := by decide
   simp [r0, m0] at hrow
  have hi : x.f0.toNat ∉ G.ids := fun hc => hns (by have := (hs _ hc).2.2; rwa [show ((x.f0.toNat : Nat) : Int) = x.f0 by omega] at this)
  have hn2 : (snoc x.f0.toNat x.f2 x.f1.toNat G).ids.Nodup := by
   rw [snoc_ids]
   exact List.nodup_append.2 ⟨hn, by simp, fun a ha b hb e => by rw [List.mem_singleton.1 hb] at e; exact hi (e ▸ ha)⟩
  have hs2 : ∀ y ∈ (snoc x.f0.toNat x.f2 x.f1.toNat G).ids, y ≠ 0 ∧ y < 37 ∧ (y : Int) ∈ x.f0 :: seen := fun y hy => by
   rw [snoc_ids] at hy
   rcases List.mem_append.1 hy with hy | hy
   ·obtain ⟨q1, q2, q3⟩ := hs y hy; exact ⟨q1, q2, List.mem_cons_of_mem _ q3⟩
   ·rw [List.mem_singleton.1 hy]
    exact ⟨hx0, by omega, by rw [show ((x.f0.toNat : Nat) : Int) = x.f0 by omega]; exact List.mem_cons_self⟩
  rw [List.foldl_cons]
  by_cases hroot : rootB x.f0 = true
  ·rw [if_pos hroot, Bool.and_eq_true, decide_eq_true_eq] at hrest
   have hd0 : x.f1 = 0 := by
    unfold rowB at hrow
    rw [if_pos hroot] at hrow
    simp only [Bool.and_eq_true, decide_eq_true_eq] at hrow
    exact hrow.1
   refine good_fold l _ (x.f0 :: seen) (roots + 1) ?_ hn2 hs2 ?_
   ·rw [hd]; exact hrest.2
   ·rw [snoc_tops _ _ G _ he, if_pos (by omega), ht, List.range'_concat]
    rw [show x.f0.toNat = 1 + 1 * roots by omega]
  ·rw [if_neg hroot] at hrest
   have hd1 : 1 ≤ x.f1 := by
    unfold rowB at hrow
    rw [if_neg hroot] at hrow
    simp only [Bool.and_eq_true, decide_eq_true_eq] at hrow
    exact hrow.2.1
   refine good_fold l _ (x.f0 :: seen) roots ?_ hn2 hs2 ?_
   ·rw [hd]; exact hrest
   ·rw [snoc_tops _ _ G _ he, if_neg (by omega), ht]
theorem good_of {l : List S37} (h : treeB l = true) : Good (toFo l) := by
 obtain ⟨h1, h2, h3⟩ := good_fold l .nil [] 0 h (by simp [Fo.ids]) (by simp [Fo.ids]) rfl
 exact ⟨h1, fun x hx => (h2 x hx).1, h3, by have := nodup_len 37 _ h1 (fun x hx => (h2 x hx).2); unfold toFo; omega⟩
theorem opB_kind {k i u a : Int} {s : ByteArray} (h : opB k i u a s = true) : k = 1 ∨ k = 2 ∨ k = 3 := by
 unfold opB at h
 by_cases h1 : k = 1
 ·exact Or.inl h1
 ·by_cases h2 : k = 2
  ·exact Or.inr (Or.inl h2)
  ·by_cases h3 : k = 3
   ·exact Or.inr (Or.inr h3)
   ·rw [if_neg h1, if_neg h2, if_neg h3] at h; simp at h
def opDoR (l : List S37) (k i u a : Int) (s : ByteArray) : List S37 := if opB k i u a s = true then (if treeB l = true then (doF (toFo l) k i u a s).fl 0 else []) else []
theorem iopDo_f (l : List S37) (k i u a : Int) (s : ByteArray) (hs : s.size ≤ 9223372036854775807) : Ev (fun n => impl_OpDo.f n l k i u a s) (opDoR l k i u a s) := by
 unfold impl_OpDo.f opDoR
 exact Ev.bind (opOk_f k i u a s hs) (evnow _)
def okT (x : Nat) (t : ByteArray) : Bool := if rootB (x : Int) then (t.toList == ([] : List UInt8)) else madeB (x : Int) && textB t
structure Val (G : Fo) : Prop where
 nd : G.ids.Nodup
 tops : G.tops = [1, 2, 3]
 ok : ∀ x ∈ G.ids, okT x (txtF x G) = true
theorem okT_ne {x : Nat} {t : ByteArray} (h : okT x t = true) : 1 ≤ x ∧ x < 37 := by
 unfold okT at h
 by_cases hr : rootB (x : Int) = true
 ·unfold rootB at hr; simp only [Bool.and_eq_true, decide_eq_true_eq] at hr; omega
 ·rw [if_neg hr, Bool.and_eq_true] at h
  have := made_small _ h.1
  obtain ⟨m, hm, h4, h37⟩ := made_num h.1
  omega
theorem Val.ne0 {G : Fo} (v : Val G) : ∀ x ∈ G.ids, x ≠ 0 := fun x hx => by have := okT_ne (v.ok x hx); omega
theorem Val.three {G : Fo} (v : Val G) : 3 ∈ G.tops := by rw [v.tops]; simp
theorem made_not_root {x : Int} (h : madeB x = true) : rootB x = false := by
 obtain ⟨m, rfl, h4, h37⟩ := made_num h
 unfold rootB; simp; omega
theorem Val.top {G : Fo} (v : Val G) {x : Nat} (hm : madeB (x : Int) = true) : x ∉ G.tops := by
 have := made_not_root hm
 rw [v.tops]
 intro h
 simp only [List.mem_cons, List.not_mem_nil, or_false] at h
 rcases h with rfl | rfl | rfl <;> exact absurd this (by decide)
theorem sub_len : ∀ (l m : List Nat), l.Nodup → (∀ x ∈ l, x ∈ m) → l.length ≤ m.length
 | [], m, _, _ => Nat.zero_le _
 | x :: l, m, hn, h => by
  obtain ⟨h1, h2⟩ := List.nodup_cons.1 hn
  have := sub_len l (m.erase x) h2 fun y hy => (List.mem_erase_of_ne (fun (e : y = x) => h1 (e ▸ hy))).2 (h y (List.mem_cons_of_mem _ hy))
  rw [List.length_erase_of_mem (h x List.mem_cons_self)] at this
  have := List.length_pos_of_mem (h x List.mem_cons_self)
  simp only [List.length_cons]; omega
theorem made_list : ∀ n : Nat, n < 37 → madeB (n : Int) = true → n ∈ [11, 12, 13, 14, 15, 16, 21, 22, 23, 24, 25, 26, 31, 32, 33, 34, 35, 36] := by decide
theorem all_list : ∀ n : Nat, n < 37 → (rootB (n : Int) || madeB (n : Int)) = true → n ∈ [1, 2, 3, 11, 12, 13, 14, 15, 16, 21, 22, 23, 24, 25, 26, 31, 32, 33, 34, 35, 36] := by decide
theorem Val.len {G : Fo} (v : Val G) : G.ids.length ≤ 21 := sub_len _ [1, 2, 3, 11, 12, 13, 14, 15, 16, 21, 22, 23, 24, 25, 26, 31, 32, 33, 34, 35, 36] v.nd fun x hx => by
 have h := v.ok x hx
 have h2 := okT_ne h
 refine all_list x h2.2 ?_
 unfold okT at h
 by_cases hr : rootB (x : Int) = true
 ·rw [hr]; rfl
 ·rw [if_neg hr, Bool.and_eq_true] at h
  rw [h.1, Bool.or_true]
theorem Val.good {G : Fo} (v : Val G) : Good G := ⟨v.nd, v.ne0, v.tops, by have := v.len; omega⟩
theorem made_of_ok {x : Nat} {t : ByteArray} (h : okT x t = true) (h3 : 4 ≤ x) : madeB (x : Int) = true ∧ textB t = true := by
 unfold okT at h
 have hr : ¬ rootB (x : Int) = true := by unfold rootB; simp; omega
 rwa [if_neg hr, Bool.and_eq_true] at h
theorem treeGo_rows : ∀ (l : List S37) (seen : List Int) (roots d : Int), treeGo seen roots d l = true → ∀ r ∈ l, rowB r = true
 | [], _, _, _, _, r, hr => by cases hr
 | x :: l, seen, roots, d, h, r, hr => by
  unfold treeGo at h
  simp only [Bool.and_eq_true] at h
  obtain ⟨h1, _, _, h2⟩ := h
  rcases List.mem_cons.1 hr with rfl | hr
  ·exact h1
  ·split at h2
   ·simp only [Bool.and_eq_true] at h2; exact treeGo_rows l _ _ _ h2.2 r hr
   ·exact treeGo_rows l _ _ _ h2 r hr
theorem row_fl {G : Fo} (hn : G.ids.Nodup) {x d : Nat} (hx : x ∈ G.ids) : (⟨(x : Int), (dep x d G : Int), txtF x G⟩ : S37) ∈ G.fl d := by
 obtain ⟨pre, post, s⟩ := spot x G d hn hx
 rw [s.all]; simp
theorem val_of {l : List S37} (h : treeB l = true) : Val (toFo l) := by
 have g := good_of h
 refine ⟨g.nd, g.tops, fun x hx => ?_⟩
 have hr := row_fl g.nd (d := 0) hx
 rw [toFo_fl h] at hr
 have := treeGo_rows l _ _ _ h _ hr
 unfold rowB at this
 unfold okT
 simp only at this
 split
 ·rename_i e; rw [if_pos e, Bool.and_eq_true] at this; exact this.2
 ·rename_i e; rw [if_neg e] at this; simp only [Bool.and_eq_true] at this; rw [this.1, this.2.2.2]; rfl
theorem go_in : ∀ (F : Fo) (d : Nat) (seen : List Int) (roots prev : Int) (rest : List S37), 1 ≤ d → (d : Int) ≤ prev + 1 → F.ids.Nodup → (∀ x ∈ F.ids, (x : Int) ∉ seen) → (∀ r ∈ F.fl d, rowB r = true ∧ rootB r.f0 = false) →
  (∀ (seen' : List Int) (prev' : Int), (d : Int) ≤ prev' + 1 → (∀ y, y ∈ seen' ↔ y ∈ seen ∨ ∃ x ∈ F.ids, y = (x : Int)) → treeGo seen' roots prev' rest = true) → treeGo seen roots prev (F.fl d ++ rest) = true
 | .nil, d, seen, roots, prev, rest, h1, hd, hn, hs, hr, k => k seen prev hd fun y => by simp [Fo.ids]
 | .nd j t k n, d, seen, roots, prev, rest, h1, hd, hn, hs, hr, kk => by
  obtain ⟨n1, n2, n3, n4, n5⟩ := nodup_nd hn
  obtain ⟨q1, q2⟩ := hr ⟨(j : Int), (d : Int), t⟩ (by simp [Fo.fl])
  simp only at q2
  rw [Fo.fl, List.cons_append, List.append_assoc]
  unfold treeGo
  simp only [q1, q2, Bool.true_and, Bool.false_eq_true, if_false]
  rw [decide_eq_true (hs j (by simp [Fo.ids])), decide_eq_true hd, Bool.true_and, Bool.true_and]
  refine go_in k (d + 1) _ roots d _ (by omega) (by omega) n3 (fun x hx => ?_) (fun r hr' => hr r (by simp [Fo.fl, hr'])) fun seen1 prev1 hp1 hs1 => ?_
  ·rw [List.mem_cons, not_or]
   exact ⟨fun e => n1 (by rw [show j = x by omega]; exact hx), hs x (by simp [Fo.ids, hx])⟩
  ·refine go_in n d seen1 roots prev1 rest h1 (by omega) n4 (fun x hx => ?_) (fun r hr' => hr r (by simp [Fo.fl, hr'])) fun seen2 prev2 hp2 hs2 => ?_
   ·rw [hs1, List.mem_cons]
    rintro ((e | e) | ⟨z, hz, e⟩)
    ·exact n2 (by rw [show j = x by omega]; exact hx)
    ·exact hs x (by simp [Fo.ids, hx]) e
    ·exact n5 z hz (by rw [show z = x by omega]; exact hx)
   ·refine kk seen2 prev2 hp2 fun y => ?_
    rw [hs2, hs1]
    simp only [Fo.ids, List.mem_cons, List.mem_append]
    constructor
    ·rintro (((e | e) | ⟨x, hx, e⟩) | ⟨x, hx, e⟩)
     ·exact Or.inr ⟨j, Or.inl rfl, e⟩
     ·exact Or.inl e
     ·exact Or.inr ⟨x, Or.inr (Or.inl hx), e⟩
     ·exact Or.inr ⟨x, Or.inr (Or.inr hx), e⟩
    ·rintro (e | ⟨x, rfl | hx | hx, e⟩)
     ·exact Or.inl (Or.inl (Or.inr e))
     ·exact Or.inl (Or.inl (Or.inl e))
     ·exact Or.inl (Or.inr ⟨x, hx, e⟩)
     ·exact Or.inr ⟨x, hx, e⟩
theorem fl_get {F : Fo} {d : Nat} {r : S37} (hn : F.ids.Nodup) (h : r ∈ F.fl d) : ∃ x ∈ F.ids, r = ⟨(x : Int), (dep x d F : Int), txtF x F⟩ := by
 obtain ⟨x, hx, e⟩ := fl_ids F d h
 obtain ⟨pre, post, s⟩ := spot x F d hn hx
 refine ⟨x, hx, ?_⟩
 have hm := fl_map F d
 have hnd : ((F.fl d).map (·.f0)).Nodup := by
  rw [hm]
  exact (List.pairwise_map.2 (List.Pairwise.imp (fun {a b} (hne : a ≠ b) => (by intro e2; exact hne (Int.ofNat.inj e2) : Int.ofNat a ≠ Int.ofNat b)) hn))
 rw [s.all] at h hnd
 rw [List.map_append, List.map_cons, List.nodup_append] at hnd
 obtain ⟨_, h2, h3⟩ := hnd
 rcases List.mem_append.1 h with h | h
 ·exact absurd e (s.out r h)
 ·rcases List.mem_cons.1 h with h | h
  ·exact h
  ·exfalso
   refine (List.nodup_cons.1 h2).1 ?_
   rw [← e]
   exact List.mem_map.2 ⟨r, h, rfl⟩
theorem three_shape {G : Fo} (h : G.tops = [1, 2, 3]) : ∃ t1 k1 t2 k2 t3 k3, G = .nd 1 t1 k1 (.nd 2 t2 k2 (.nd 3 t3 k3 .nil)) := by
 match G, h with
 | .nd a t1 k1 (.nd b t2 k2 (.nd c t3 k3 .nil)), h =>
  simp only [Fo.tops, List.cons.injEq, and_true] at h
  obtain ⟨rfl, rfl, rfl⟩ := h
  exact ⟨t1, k1, t2, k2, t3, k3, rfl⟩
theorem treeB_fl {G : Fo} (v : Val G) : treeB (G.fl 0) = true := by
 have hok := v.ok
 have hnd := v.nd
 obtain ⟨t1, k1, t2, k2, t3, k3, rfl⟩ := three_shape v.tops
 obtain ⟨a1, a2, a3, a4, a5⟩ := nodup_nd hnd
 obtain ⟨b1, b2, b3, b4, b5⟩ := nodup_nd a4
 obtain ⟨c1, c2, c3, c4, c5⟩ := nodup_nd b4
 simp only [Fo.ids, List.mem_cons, List.mem_append, not_or, List.not_mem_nil, or_false, not_false_eq_true, and_true] at a2 a5 b2 b5
 replace a5 : ∀ x ∈ k1.ids, (x = 2 ∨ x ∈ k2.ids ∨ x = 3 ∨ x ∈ k3.ids) → False := fun x hx g => by have := a5 x hx; grind
 replace b5 : ∀ x ∈ k2.ids, (x = 3 ∨ x ∈ k3.ids) → False := fun x hx g => by have := b5 x hx; grind
 have big : ∀ k : Fo, k.ids.Nodup → (∀ x ∈ k.ids, x ≠ 1 ∧ x ≠ 2 ∧ x ≠ 3) → (∀ x ∈ k.ids, okT x (txtF x k) = true) → ∀ r ∈ k.fl 1, rowB r = true ∧ rootB r.f0 = false := by
  intro k hn hne hk r hr
  obtain ⟨x, hx, rfl⟩ := fl_get hn hr
  have h4 := hne x hx
  have h5 := okT_ne (hk x hx)
  obtain ⟨m1, m2⟩ := made_of_ok (hk x hx) (by omega)
  have mr := made_not_root m1
  have hd := fl_deep k 1 hr
  have hl := fl_le k 1 hr
  have hlen : k.ids.length ≤ 18 := sub_len _ [11, 12, 13, 14, 15, 16, 21, 22, 23, 24, 25, 26, 31, 32, 33, 34, 35, 36] hn fun y hy => by
   have g4 := hne y hy
   have g5 := okT_ne (hk y hy)
   exact made_list y g5.2 (made_of_ok (hk y hy) (by omega)).1
  simp only at hd hl
  refine ⟨?_, mr⟩
  unfold rowB
  simp only [mr, Bool.false_eq_true, if_false, m1, m2, Bool.true_and, Bool.and_true]
  rw [decide_eq_true (by omega), decide_eq_true (by omega)]; rfl
 have root : ∀ (x : Nat) (t : ByteArray), rootB (x : Int) = true → okT x t = true → rowB ⟨(x : Int), 0, t⟩ = true := by
  intro x t hr h
  unfold okT at h
  rw [if_pos hr] at h
  unfold rowB
  simp only [hr, if_true, h]; rfl
 have o1 : okT 1 t1 = true := by have := hok 1 (by simp [Fo.ids]); rwa [txtF, if_pos rfl] at this
 have o2 : okT 2 t2 = true := by have := hok 2 (by simp [Fo.ids]); rwa [txtF, if_neg (by decide), if_neg (fun g => a5 2 g (Or.inl rfl)), txtF, if_pos rfl] at this
 have o3 : okT 3 t3 = true := by have := hok 3 (by simp [Fo.ids]); rwa [txtF, if_neg (by decide), if_neg (fun g => a5 3 g (Or.inr (Or.inr (Or.inl rfl)))), txtF, if_neg (by decide), if_neg (fun g => b5 3 g (Or.inl rfl)), txtF, if_pos rfl] at this
 have i1 : ∀ x ∈ k1.ids, okT x (txtF x k1) = true := fun x hx => by
  have := hok x (by simp [Fo.ids, hx])
  rwa [txtF, if_neg (fun e => a1 (by rw [e]; exact hx)), if_pos hx] at this
 have i2 : ∀ x ∈ k2.ids, okT x (txtF x k2) = true := fun x hx => by
  have := hok x (by simp [Fo.ids, hx])
  rwa [txtF, if_neg (fun e => a2.2.1 (by rw [e]; exact hx)), if_neg (fun g => a5 x g (by grind)), txtF, if_neg (fun e => b1 (by rw [e]; exact hx)), if_pos hx] at this
 have i3 : ∀ x ∈ k3.ids, okT x (txtF x k3) = true := fun x hx => by
  have := hok x (by simp [Fo.ids, hx])
  rwa [txtF, if_neg (fun e => a2.2.2.2 (by rw [e]; exact hx)), if_neg (fun g => a5 x g (by grind)), txtF, if_neg (fun e => b2.2 (by rw [e]; exact hx)), if_neg (fun g => b5 x g (by grind)), txtF, if_neg (fun e => c1 (by rw [e]; exact hx)), if_pos hx] at this
 have e1 := big k1 a3 (fun x hx => ⟨fun e => a1 (e ▸ hx), fun e => a5 x hx (Or.inl e), fun e => a5 x hx (Or.inr (Or.inr (Or.inl e)))⟩) i1
 have e2 := big k2 b3 (fun x hx => ⟨fun e => a2.2.1 (e ▸ hx), fun e => b1 (e ▸ hx), fun e => b5 x hx (Or.inl e)⟩) i2
 have e3 := big k3 c3 (fun x hx => ⟨fun e => a2.2.2.2 (e ▸ hx), fun e => b2.2 (e ▸ hx), fun e => c1 (e ▸ hx)⟩) i3
 have r1 := root 1 t1 (by decide) o1
 have r2 := root 2 t2 (by decide) o2
 have r3 := root 3 t3 (by decide) o3
 simp only [Fo.fl, Nat.zero_add, List.append_nil]
 unfold treeB
 have q1 : rootB ((1 : Nat) : Int) = true := by decide
 have q2 : rootB ((2 : Nat) : Int) = true := by decide
 have q3 : rootB ((3 : Nat) : Int) = true := by decide
 unfold treeGo
 simp only [Int.natCast_zero] at r1 r2 r3 ⊢
 rw [r1, Bool.true_and, decide_eq_true (by simp), Bool.true_and, decide_eq_true (by omega), Bool.true_and, if_pos q1, decide_eq_true (by omega), Bool.true_and]
 refine go_in k1 1 _ _ _ _ (by omega) (by omega) a3 (fun x hx => ?_) e1 fun s1 p1 hp1 hs1 => ?_
 ·simp only [List.mem_cons, List.not_mem_nil, or_false]
  intro e; exact a1 (by rw [show 1 = x by omega]; exact hx)
 unfold treeGo
 have z2 : ((2 : Nat) : Int) ∉ s1 := by
  rw [hs1]; simp only [List.mem_cons, List.not_mem_nil, or_false]
  rintro (e | ⟨x, hx, e⟩)
  ·omega
  ·exact a5 x hx (Or.inl (by omega))
 simp only
 rw [r2, Bool.true_and, decide_eq_true z2, Bool.true_and, decide_eq_true (by omega), Bool.true_and, if_pos q2, decide_eq_true (by omega), Bool.true_and]
 refine go_in k2 1 _ _ _ _ (by omega) (by omega) b3 (fun x hx => ?_) e2 fun s2 p2 hp2 hs2 => ?_
 ·rw [List.mem_cons, hs1]; simp only [List.mem_cons, List.not_mem_nil, or_false]
  rintro (e | e | ⟨y, hy, e⟩)
  ·exact b1 (by rw [show 2 = x by omega]; exact hx)
  ·exact a2.2.1 (by rw [show 1 = x by omega]; exact hx)
  ·exact a5 y hy (by rw [show y = x by omega]; exact Or.inr (Or.inl hx))
 unfold treeGo
 have z3 : ((3 : Nat) : Int) ∉ s2 := by
  rw [hs2, List.mem_cons, hs1]; simp only [List.mem_cons, List.not_mem_nil, or_false]
  rintro ((e | e | ⟨x, hx, e⟩) | ⟨x, hx, e⟩)
  ·omega
  ·omega
  ·exact a5 x hx (Or.inr (Or.inr (Or.inl (by omega))))
  ·exact b5 x hx (Or.inl (by omega))
 simp only
 rw [r3, Bool.true_and, decide_eq_true z3, Bool.true_and, decide_eq_true (by omega), Bool.true_and, if_pos q3, decide_eq_true (by omega), Bool.true_and]
 rw [← List.append_nil (k3.fl 1)]
 refine go_in k3 1 _ _ _ _ (by omega) (by omega) c3 (fun x hx => ?_) e3 fun s3 p3 hp3 hs3 => ?_
 ·rw [List.mem_cons, hs2, List.mem_cons, hs1]; simp only [List.mem_cons, List.not_mem_nil, or_false]
  rintro (e | (e | e | ⟨y, hy, e⟩) | ⟨y, hy, e⟩)
  ·exact c1 (by rw [show 3 = x by omega]; exact hx)
  ·exact b2.2 (by rw [show 2 = x by omega]; exact hx)
  ·exact a2.2.2.2 (by rw [show 1 = x by omega]; exact hx)
  ·exact a5 y hy (by rw [show y = x by omega]; exact Or.inr (Or.inr (Or.inr hx)))
  ·exact b5 y hy (by rw [show y = x by omega]; exact Or.inr hx)
 unfold treeGo
 exact decide_eq_true (by omega)
theorem Val.does {G : Fo} (v : Val G) {k u a : Int} {i : Nat} {s : ByteArray} (h : opB k (i : Int) u a s = true) : Does G k i u a s (doF G k i u a s) :=
 FP.does v.nd v.ne0 v.three k i (v.top (opB_made _ _ _ _ _ h)) u a s (opB_kind h)
theorem opB_text {k i u a : Int} {s : ByteArray} (h : opB k i u a s = true) (hk : k = 1 ∨ k = 2) : textB s = true := by
 unfold opB at h
 simp only [Bool.and_eq_true] at h
 rcases hk with rfl | rfl
 ·rw [if_pos rfl, Bool.and_eq_true] at h; exact h.2.2
 ·rw [if_neg (by decide), if_pos rfl] at h; simp only [Bool.and_eq_true] at h; exact h.2.2
theorem okT_made {x : Nat} {t : ByteArray} (h : madeB (x : Int) = true) (ht : textB t = true) : okT x t = true := by
 unfold okT; rw [made_not_root h, h, ht]; rfl
theorem Val.done {G : Fo} (v : Val G) {k u a : Int} {i : Nat} {s : ByteArray} (h : opB k (i : Int) u a s = true) {G' : Fo} (hd : Does G k i u a s G') : Val G' := by
 have hm := opB_made _ _ _ _ _ h
 have hi0 : i ≠ 0 := by rintro rfl; exact absurd hm (by decide)
 obtain ⟨h1, h2, h3⟩ := do_tops v.nd v.ne0 hi0 (v.top hm) hd
 refine ⟨h2, h1.trans v.tops, fun x hx => ?_⟩
 cases hd with
 | text hk hi =>
  rw [setF_ids] at hx
  by_cases e : x = i
  ·subst e; rw [set_txt_eq _ _ hi]; exact okT_made hm (opB_text h (Or.inr hk))
  ·rw [set_txt_ne _ _ e]; exact v.ok x hx
 | make hk hi o =>
  rcases (o.mem x).1 hx with rfl | g | g
  ·rw [o.txt]; exact okT_made hm (opB_text h (Or.inl hk))
  ·simp [Fo.ids] at g
  ·rw [o.txt_old g]; exact v.ok x g
 | move hk hi hw o => rw [o.txt ((o.ids x).1 hx)]; exact v.ok x ((o.ids x).1 hx)
 | none hk => exact v.ok x hx
theorem Val.doF {G : Fo} (v : Val G) {k u a : Int} {i : Nat} {s : ByteArray} (h : opB k (i : Int) u a s = true) : Val (doF G k i u a s) := v.done h (v.does h)
theorem opDo_val {l : List S37} {k u a : Int} {i : Nat} {s : ByteArray} (ho : opB k (i : Int) u a s = true) (ht : treeB l = true) :
  opDoR l k i u a s = (FP.doF (toFo l) k i u a s).fl 0 ∧ treeB (opDoR l k i u a s) = true ∧ toFo (opDoR l k i u a s) = FP.doF (toFo l) k i u a s ∧ Val (FP.doF (toFo l) k i u a s) := by
 have e : opDoR l k i u a s = (FP.doF (toFo l) k i u a s).fl 0 := by unfold opDoR; rw [if_pos ho, if_pos ht]
 have v := (val_of ht).doF ho
 have ht2 : treeB (opDoR l k i u a s) = true := by rw [e]; exact treeB_fl v
 exact ⟨e, ht2, toFo_of ht2 e.symm, v⟩
end Go.Proofs.YtlkheeegkifblaaDoor.PL
namespace Go.Proofs.YtlkheeegkifblaaDoor.FP
open Go.Proofs.YtlkheeegkifblaaDoor.P
theorem hd_shape {F : Fo} {x : Nat} (h : F.hd = x) (hx : x ≠ 0) : ∃ t k n, F = .nd x t k n := by
 cases F with
 | nil => exact absurd h.symm hx
 | nd j t k n => exact ⟨t, k, n, by rw [← h]; rfl⟩
structure Back (x up p : Nat) (F : Fo) : Prop where
 mem : sib x p F = 0 ∨ sib x p F ∈ F.ids
 aft : sib x p F ≠ 0 → insAfter (sib x p F) x (txtF x F) (sub x F) (del x F) = F
 fst : sib x p F = 0 → par x up F ∈ F.ids ∧ insFirst (par x up F) x (txtF x F) (sub x F) (del x F) = F
 upr : sib x p F ≠ 0 → par (sib x p F) up F = par x up F ∧ sib x p F ≠ x
theorem back_in {x : Nat} (hx0 : x ≠ 0) : ∀ (F : Fo) (up p : Nat), F.ids.Nodup → (∀ y ∈ F.ids, y ≠ 0) → x ∈ F.ids → F.hd ≠ x → Back x up p F
 | .nil, up, p, _, _, hx, _ => by simp [Fo.ids] at hx
 | .nd j u k n, up, p, hn, h0, hx, hh => by
  obtain ⟨n1, n2, n3, n4, n5⟩ := nodup_nd hn
  have hj0 : j ≠ 0 := h0 j (by simp [Fo.ids])
  have e : ¬ j = x := hh
  simp only [Fo.ids, List.mem_cons, List.mem_append] at hx
  by_cases hk : x ∈ k.ids
  ·have hxn := n5 x hk
   have es : sib x p (.nd j u k n) = sib x 0 k := by rw [sib, if_neg e, if_pos hk]
   have et : txtF x (.nd j u k n) = txtF x k := by rw [txtF, if_neg e, if_pos hk]
   have eb : sub x (.nd j u k n) = sub x k := by rw [sub, if_neg e, if_pos hk]
   have ep : par x up (.nd j u k n) = par x j k := by rw [par, if_neg e, if_pos hk]
   have ed : FP.del x (.nd j u k n) = .nd j u (FP.del x k) n := by rw [FP.del, if_neg e, del_id x hxn]
   by_cases hkx : k.hd = x
   ·obtain ⟨t, s, m, rfl⟩ := hd_shape hkx hx0
    have s0 : sib x 0 (.nd x t s m) = 0 := by rw [sib, if_pos rfl]
    refine ⟨Or.inl (es.trans s0), fun h => absurd (es.trans s0) h, fun _ => ?_, fun h => absurd (es.trans s0) h⟩
    rw [ep, et, eb, ed, par, if_pos rfl, txtF, if_pos rfl, sub, if_pos rfl, FP.del, if_pos rfl, insFirst, if_pos rfl]
    exact ⟨by simp [Fo.ids], rfl⟩
   ·have b := back_in hx0 k j 0 n3 (fun y hy => h0 y (by simp [Fo.ids, hy])) hk hkx
    refine ⟨?_, fun h => ?_, fun h => ?_, fun h => ?_⟩
    ·rw [es]; exact b.mem.imp id fun h => by simp [Fo.ids, h]
    ·rw [es] at h
     have hm := b.mem.resolve_left h
     rw [es, et, eb, ed, insAfter, if_neg (fun g => n1 (by rw [g]; exact hm)), b.aft h, insAfter_id _ _ _ _ (n5 _ hm)]
    ·rw [es] at h
     obtain ⟨q1, q2⟩ := b.fst h
     refine ⟨by rw [ep]; simp [Fo.ids, q1], ?_⟩
     rw [et, eb, ed, ep, insFirst, if_neg (fun g => n1 (by rw [g]; exact q1)), q2, insFirst_id _ _ _ _ (n5 _ q1)]
    ·rw [es] at h ⊢
     have hm := b.mem.resolve_left h
     obtain ⟨q1, q2⟩ := b.upr h
     refine ⟨?_, q2⟩
     rw [ep, par, if_neg (fun g => n1 (by rw [g]; exact hm)), if_pos hm, q1]
  ·have hxn : x ∈ n.ids := by grind
   have es : sib x p (.nd j u k n) = sib x j n := by rw [sib, if_neg e, if_neg hk]
   have et : txtF x (.nd j u k n) = txtF x n := by rw [txtF, if_neg e, if_neg hk]
   have eb : sub x (.nd j u k n) = sub x n := by rw [sub, if_neg e, if_neg hk]
   have ep : par x up (.nd j u k n) = par x up n := by rw [par, if_neg e, if_neg hk]
   have ed : FP.del x (.nd j u k n) = .nd j u k (FP.del x n) := by rw [FP.del, if_neg e, del_id x hk]
   by_cases hnx : n.hd = x
   ·obtain ⟨t, s, m, rfl⟩ := hd_shape hnx hx0
    have s0 : sib x j (.nd x t s m) = j := by rw [sib, if_pos rfl]
    refine ⟨?_, fun h => ?_, fun h => absurd (h.symm.trans (es.trans s0)).symm hj0, fun h => ?_⟩
    ·rw [es, s0]; exact Or.inr (by simp [Fo.ids])
    ·rw [es, s0, et, eb, ed, txtF, if_pos rfl, sub, if_pos rfl, FP.del, if_pos rfl, insAfter, if_pos rfl]
    ·rw [es, s0, ep, par, if_pos rfl, par, if_pos rfl]; exact ⟨rfl, e⟩
   ·have b := back_in hx0 n up j n4 (fun y hy => h0 y (by simp [Fo.ids, hy])) hxn hnx
    refine ⟨?_, fun h => ?_, fun h => ?_, fun h => ?_⟩
    ·rw [es]; exact b.mem.imp id fun h => by simp [Fo.ids, h]
    ·rw [es] at h
     have hm := b.mem.resolve_left h
     rw [es, et, eb, ed, insAfter, if_neg (fun g => n2 (by rw [g]; exact hm)), b.aft h, insAfter_id _ _ _ _ (fun g => n5 _ g hm)]
    ·rw [es] at h
     obtain ⟨q1, q2⟩ := b.fst h
     refine ⟨by rw [ep]; simp [Fo.ids, q1], ?_⟩
     rw [et, eb, ed, ep, insFirst, if_neg (fun g => n2 (by rw [g]; exact q1)), q2, insFirst_id _ _ _ _ (fun g => n5 _ g q1)]
    ·rw [es] at h ⊢
     have hm := b.mem.resolve_left h
     obtain ⟨q1, q2⟩ := b.upr h
     refine ⟨?_, q2⟩
     rw [ep, par, if_neg (fun g => n2 (by rw [g]; exact hm)), if_neg (fun g => n5 _ g hm), q1]
structure BackT (x : Nat) (F : Fo) : Prop where
 mem : sibT x F = 0 ∨ sibT x F ∈ F.ids
 aft : sibT x F ≠ 0 → insAfter (sibT x F) x (txtF x F) (sub x F) (del x F) = F
 fst : sibT x F = 0 → insFirst (par x 0 F) x (txtF x F) (sub x F) (del x F) = F
 up : par x 0 F ∈ F.ids
 upr : sibT x F ≠ 0 → par (sibT x F) 0 F = par x 0 F ∧ sibT x F ≠ x
theorem back_top {x : Nat} (hx0 : x ≠ 0) : ∀ (F : Fo), F.ids.Nodup → (∀ y ∈ F.ids, y ≠ 0) → x ∈ F.ids → x ∉ F.tops → BackT x F
 | .nil, _, _, hx, _ => by simp [Fo.ids] at hx
 | .nd j u k n, hn, h0, hx, ht => by
  have hpar : par x 0 (.nd j u k n) ∈ (Fo.nd j u k n).ids := by
   rcases dep_par x (.nd j u k n) 0 0 hn hx with ⟨h, _⟩ | ⟨h, _⟩
   ·exact absurd h ht
   ·exact h
  obtain ⟨n1, n2, n3, n4, n5⟩ := nodup_nd hn
  have hj0 : j ≠ 0 := h0 j (by simp [Fo.ids])
  simp only [Fo.tops, List.mem_cons, not_or] at ht
  have e : ¬ j = x := fun g => ht.1 g.symm
  simp only [Fo.ids, List.mem_cons, List.mem_append] at hx
  by_cases hk : x ∈ k.ids
  ·have hxn := n5 x hk
   have es : sibT x (.nd j u k n) = sib x 0 k := by rw [sibT, if_pos hk]
   have et : txtF x (.nd j u k n) = txtF x k := by rw [txtF, if_neg e, if_pos hk]
   have eb : sub x (.nd j u k n) = sub x k := by rw [sub, if_neg e, if_pos hk]
   have ep : par x 0 (.nd j u k n) = par x j k := by rw [par, if_neg e, if_pos hk]
   have ed : FP.del x (.nd j u k n) = .nd j u (FP.del x k) n := by rw [FP.del, if_neg e, del_id x hxn]
   by_cases hkx : k.hd = x
   ·obtain ⟨t, s, m, rfl⟩ := hd_shape hkx hx0
    have s0 : sib x 0 (.nd x t s m) = 0 := by rw [sib, if_pos rfl]
    refine ⟨Or.inl (es.trans s0), fun h => absurd (es.trans s0) h, fun _ => ?_, hpar, fun h => absurd (es.trans s0) h⟩
    rw [ep, et, eb, ed, par, if_pos rfl, txtF, if_pos rfl, sub, if_pos rfl, FP.del, if_pos rfl, insFirst, if_pos rfl]
   ·have b := back_in hx0 k j 0 n3 (fun y hy => h0 y (by simp [Fo.ids, hy])) hk hkx
    refine ⟨?_, fun h => ?_, fun h => ?_, hpar, fun h => ?_⟩
    ·rw [es]; exact b.mem.imp id fun h => by simp [Fo.ids, h]
    ·rw [es] at h
     have hm := b.mem.resolve_left h
     rw [es, et, eb, ed, insAfter, if_neg (fun g => n1 (by rw [g]; exact hm)), b.aft h, insAfter_id _ _ _ _ (n5 _ hm)]
    ·rw [es] at h
     obtain ⟨q1, q2⟩ := b.fst h
     rw [et, eb, ed, ep, insFirst, if_neg (fun g => n1 (by rw [g]; exact q1)), q2, insFirst_id _ _ _ _ (n5 _ q1)]
    ·rw [es] at h ⊢
     have hm := b.mem.resolve_left h
     obtain ⟨q1, q2⟩ := b.upr h
     refine ⟨?_, q2⟩
     rw [ep, par, if_neg (fun g => n1 (by rw [g]; exact hm)), if_pos hm, q1]
  ·have hxn : x ∈ n.ids := by grind
   have es : sibT x (.nd j u k n) = sibT x n := by rw [sibT, if_neg hk]
   have et : txtF x (.nd j u k n) = txtF x n := by rw [txtF, if_neg e, if_neg hk]
   have eb : sub x (.nd j u k n) = sub x n := by rw [sub, if_neg e, if_neg hk]
   have ep : par x 0 (.nd j u k n) = par x 0 n := by rw [par, if_neg e, if_neg hk]
   have ed : FP.del x (.nd j u k n) = .nd j u k (FP.del x n) := by rw [FP.del, if_neg e, del_id x hk]
   have b := back_top hx0 n n4 (fun y hy => h0 y (by simp [Fo.ids, hy])) hxn ht.2
   refine ⟨?_, fun h => ?_, fun h => ?_, hpar, fun h => ?_⟩
   ·rw [es]; exact b.mem.imp id fun h => by simp [Fo.ids, h]
   ·rw [es] at h
    have hm := b.mem.resolve_left h
    rw [es, et, eb, ed, insAfter, if_neg (fun g => n2 (by rw [g]; exact hm)), b.aft h, insAfter_id _ _ _ _ (fun g => n5 _ g hm)]
   ·rw [es] at h
    have q1 := b.up
    rw [et, eb, ed, ep, insFirst, if_neg (fun g => n2 (by rw [g]; exact q1)), b.fst h, insFirst_id _ _ _ _ (fun g => n5 _ g q1)]
   ·rw [es] at h ⊢
    have hm := b.mem.resolve_left h
    obtain ⟨q1, q2⟩ := b.upr h
    refine ⟨?_, q2⟩
    rw [ep, par, if_neg (fun g => n2 (by rw [g]; exact hm)), if_neg (fun g => n5 _ g hm), q1]
theorem sib_insFirst_new (p i : Nat) (t : ByteArray) (s : Fo) : ∀ {F : Fo} (q : Nat), i ∉ F.ids → p ∈ F.ids → sib i q (insFirst p i t s F) = 0
 | .nil, _, _, h => by simp [Fo.ids] at h
 | .nd j u k n, q, h, hp => by
  simp only [Fo.ids, List.mem_cons, List.mem_append, not_or] at h hp
  have hj : ¬ j = i := fun e => h.1 e.symm
  rw [insFirst]
  by_cases e : j = p
  ·rw [if_pos e, sib, if_neg hj, if_pos (by simp [Fo.ids]), sib, if_pos rfl]
  ·rw [if_neg e, sib, if_neg hj]
   by_cases hk : p ∈ k.ids
   ·rw [if_pos ((mem_insFirst p i t s i k).2 (Or.inr ⟨hk, Or.inl rfl⟩)), sib_insFirst_new p i t s 0 h.2.1 hk]
   ·rw [if_neg (by rw [mem_insFirst]; grind), sib_insFirst_new p i t s j h.2.2 (by grind)]
theorem sib_insAfter_new (a i : Nat) (t : ByteArray) (s : Fo) : ∀ {F : Fo} (q : Nat), i ∉ F.ids → a ∈ F.ids → sib i q (insAfter a i t s F) = a
 | .nil, _, _, h => by simp [Fo.ids] at h
 | .nd j u k n, q, h, hp => by
  simp only [Fo.ids, List.mem_cons, List.mem_append, not_or] at h hp
  have hj : ¬ j = i := fun e => h.1 e.symm
  rw [insAfter]
  by_cases e : j = a
  ·rw [if_pos e, sib, if_neg hj, if_neg h.2.1, sib, if_pos rfl, e]
  ·rw [if_neg e, sib, if_neg hj]
   by_cases hk : a ∈ k.ids
   ·rw [if_pos ((mem_insAfter a i t s i k).2 (Or.inr ⟨hk, Or.inl rfl⟩)), sib_insAfter_new a i t s 0 h.2.1 hk]
   ·rw [if_neg (by rw [mem_insAfter]; grind), sib_insAfter_new a i t s j h.2.2 (by grind)]
theorem sibT_insFirst_new (p i : Nat) (t : ByteArray) (s : Fo) : ∀ {F : Fo}, i ∉ F.ids → p ∈ F.ids → sibT i (insFirst p i t s F) = 0
 | .nil, _, h => by simp [Fo.ids] at h
 | .nd j u k n, h, hp => by
  simp only [Fo.ids, List.mem_cons, List.mem_append, not_or] at h hp
  rw [insFirst]
  by_cases e : j = p
  ·rw [if_pos e, sibT, if_pos (by simp [Fo.ids]), sib, if_pos rfl]
  ·rw [if_neg e, sibT]
   by_cases hk : p ∈ k.ids
   ·rw [if_pos ((mem_insFirst p i t s i k).2 (Or.inr ⟨hk, Or.inl rfl⟩)), sib_insFirst_new p i t s 0 h.2.1 hk]
   ·rw [if_neg (by rw [mem_insFirst]; grind), sibT_insFirst_new p i t s h.2.2 (by grind)]
theorem sibT_insAfter_new (a i : Nat) (t : ByteArray) (s : Fo) : ∀ {F : Fo}, i ∉ F.ids → a ∈ F.ids → a ∉ F.tops → sibT i (insAfter a i t s F) = a
 | .nil, _, h, _ => by simp [Fo.ids] at h
 | .nd j u k n, h, hp, ht => by
  simp only [Fo.ids, Fo.tops, List.mem_cons, List.mem_append, not_or] at h hp ht
  have e : ¬ j = a := fun g => ht.1 g.symm
  rw [insAfter, if_neg e, sibT]
  by_cases hk : a ∈ k.ids
  ·rw [if_pos ((mem_insAfter a i t s i k).2 (Or.inr ⟨hk, Or.inl rfl⟩)), sib_insAfter_new a i t s 0 h.2.1 hk]
  ·rw [if_neg (by rw [mem_insAfter]; grind), sibT_insAfter_new a i t s h.2.2 (by grind) ht.2]
theorem PutOk.sib {H : Fo} {q : Nat × Nat} {i : Nat} {s : Fo} {t : ByteArray} (o : PutOk H q i s) (h0 : ∀ x ∈ H.ids, x ≠ 0) : sibT i (putF H q i t s) = q.2 := by
 have ht := near_at_top (G := H) o.nd h0 o h0
 unfold putF
 by_cases h : q.2 = 0
 ·rw [if_pos h, sibT_insFirst_new _ _ _ _ o.iH o.up, h]
 ·rw [if_neg h, sibT_insAfter_new _ _ _ _ o.iH (o.at_.resolve_left h).1 (ht.resolve_left h)]
theorem MvOk.sib {G : Fo} {q : Nat × Nat} {i : Nat} (o : MvOk G i q) (h0 : ∀ x ∈ G.ids, x ≠ 0) : sibT i (mvF G q i) = q.2 := o.put.sib fun x hx => h0 x (del_ids_sub i hx)
theorem MvOk.par_new {G : Fo} {q : Nat × Nat} {i : Nat} (o : MvOk G i q) : par i 0 (mvF G q i) = q.1 := o.put.par
theorem par_not_under {G : Fo} (hn : G.ids.Nodup) (h0 : ∀ x ∈ G.ids, x ≠ 0) {i : Nat} (hi : i ∈ G.ids) (hit : i ∉ G.tops) : ¬ under i (par i 0 G) G := by
 obtain ⟨h, hr⟩ := reptop_ex G hn h0
 have hp := reptop_par hr hn hi
 obtain ⟨q1, q2⟩ := reptop_up hr hn hi hit
 rintro ⟨_, e | hs⟩
 ·exact q2 (hp.trans e)
 ·exact upT_out hr hn hi hit (hp ▸ hs)
def upO (D : Int) : List S37 → Option Int
 | [] => none
 | r :: l => if r.f1 < D then some r.f0 else upO D l
def aheadO (D : Int) : List S37 → Option Int
 | [] => none
 | r :: l => if r.f1 < D then some 0 else if r.f1 = D then some r.f0 else aheadO D l
theorem upO_append (D : Int) : ∀ (a b : List S37), upO D (a ++ b) = match upO D a with | some v => some v | none => upO D b
 | [], b => rfl
 | r :: a, b => by
  rw [List.cons_append, upO, upO]
  split
  ·rfl
  ·exact upO_append D a b
theorem aheadO_append (D : Int) : ∀ (a b : List S37), aheadO D (a ++ b) = match aheadO D a with | some v => some v | none => aheadO D b
 | [], b => rfl
 | r :: a, b => by
  rw [List.cons_append, aheadO, aheadO]
  split
  ·rfl
  ·split
   ·rfl
   ·exact aheadO_append D a b
theorem upO_none {D : Int} : ∀ {l : List S37}, (∀ r ∈ l, D ≤ r.f1) → upO D l = none
 | [], _ => rfl
 | r :: l, h => by
  rw [upO, if_neg (by have := h r List.mem_cons_self; omega)]
  exact upO_none fun q hq => h q (List.mem_cons_of_mem _ hq)
theorem aheadO_none {D : Int} : ∀ {l : List S37}, (∀ r ∈ l, D < r.f1) → aheadO D l = none
 | [], _ => rfl
 | r :: l, h => by
  have := h r List.mem_cons_self
  rw [aheadO, if_neg (by omega), if_neg (by omega)]
  exact aheadO_none fun q hq => h q (List.mem_cons_of_mem _ hq)
def preF (x : Nat) (d : Nat) : Fo → List S37
 | .nil => []
 | .nd j u k n => if j = x then [] else ⟨(j : Int), (d : Int), u⟩ :: (if x ∈ k.ids then preF x (d + 1) k else k.fl (d + 1) ++ preF x d n)
theorem pre_split (x : Nat) : ∀ (F : Fo) (d : Nat), x ∈ F.ids → ∃ rest, F.fl d = preF x d F ++ ⟨(x : Int), (dep x d F : Int), txtF x F⟩ :: rest
 | .nil, d, h => by simp [Fo.ids] at h
 | .nd j u k n, d, h => by
  simp only [Fo.ids, List.mem_cons, List.mem_append] at h
  by_cases e : j = x
  ·subst e
   exact ⟨k.fl (d + 1) ++ n.fl d, by rw [preF, if_pos rfl, dep, if_pos rfl, txtF, if_pos rfl, Fo.fl]; rfl⟩
  ·by_cases hk : x ∈ k.ids
   ·obtain ⟨rest, hr⟩ := pre_split x k (d + 1) hk
    refine ⟨rest ++ n.fl d, ?_⟩
    rw [preF, if_neg e, if_pos hk, dep, if_neg e, if_pos hk, txtF, if_neg e, if_pos hk, Fo.fl, hr]
    simp
   ·obtain ⟨rest, hr⟩ := pre_split x n d (by grind)
    refine ⟨rest, ?_⟩
    rw [preF, if_neg e, if_neg hk, dep, if_neg e, if_neg hk, txtF, if_neg e, if_neg hk, Fo.fl, hr]
    simp
theorem preF_out (x : Nat) : ∀ (F : Fo) (d : Nat), F.ids.Nodup → ∀ r ∈ preF x d F, r.f0 ≠ (x : Int)
 | .nil, d, _, r, h => by simp [preF] at h
 | .nd j u k n, d, hn, r, h => by
  obtain ⟨n1, n2, n3, n4, n5⟩ := nodup_nd hn
  rw [preF] at h
  by_cases e : j = x
  ·rw [if_pos e] at h; cases h
  ·rw [if_neg e] at h
   rcases List.mem_cons.1 h with rfl | h
   ·show (j : Int) ≠ (x : Int); omega
   ·by_cases hk : x ∈ k.ids
    ·rw [if_pos hk] at h; exact preF_out x k (d + 1) n3 r h
    ·rw [if_neg hk] at h
     rcases List.mem_append.1 h with h | h
     ·obtain ⟨i, hi, e2⟩ := fl_ids k (d + 1) h
      intro e3
      rw [e2] at e3
      exact hk (by rw [show x = i by omega]; exact hi)
     ·exact preF_out x n d n4 r h
theorem split_one {x : Int} : ∀ {a a' b b' : List S37} {r r' : S37}, (∀ q ∈ a, q.f0 ≠ x) → (∀ q ∈ a', q.f0 ≠ x) → r.f0 = x → r'.f0 = x → a ++ r :: b = a' ++ r' :: b' → a = a'
 | [], [], _, _, _, _, _, _, _, _, _ => rfl
 | [], q :: a', _, _, r, r', _, h2, h3, _, e => by
  simp only [List.nil_append, List.cons_append, List.cons.injEq] at e
  exact absurd h3 (by rw [e.1]; exact h2 q List.mem_cons_self)
 | q :: a, [], _, _, r, r', h1, _, _, h4, e => by
  simp only [List.nil_append, List.cons_append, List.cons.injEq] at e
  exact absurd h4 (by rw [← e.1]; exact h1 q List.mem_cons_self)
 | q :: a, q' :: a', b, b', r, r', h1, h2, h3, h4, e => by
  simp only [List.cons_append, List.cons.injEq] at e
  rw [e.1, split_one (fun y hy => h1 y (List.mem_cons_of_mem _ hy)) (fun y hy => h2 y (List.mem_cons_of_mem _ hy)) h3 h4 e.2]
theorem spot_pre {x d : Nat} {G : Fo} {pre post : List S37} (hn : G.ids.Nodup) (hx : x ∈ G.ids) (s : Spot x d G pre post) : pre = preF x d G := by
 obtain ⟨rest, hr⟩ := pre_split x G d hx
 have := s.all
 rw [hr] at this
 exact (split_one (x := (x : Int)) (preF_out x G d hn) s.out rfl rfl this).symm
theorem up_pre (x : Nat) : ∀ (F : Fo) (d up : Nat), F.ids.Nodup → x ∈ F.ids → upO (dep x d F) (preF x d F).reverse = if x ∈ F.tops then none else some (par x up F : Int)
 | .nil, d, up, _, h => by simp [Fo.ids] at h
 | .nd j u k n, d, up, hn, h => by
  obtain ⟨n1, n2, n3, n4, n5⟩ := nodup_nd hn
  simp only [Fo.ids, List.mem_cons, List.mem_append] at h
  by_cases e : j = x
  ·rw [preF, if_pos e, if_pos (by simp [Fo.tops, e])]; rfl
  ·have e' : x ≠ j := fun g => e g.symm
   by_cases hk : x ∈ k.ids
   ·have ht : x ∉ (Fo.nd j u k n).tops := by
     simp only [Fo.tops, List.mem_cons, not_or]
     exact ⟨e', fun g => n5 x hk (tops_ids g)⟩
    rw [if_neg ht, preF, if_neg e, if_pos hk, dep, if_neg e, if_pos hk, par, if_neg e, if_pos hk, List.reverse_cons, upO_append, up_pre x k (d + 1) j n3 hk]
    by_cases hkt : x ∈ k.tops
    ·rw [if_pos hkt]
     have hd : dep x (d + 1) k = d + 1 ∧ par x j k = j := by
      rcases dep_par x k (d + 1) j n3 hk with ⟨_, h2, h3⟩ | ⟨h2, h3⟩
      ·exact ⟨h2, h3⟩
      ·exfalso
       have := up_top x k j n3 hkt
       rw [this] at h2
       exact n1 h2
     show upO _ [_] = _
     rw [upO, if_pos (by rw [hd.1]; simp only; omega), hd.2]
    ·rw [if_neg hkt]
   ·have hxn : x ∈ n.ids := by grind
    rw [preF, if_neg e, if_neg hk, dep, if_neg e, if_neg hk, par, if_neg e, if_neg hk, List.reverse_cons, List.reverse_append, upO_append, upO_append, up_pre x n d up n4 hxn]
    by_cases hnt : x ∈ n.tops
    ·have hd := dep_top x n d n4 hnt
     rw [if_pos hnt, if_pos (by simp [Fo.tops, hnt])]
     simp only
     rw [upO_none (l := (k.fl (d + 1)).reverse) (fun r hr => by have := fl_deep k (d + 1) (List.mem_reverse.1 hr); rw [hd]; omega)]
     simp only
     rw [upO, if_neg (by rw [hd]; simp only; omega)]; rfl
    ·rw [if_neg hnt, if_neg (by simp only [Fo.tops, List.mem_cons, not_or]; exact ⟨e', hnt⟩)]; try rfl
where
 up_top (x : Nat) : ∀ (F : Fo) (up : Nat), F.ids.Nodup → x ∈ F.tops → par x up F = up
  | .nil, _, _, h => by simp [Fo.tops] at h
  | .nd j u k n, up, hn, h => by
   obtain ⟨n1, n2, n3, n4, n5⟩ := nodup_nd hn
   simp only [Fo.tops, List.mem_cons] at h
   rw [par]
   by_cases e : j = x
   ·rw [if_pos e]
   ·have hx : x ∈ n.tops := by grind
    rw [if_neg e, if_neg (fun g => n5 x g (tops_ids hx)), up_top x n up n4 hx]
 dep_top (x : Nat) : ∀ (F : Fo) (d : Nat), F.ids.Nodup → x ∈ F.tops → dep x d F = d
  | .nil, _, _, h => by simp [Fo.tops] at h
  | .nd j u k n, d, hn, h => by
   obtain ⟨n1, n2, n3, n4, n5⟩ := nodup_nd hn
   simp only [Fo.tops, List.mem_cons] at h
   rw [dep]
   by_cases e : j = x
   ·rw [if_pos e]
   ·have hx : x ∈ n.tops := by grind
    rw [if_neg e, if_neg (fun g => n5 x g (tops_ids hx)), dep_top x n d n4 hx]
theorem dep_ge (x : Nat) : ∀ (F : Fo) (d : Nat), x ∈ F.ids → d ≤ dep x d F
 | .nil, d, h => by simp [Fo.ids] at h
 | .nd j u k n, d, h => by
  simp only [Fo.ids, List.mem_cons, List.mem_append] at h
  rw [dep]
  by_cases e : j = x
  ·rw [if_pos e]; exact Nat.le_refl _
  ·rw [if_neg e]
   by_cases hk : x ∈ k.ids
   ·rw [if_pos hk]; have := dep_ge x k (d + 1) hk; omega
   ·rw [if_neg hk]; exact dep_ge x n d (by grind)
theorem hd_top {x : Nat} (hx : x ≠ 0) {F : Fo} (h : F.hd = x) : x ∈ F.tops := by
 obtain ⟨t, k, n, rfl⟩ := hd_shape h hx
 simp [Fo.tops]
theorem ahead_in {x : Nat} (hx0 : x ≠ 0) : ∀ (F : Fo) (d p : Nat), F.ids.Nodup → x ∈ F.ids → aheadO (dep x d F) (preF x d F).reverse = if F.hd = x then none else some (sib x p F : Int)
 | .nil, d, p, _, h => by simp [Fo.ids] at h
 | .nd j u k n, d, p, hn, h => by
  obtain ⟨n1, n2, n3, n4, n5⟩ := nodup_nd hn
  simp only [Fo.ids, List.mem_cons, List.mem_append] at h
  by_cases e : j = x
  ·rw [preF, if_pos e, if_pos (by exact e)]; rfl
  ·rw [if_neg (show ¬ (Fo.nd j u k n).hd = x from e)]
   by_cases hk : x ∈ k.ids
   ·rw [preF, if_neg e, if_pos hk, dep, if_neg e, if_pos hk, sib, if_neg e, if_pos hk, List.reverse_cons, aheadO_append, ahead_in hx0 k (d + 1) 0 n3 hk]
    by_cases hkx : k.hd = x
    ·rw [if_pos hkx]
     simp only
     have := dep_ge x k (d + 1) hk
     rw [aheadO, if_pos (by simp only; omega)]
     obtain ⟨t, s, m, rfl⟩ := hd_shape hkx hx0
     rw [sib, if_pos rfl]; rfl
    ·rw [if_neg hkx]
   ·have hxn : x ∈ n.ids := by grind
    rw [preF, if_neg e, if_neg hk, dep, if_neg e, if_neg hk, sib, if_neg e, if_neg hk, List.reverse_cons, List.reverse_append, aheadO_append, aheadO_append, ahead_in hx0 n d j n4 hxn]
    by_cases hnx : n.hd = x
    ·rw [if_pos hnx]
     have hd := up_pre.dep_top x n d n4 (hd_top hx0 hnx)
     simp only
     rw [aheadO_none (l := (k.fl (d + 1)).reverse) (fun r hr => by have := fl_deep k (d + 1) (List.mem_reverse.1 hr); rw [hd]; omega)]
     simp only
     rw [aheadO, if_neg (by rw [hd]; simp), if_pos (by rw [hd])]
     obtain ⟨t, s, m, rfl⟩ := hd_shape hnx hx0
     rw [sib, if_pos rfl]
    ·rw [if_neg hnx]
theorem dep_insFirst_old (p i : Nat) (t : ByteArray) (s : Fo) {x : Nat} (hx : x ∉ s.ids) (hxi : x ≠ i) : ∀ (F : Fo) (d : Nat), dep x d (insFirst p i t s F) = dep x d F
 | .nil, _ => rfl
 | .nd j u k n, d => by
  have m1 : x ∈ (insFirst p i t s k).ids ↔ x ∈ k.ids := by rw [mem_insFirst]; grind
  have m2 : x ∈ (Fo.nd i t s k).ids ↔ x ∈ k.ids := by simp only [Fo.ids, List.mem_cons, List.mem_append]; grind
  rw [insFirst]
  by_cases e : j = p
  ·rw [if_pos e]
   simp only [dep, m2, if_neg (fun e : i = x => hxi e.symm), if_neg hx]
  ·rw [if_neg e]
   simp only [dep, m1, dep_insFirst_old p i t s hx hxi k, dep_insFirst_old p i t s hx hxi n]
theorem dep_insAfter_old (a i : Nat) (t : ByteArray) (s : Fo) {x : Nat} (hx : x ∉ s.ids) (hxi : x ≠ i) : ∀ (F : Fo) (d : Nat), dep x d (insAfter a i t s F) = dep x d F
 | .nil, _ => rfl
 | .nd j u k n, d => by
  have m1 : x ∈ (insAfter a i t s k).ids ↔ x ∈ k.ids := by rw [mem_insAfter]; grind
  rw [insAfter]
  by_cases e : j = a
  ·rw [if_pos e]
   simp only [dep, if_neg (fun e : i = x => hxi e.symm), if_neg hx]
  ·rw [if_neg e]
   simp only [dep, m1, dep_insAfter_old a i t s hx hxi k, dep_insAfter_old a i t s hx hxi n]
theorem dep_del (i a : Nat) : ∀ (G : Fo) (d : Nat), G.ids.Nodup → a ∈ (del i G).ids → dep a d (del i G) = dep a d G
 | .nil, _, _, h => rfl
 | .nd j u k n, d, hn, h => by
  obtain ⟨n1, n2, n3, n4, n5⟩ := nodup_nd hn
  rw [FP.del] at h ⊢
  by_cases e : j = i
  ·rw [if_pos e] at h ⊢
   rw [dep, if_neg (fun (g : j = a) => n2 (by rw [g]; exact h)), if_neg (fun g => n5 a g h)]
  ·rw [if_neg e] at h ⊢
   simp only [Fo.ids, List.mem_cons, List.mem_append] at h
   rw [dep, dep]
   by_cases e2 : j = a
   ·rw [if_pos e2, if_pos e2]
   ·rw [if_neg e2, if_neg e2]
    by_cases hk : a ∈ (FP.del i k).ids
    ·rw [if_pos hk, if_pos (del_ids_sub i hk)]; exact dep_del i a k (d + 1) n3 hk
    ·have hn' : a ∈ (FP.del i n).ids := by rcases h with g | g | g; exact absurd g.symm e2; exact absurd g hk; exact g
     rw [if_neg hk, if_neg (fun g => n5 a g (del_ids_sub i hn'))]; exact dep_del i a n d n4 hn'
theorem MvOk.dep_old {G : Fo} {q : Nat × Nat} {i : Nat} (o : MvOk G i q) {x : Nat} (hx : x ∈ (FP.del i G).ids) : dep x 0 (mvF G q i) = dep x 0 G := by
 obtain ⟨h1, h2⟩ := o.put.ne hx
 rw [← dep_del i x G 0 o.nd hx]
 unfold mvF putF
 split
 ·exact dep_insFirst_old _ _ _ _ h2 h1 _ _
 ·exact dep_insAfter_old _ _ _ _ h2 h1 _ _
theorem MvOk.dep_new {G : Fo} {q : Nat × Nat} {i : Nat} (o : MvOk G i q) (h0 : ∀ x ∈ G.ids, x ≠ 0) : dep i 0 (mvF G q i) = dep q.1 0 G + 1 := by
 have hp := o.par_new
 rcases dep_par i (mvF G q i) 0 0 o.nodup ((o.ids i).2 o.mem) with ⟨_, _, h3⟩ | ⟨_, h3⟩
 ·rw [hp] at h3
  exact absurd h3 (h0 _ (del_ids_sub i o.put.up))
 ·rw [h3, hp, o.dep_old o.put.up]
theorem lastN_cases (l : List Nat) : (l = [] ∧ lastN 0 l = 0) ∨ ∃ l', l = l' ++ [lastN 0 l] := by
 rcases List.eq_nil_or_concat l with rfl | ⟨l', b, rfl⟩
 ·exact Or.inl ⟨rfl, rfl⟩
 ·rw [List.concat_eq_append, lastN_snoc]; exact Or.inr ⟨l', rfl⟩
structure OutOk (G : Fo) (m u : Nat) : Prop where
 near : nearF G (m : Int) (par u 0 G : Nat) (u : Int) = (par u 0 G, u)
 wh : ¬ under m (par u 0 G) G
 mv : MvOk G m (par u 0 G, u)
 deep : dep m 0 (mvF G (par u 0 G, u) m) + 1 = dep m 0 G
 ahead : sibT m (mvF G (par u 0 G, u) m) = u
theorem out_ok {G : Fo} (hn : G.ids.Nodup) (h0 : ∀ x ∈ G.ids, x ≠ 0) (h3 : 3 ∈ G.tops) {m : Nat} (hm : m ∈ G.ids) (hmt : m ∉ G.tops) (hut : par m 0 G ∉ G.tops) : OutOk G m (par m 0 G) := by
 have b := back_top (h0 m hm) G hn h0 hm hmt
 obtain ⟨u, hu⟩ : ∃ u, u = par m 0 G := ⟨_, rfl⟩
 have hum : u ∈ G.ids := hu ▸ b.up
 have b2 := back_top (h0 u hum) G hn h0 hum (hu ▸ hut)
 have hmu : ¬ under m u G := hu ▸ par_not_under hn h0 hm hmt
 have hne : u ≠ m := fun e => hmu ⟨hm, Or.inl e⟩
 have hov : ¬ under m (par u 0 G) G := by
  rintro ⟨_, e | hs⟩
  ·
   have : u ∈ (sub m G).tops := (kids_par hn h0 hm).2 ⟨hum, e⟩
   exact hmu ⟨hm, Or.inr (tops_ids this)⟩
  ·
   have h1 := sub_sub m (par u 0 G) G hn hs
   have h2 : u ∈ (sub (par u 0 G) G).tops := (kids_par hn h0 b2.up).2 ⟨hum, rfl⟩
   rw [h1] at h2
   exact hmu ⟨hm, Or.inr (sub_ids _ (tops_ids h2))⟩
 have hnear : nearF G (m : Int) (par u 0 G : Nat) (u : Int) = (par u 0 G, u) := by
  unfold nearF
  rw [fnd_nat b2.up, if_neg (h0 _ b2.up), fnd_nat hum, if_neg (h0 _ hum), if_neg (fun g => g rfl), if_neg (by omega)]
 have o := move_ok hn h0 h3 hm hmt (up := (par u 0 G : Nat)) (at_ := (u : Int)) (by rw [fnd_nat b2.up]; exact hov)
 rw [hnear] at o
 rw [← hu]
 refine ⟨hnear, hov, o, ?_, o.sib h0⟩
 rw [o.dep_new h0]
 show dep (par u 0 G) 0 G + 1 + 1 = _
 rcases dep_par m G 0 0 hn hm with ⟨g, _⟩ | ⟨_, g2⟩
 ·exact absurd g hmt
 ·rcases dep_par u G 0 0 hn hum with ⟨g, _⟩ | ⟨_, g1⟩
  ·exact absurd g (hu ▸ hut)
  ·rw [g2, ← hu, g1]
end Go.Proofs.YtlkheeegkifblaaDoor.FP
namespace Go.Proofs.YtlkheeegkifblaaDoor.P
open Go.RowKit Go.Proofs.YtlkheeegkifblaaDoorW.PrintWords Go.Proofs.YtlkheeegkifblaaDoorW.PrintLast
theorem eqA37 (d : Nat) (w : World) (x0 y0 : Int) (x1 y1 : Int) (x2 y2 : ByteArray) :
  (Op.equalIn (d + 2) 37 (.agg #[.int .i64 x0, .int .i64 x1, .string x2]) (.agg #[.int .i64 y0, .int .i64 y1, .string y2])).run Tryd.prog w = .ok (x0 == y0 && (x1 == y1 && (x2.toList == y2.toList))) w := by
 refine eqA_of Tryd.underlying37 (by kernel_rfl) ?_
 refine eqf_cons (by rfl) (by go_simp; rfl) (by go_simp; rfl) (by go_simp) ?_
 refine eqf_cons (by rfl) (by go_simp; rfl) (by go_simp; rfl) (by go_simp) ?_
 exact eqf_last (by rfl) (by go_simp; rfl) (by go_simp; rfl) (by go_simp)
attribute [local go_sem high] eqA37
end Go.Proofs.YtlkheeegkifblaaDoor.P
namespace Go.Proofs.YtlkheeegkifblaaDoor.PL
open Go.RowKit Go.Proofs.YtlkheeegkifblaaDoor.P Go.Proofs.YtlkheeegkifblaaDoorW.PrintWords Go.Proofs.YtlkheeegkifblaaDoorW.PrintLast Go.Proofs.YtlkheeegkifblaaDoor.FP
def kNo : Int × Int × Int × Int × ByteArray × Bool := (0, 0, 0, 0, ⟨#[]⟩, false)
def kMv (i u a : Int) : Int × Int × Int × Int × ByteArray × Bool := (3, i, u, a, ⟨#[]⟩, true)
def keyOutF (G : Fo) (m : Nat) : Int × Int × Int × Int × ByteArray × Bool := if rootB (FP.par m 0 G : Nat) = true then kNo else kMv m (FP.par (FP.par m 0 G) 0 G : Nat) (FP.par m 0 G : Nat)
def keyR (K : Fo → Nat → Int × Int × Int × Int × ByteArray × Bool) (l : List S37) (id : Int) : Int × Int × Int × Int × ByteArray × Bool :=
 if treeB l = true then (if madeB id = true then (if fndF (toFo l) id = 0 then kNo else K (toFo l) (fndF (toFo l) id)) else kNo) else kNo
end Go.Proofs.YtlkheeegkifblaaDoor.PL
namespace Go.Proofs.YtlkheeegkifblaaDoor.P
open Go.RowKit Go.Shelf Go.Proofs.YtlkheeegkifblaaDoorW.PrintWords Go.Proofs.YtlkheeegkifblaaDoorW.PrintLast Go.Proofs.YtlkheeegkifblaaDoorW.PrintMore Go.Proofs.YtlkheeegkifblaaDoor.PL Go.Proofs.YtlkheeegkifblaaDoor.FP
attribute [local go_sem] Oper.semAt_some

def KeyPost (w : World) (r : Int × Int × Int × Int × ByteArray × Bool) (e : Ending) (w' : World) : Prop :=
 e = .returned (.tuple #[.agg #[.int .i64 r.1, .int .i64 r.2.1, .int .i64 r.2.2.1, .int .i64 r.2.2.2.1, .string r.2.2.2.2.1], .bool r.2.2.2.2.2]) ∧ Below w.heap.size w w'
theorem At.lastOk {w : World} {n0 F : Nat} {A : Nat → Option Nat} {h : Nat → Nd} {G : Fo} (t : At w n0 F A h G) (u : Nat) : lastN 0 (sub u G).tops = 0 ∨ A (lastN 0 (sub u G).tops) ≠ none := by
 rcases lastN_cases (sub u G).tops with ⟨_, e⟩ | ⟨l, e⟩
 ·exact Or.inl e
 ·refine Or.inr ((t.dom _).2 (sub_ids u (tops_ids ?_)))
  have := List.mem_append_right l (List.mem_singleton.2 (rfl : lastN 0 (sub u G).tops = lastN 0 (sub u G).tops))
  rwa [← e] at this
theorem At.parTwo {w : World} {n0 F : Nat} {A : Nat → Option Nat} {h : Nat → Nd} {G : Fo} (t : At w n0 F A h G) {u : Nat} (hu : u ∈ G.ids) (hr : rootB (u : Int) ≠ true) : ∃ b, A (FP.par u 0 G) = some b := by
 have hut : u ∉ G.tops := fun g => by
  rw [t.tops] at g
  simp only [List.mem_cons, List.not_mem_nil, or_false] at g
  rcases g with rfl | rfl | rfl <;> exact hr (by decide)
 have := (reptop_up t.rep t.nd hu hut).1
 rw [t.par hu] at this
 exact t.ok this
set_option maxHeartbeats 4000000 in
set_option maxRecDepth 100000 in
theorem key2_any {w : World} {n0 Fb : Nat} {A : Nat → Option Nat} {h : Nat → Nd} {G : Fo} (t : At w n0 Fb A h G) {i b : Nat} (hi : A i = some b) (hp : FP.par i 0 G ≠ 0) (hG : Glob w) :
  Calls Tryd.prog 115 #[.pointer (some ⟨Fb, 0, none⟩), .pointer (some ⟨b, 0, none⟩)] w (KeyPost w (keyOutF G i)) := by
 unfold keyOutF KeyPost
 have hu27 := Tryd.underlying27
 have hiG : i ∈ G.ids := (t.dom i).1 (by rw [hi]; simp)
 obtain ⟨bu, hbu⟩ := Option.ne_none_iff_exists'.1 ((t.parOk hiG).resolve_left hp)
 have huG : FP.par i 0 G ∈ G.ids := (t.dom _).1 (by rw [hbu]; simp)
 have HPU := Aside0.mk (t.par hiG)
 have HPV := Aside0.mk (t.par huG)
 by_cases h0 : rootB (FP.par i 0 G : Nat) = true
 ·rw [if_pos h0]
  unfold kNo
  have HR := Aside0.mk ((isRoot_f (FP.par i 0 G : Nat)).trans (congrArg some h0))
  clear huG hiG hp h0
  have T1 := Aside0.mk t
  have HI := Aside0.mk hi
  have HU := Aside0.mk hbu
  have HG := Aside0.mk hG
  clear t hi hbu hG
  go_enter Tryd.func115, Tryd.ntmps115
  go_wp2_with (first
   | ((with_reducible refine gate_dst (N := 4) rfl ?_); refine bx_ 4 (#[.int .i64 0, .int .i64 0, .int .i64 0, .int .i64 0, .string (⟨#[]⟩ : ByteArray)]) 27 ?_; intro gb hg W1 hbox hb; have X1 := Aside0.mk (Bx.mk hbox (by rw [hg]; exact Nat.le_refl _) (hb)); have hb1 := Aside0.mk hb; clear hbox hb hg; have T2 := Aside0.mk (T1.out.kept (T1.out.m.below hb1.out)); have q2 := T2.out.m.c2 HI.out; rw [HPU.out, HU.out, pa_some] at q2; have q0 := T2.out.m.c0 HU.out)
   | (go_at_call 67; (with_reducible refine (impl_isRoot.calls _ _ _ HR.out (HG.out.below hb1.out)).mono ?_); rintro en W2 ⟨rfl, hb0⟩; have hb := hb0.below; have X2 := Aside0.mk (X1.out.step hb); clear hb hb0; have za_0 := X2.out.c0; have ya_0 := X2.out.f 0; have za_1 := X2.out.c1; have ya_1 := X2.out.f 1; have za_2 := X2.out.c2; have ya_2 := X2.out.f 2; have za_3 := X2.out.c3; have ya_3 := X2.out.f 3; have za_4 := X2.out.c4; have ya_4 := X2.out.f 4))
  refine bodyPost_ret (results_ct rfl _ _ gb 27 #[.int .i64 0, .int .i64 0, .int .i64 0, .int .i64 0, .string (⟨#[]⟩ : ByteArray)] (0, 0) _ rfl (by (with_reducible repeat (first | refine blk_drewN ?_ _ | refine blk_drew ?_)); exact X2.out.put _ _ _ _ _) hu27 rfl (by kernel_rfl)) rfl ?_
  exact ⟨rfl, (by (with_reducible repeat (first | apply pw_below_drewN | apply below_drew1)); exact X2.out.put_below _ _ _ _ _)⟩
 ·rw [if_neg h0]
  unfold kMv
  obtain ⟨bv, hbv⟩ := t.parTwo huG h0
  have HR := Aside0.mk ((isRoot_f (FP.par i 0 G : Nat)).trans (congrArg some (Bool.eq_false_iff.2 h0)))
  clear huG hiG hp h0
  have T1 := Aside0.mk t
  have HI := Aside0.mk hi
  have HU := Aside0.mk hbu
  have HV := Aside0.mk hbv
  have HG := Aside0.mk hG
  clear t hi hbu hbv hG
  have HA := Aside0.mk (show FP.par i 0 G = 0 ∨ A (FP.par i 0 G) ≠ none from Or.inr (by rw [HU.out]; simp))
  go_enter Tryd.func115, Tryd.ntmps115
  go_wp2_with (first
   | ((with_reducible refine gate_dst (N := 4) rfl ?_); refine bx_ 4 (#[.int .i64 0, .int .i64 0, .int .i64 0, .int .i64 0, .string (⟨#[]⟩ : ByteArray)]) 27 ?_; intro gb hg W1 hbox hb; have X1 := Aside0.mk (Bx.mk hbox (by rw [hg]; exact Nat.le_refl _) (hb)); have hb1 := Aside0.mk hb; clear hbox hb hg; have T2 := Aside0.mk (T1.out.kept (T1.out.m.below hb1.out)); have q2 := T2.out.m.c2 HI.out; rw [HPU.out, HU.out, pa_some] at q2; have q0 := T2.out.m.c0 HU.out)
   | (go_at_call 67; (with_reducible refine (impl_isRoot.calls _ _ _ HR.out (HG.out.below hb1.out)).mono ?_); rintro en W2 ⟨rfl, hb0⟩; have hb := hb0.below; have X2 := Aside0.mk (X1.out.step hb); have T3 := Aside0.mk (T2.out.kept (T2.out.m.below hb)); clear hb hb0; have p2 := T3.out.m.c2 HI.out; rw [HPU.out, HU.out, pa_some] at p2; have p3 := T3.out.m.c2 HU.out; rw [HPV.out, HV.out, pa_some] at p3))
  have HM := Aside0.mk (moveTo_any T3.out.m.drew HI.out HV.out HA.out)
  rw [HU.out, pa_some] at HM
  go_region_with (go_at_call 104; (with_reducible refine (HM.out).mono ?_); rintro en W4 ⟨rfl, hb⟩; have X4 := Aside0.mk (X2.out.drew.step hb); clear hb; have zb_0 := X4.out.c0; have yb_0 := X4.out.f 0; have zb_1 := X4.out.c1; have yb_1 := X4.out.f 1; have zb_2 := X4.out.c2; have yb_2 := X4.out.f 2; have zb_3 := X4.out.c3; have yb_3 := X4.out.f 3; have zb_4 := X4.out.c4; have yb_4 := X4.out.f 4)
  all_goals go_wp2
  all_goals refine bodyPost_ret (results_ct rfl _ _ gb 27 #[.int .i64 3, .int .i64 (i : Int), .int .i64 (FP.par (FP.par i 0 G) 0 G : Nat), .int .i64 (FP.par i 0 G : Nat), .string (⟨#[]⟩ : ByteArray)] (0, 0) _ rfl (by (with_reducible repeat (first | refine blk_drewN ?_ _ | refine blk_drew ?_)); exact X4.out.put _ _ _ _ _) hu27 rfl (by kernel_rfl)) rfl ?_
  all_goals exact ⟨rfl, (by (with_reducible repeat (first | apply pw_below_drewN | apply below_drew1)); exact X4.out.put_below _ _ _ _ _)⟩
attribute [local go_sem] Oper.semAt_some

set_option maxHeartbeats 4000000 in
set_option maxRecDepth 100000 in
theorem keyCommands_any (w : World) : Calls Tryd.prog 95 #[] w fun e w' => ∃ g, e = .returned (.slice (some ⟨g, 0, none⟩) 3 3) ∧ w'.cell? ⟨g, 0, none⟩ = some (.func (.func 113) #[] #[]) ∧ w'.cell? ⟨g, 1, none⟩ = some (.func (.func 115) #[] #[]) ∧ w'.cell? ⟨g, 2, none⟩ = some (.func (.func 116) #[] #[]) ∧ Below w.heap.size w w' := by
 go_enter Tryd.func95, Tryd.ntmps95
 go_wp2
 go_ret
 have hn := heap_alloc_new w (.cells #[.func (.func 113) #[] #[], .func (.func 115) #[] #[], .func (.func 116) #[] #[]] 105)
 exact ⟨_, rfl, (blk_cell hn 0).trans rfl, (blk_cell hn 1).trans rfl, (blk_cell hn 2).trans rfl, (Below.refl _ w).alloc (Nat.le_refl _) _⟩
theorem At.parMade {w : World} {n0 F : Nat} {A : Nat → Option Nat} {h : Nat → Nd} {G : Fo} (t : At w n0 F A h G) {u : Nat} (hu : u ∈ G.ids) (hr : madeB (u : Int) = true) : FP.par u 0 G ≠ 0 := by
 have hut : u ∉ G.tops := fun g => by
  rw [t.tops] at g
  simp only [List.mem_cons, List.not_mem_nil, or_false] at g
  rcases g with rfl | rfl | rfl <;> exact absurd hr (by decide)
 have := (reptop_up t.rep t.nd hu hut).1
 rw [t.par hu] at this
 exact t.rep.ne0 _ this
set_option maxHeartbeats 4000000 in
set_option maxRecDepth 100000 in
theorem runKey1 (A0 : Option Addr) (c0 : Nat) (l0 : List S37) (id : Int) (w : World) (hr0 : Kd.C k37 w A0 l0.length l0) (hc0 : l0.length ≤ c0) (hG : Glob w) :
  Calls Tryd.prog 57 #[.slice A0 l0.length c0, .int .i64 id, .int .i64 1] w (KeyPost w (keyR keyOutF l0 id)) := by
 unfold keyR KeyPost
 have hu27 := Tryd.underlying27
 have HR := Aside0.mk hr0
 have HC := Aside0.mk hc0
 have HG := Aside0.mk hG
 clear hr0 hc0 hG
 cases ht : treeB l0 with
 | false =>
  rw [if_neg (by decide)]
  unfold kNo
  have HT := Aside0.mk ht
  clear ht
  go_enter Tryd.func57, Tryd.ntmps57
  go_wp2_with (first
   | ((with_reducible refine gate_dst (N := 6) rfl ?_); refine bx_ 6 (#[.int .i64 0, .int .i64 0, .int .i64 0, .int .i64 0, .string (⟨#[]⟩ : ByteArray)]) 27 ?_; intro gb hg W1 hbox hb; have X1 := Aside0.mk (Bx.mk hbox (by rw [hg]; exact Nat.le_refl _) (hb)); have hb1 := Aside0.mk hb; clear hbox hb hg)
   | (go_at_call 60; (with_reducible refine (plant_no A0 c0 l0 _ (Kd.C_below HR.out hb1.out) HC.out HT.out (HG.out.below hb1.out)).mono ?_); rintro en W2 ⟨rfl, hb⟩; have X2 := Aside0.mk (X1.out.step hb); clear hb; have za_0 := X2.out.c0; have ya_0 := X2.out.f 0; have za_1 := X2.out.c1; have ya_1 := X2.out.f 1; have za_2 := X2.out.c2; have ya_2 := X2.out.f 2; have za_3 := X2.out.c3; have ya_3 := X2.out.f 3; have za_4 := X2.out.c4; have ya_4 := X2.out.f 4))
  refine bodyPost_ret (results_ct rfl _ _ gb 27 #[.int .i64 0, .int .i64 0, .int .i64 0, .int .i64 0, .string (⟨#[]⟩ : ByteArray)] (0, 0) _ rfl (by (with_reducible repeat (first | refine blk_drewN ?_ _ | refine blk_drew ?_)); exact X2.out.put _ _ _ _ _) hu27 rfl (by kernel_rfl)) rfl ?_
  exact ⟨rfl, (by (with_reducible repeat (first | apply pw_below_drewN | apply below_drew1)); exact X2.out.put_below _ _ _ _ _)⟩
 | true =>
  rw [if_pos rfl]
  have HT := Aside0.mk ht
  clear ht
  have HM := Aside0.mk (isMade_f id)
  cases hm : madeB id with
  | false =>
   rw [if_neg (by decide)]
   rw [hm] at HM
   clear hm
   unfold kNo
   go_enter Tryd.func57, Tryd.ntmps57
   go_wp2_with (first
    | ((with_reducible refine gate_dst (N := 6) rfl ?_); refine bx_ 6 (#[.int .i64 0, .int .i64 0, .int .i64 0, .int .i64 0, .string (⟨#[]⟩ : ByteArray)]) 27 ?_; intro gb hg W1 hbox hb; have X1 := Aside0.mk (Bx.mk hbox (by rw [hg]; exact Nat.le_refl _) (hb)); have hb1 := Aside0.mk hb; clear hbox hb hg)
    | (go_at_call 60; (with_reducible refine (plant_at A0 c0 l0 _ (Kd.C_below HR.out hb1.out) HC.out HT.out (HG.out.below hb1.out)).mono ?_); rintro en W2 ⟨Fb, A, h, rfl, hat, hb⟩; have X2 := Aside0.mk (X1.out.step hb); clear hb hat)
    | (go_at_call 94; (with_reducible refine (impl_isMade.calls _ _ _ HM.out (HG.out.below X2.out.below)).mono ?_); rintro en W3 ⟨rfl, hb0⟩; have hb := hb0.below; have X3 := Aside0.mk (X2.out.step hb); clear hb hb0; have za_0 := X3.out.c0; have ya_0 := X3.out.f 0; have za_1 := X3.out.c1; have ya_1 := X3.out.f 1; have za_2 := X3.out.c2; have ya_2 := X3.out.f 2; have za_3 := X3.out.c3; have ya_3 := X3.out.f 3; have za_4 := X3.out.c4; have ya_4 := X3.out.f 4))
   refine bodyPost_ret (results_ct rfl _ _ gb 27 #[.int .i64 0, .int .i64 0, .int .i64 0, .int .i64 0, .string (⟨#[]⟩ : ByteArray)] (0, 0) _ rfl (by (with_reducible repeat (first | refine blk_drewN ?_ _ | refine blk_drew ?_)); exact X3.out.put _ _ _ _ _) hu27 rfl (by kernel_rfl)) rfl ?_
   exact ⟨rfl, (by (with_reducible repeat (first | apply pw_below_drewN | apply below_drew1)); exact X3.out.put_below _ _ _ _ _)⟩
  | true =>
   rw [if_pos rfl]
   rw [hm] at HM
   by_cases h0 : fndF (toFo l0) id = 0
   ·rw [if_pos h0]
    have H0 := Aside0.mk h0
    clear h0 hm
    unfold kNo
    go_enter Tryd.func57, Tryd.ntmps57
    go_wp2_with (first
     | ((with_reducible refine gate_dst (N := 6) rfl ?_); refine bx_ 6 (#[.int .i64 0, .int .i64 0, .int .i64 0, .int .i64 0, .string (⟨#[]⟩ : ByteArray)]) 27 ?_; intro gb hg W1 hbox hb; have X1 := Aside0.mk (Bx.mk hbox (by rw [hg]; exact Nat.le_refl _) (hb)); have hb1 := Aside0.mk hb; clear hbox hb hg)
     | (go_at_call 60; (with_reducible refine (plant_at A0 c0 l0 _ (Kd.C_below HR.out hb1.out) HC.out HT.out (HG.out.below hb1.out)).mono ?_); rintro en W2 ⟨Fb, A, h, rfl, hat, hb⟩; have X2 := Aside0.mk (X1.out.step hb); have T2 := Aside0.mk hat; clear hb hat)
     | (go_at_call 94; (with_reducible refine (impl_isMade.calls _ _ _ HM.out (HG.out.below X2.out.below)).mono ?_); rintro en W3 ⟨rfl, hb0⟩; have hb := hb0.below; have X3 := Aside0.mk (X2.out.step hb); have T3 := Aside0.mk (T2.out.kept (T2.out.m.below hb)); clear hb hb0; have za_0 := X3.out.c0; have ya_0 := X3.out.f 0; have za_1 := X3.out.c1; have ya_1 := X3.out.f 1; have za_2 := X3.out.c2; have ya_2 := X3.out.f 2; have za_3 := X3.out.c3; have ya_3 := X3.out.f 3; have za_4 := X3.out.c4; have ya_4 := X3.out.f 4)
     | (go_at_call 61; (with_reducible refine (find_any T3.out.m id).mono ?_); rw [T3.out.lost H0.out, pa_none]; rintro en W4 ⟨rfl, rfl⟩))
    refine bodyPost_ret (results_ct rfl _ _ gb 27 #[.int .i64 0, .int .i64 0, .int .i64 0, .int .i64 0, .string (⟨#[]⟩ : ByteArray)] (0, 0) _ rfl (by (with_reducible repeat (first | refine blk_drewN ?_ _ | refine blk_drew ?_)); exact X3.out.put _ _ _ _ _) hu27 rfl (by kernel_rfl)) rfl ?_
    exact ⟨rfl, (by (with_reducible repeat (first | apply pw_below_drewN | apply below_drew1)); exact X3.out.put_below _ _ _ _ _)⟩
   ·rw [if_neg h0]
    obtain ⟨i, hi⟩ : ∃ i, i = fndF (toFo l0) id := ⟨_, rfl⟩
    have hmem := fndF_mem h0
    rw [← hi] at hmem
    have HMM := Aside0.mk (show madeB (i : Int) = true by rw [hmem.2]; exact hm)
    have HME := Aside0.mk hmem.1
    have H0 := Aside0.mk h0
    have HI := Aside0.mk hi
    rw [← hi]
    clear h0 hm hmem hi
    obtain ⟨r, hr⟩ : ∃ r, r = keyOutF (toFo l0) i := ⟨_, rfl⟩
    have HRR := Aside0.mk hr
    rw [← hr]
    clear hr
    go_enter Tryd.func57, Tryd.ntmps57
    go_wp2_with (first
     | ((with_reducible refine gate_dst (N := 6) rfl ?_); refine bx_ 6 (#[.int .i64 0, .int .i64 0, .int .i64 0, .int .i64 0, .string (⟨#[]⟩ : ByteArray)]) 27 ?_; intro gb hg W1 hbox hb; have X1 := Aside0.mk (Bx.mk hbox (by rw [hg]; exact Nat.le_refl _) (hb)); have hb1 := Aside0.mk hb; clear hbox hb hg)
     | (go_at_call 60; (with_reducible refine (plant_at A0 c0 l0 _ (Kd.C_below HR.out hb1.out) HC.out HT.out (HG.out.below hb1.out)).mono ?_); rintro en W2 ⟨Fb, A, h, rfl, hat, hb⟩; have X2 := Aside0.mk (X1.out.step hb); have T2 := Aside0.mk hat; obtain ⟨b, hb1_, hb2_⟩ := hat.found H0.out; rw [← HI.out] at hb2_; have F1 := Aside0.mk hb1_; have F2 := Aside0.mk hb2_; have HPM := Aside0.mk (hat.parMade HME.out HMM.out); clear hb hat hb1_ hb2_)
     | (go_at_call 94; (with_reducible refine (impl_isMade.calls _ _ _ HM.out (HG.out.below X2.out.below)).mono ?_); rintro en W3 ⟨rfl, hb0⟩; have hb := hb0.below; have X3 := Aside0.mk (X2.out.step hb); have T3 := Aside0.mk (T2.out.kept (T2.out.m.below hb)); clear hb hb0)
     | (go_at_call 61; (with_reducible refine (find_any T3.out.m id).mono ?_); rw [F1.out, pa_some]; rintro en W4 ⟨rfl, rfl⟩)
     | (go_at_call 95; (with_reducible refine (keyCommands_any _).mono ?_); rintro en W5 ⟨g, rfl, g0, g1, g2, hb⟩; have X4 := Aside0.mk (X3.out.step hb); have T4 := Aside0.mk (T3.out.kept (T3.out.m.below hb)); clear hb)
     | (go_at_call 115; (with_reducible refine (key2_any T4.out F2.out HPM.out (HG.out.below X4.out.below)).mono ?_); rw [← HRR.out]; rintro en W6 ⟨rfl, hb⟩; have X5 := Aside0.mk (X4.out.step hb); clear hb; have za_0 := X5.out.c0; have ya_0 := X5.out.f 0; have za_1 := X5.out.c1; have ya_1 := X5.out.f 1; have za_2 := X5.out.c2; have ya_2 := X5.out.f 2; have za_3 := X5.out.c3; have ya_3 := X5.out.f 3; have za_4 := X5.out.c4; have ya_4 := X5.out.f 4))
    refine bodyPost_ret (results_ct rfl _ _ gb 27 #[.int .i64 r.1, .int .i64 r.2.1, .int .i64 r.2.2.1, .int .i64 r.2.2.2.1, .string r.2.2.2.2.1] (0, 0) _ rfl (by (with_reducible repeat (first | refine blk_drewN ?_ _ | refine blk_drew ?_)); exact X5.out.put _ _ _ _ _) hu27 rfl (by kernel_rfl)) rfl ?_
    exact ⟨rfl, (by (with_reducible repeat (first | apply pw_below_drewN | apply below_drew1)); exact X5.out.put_below _ _ _ _ _)⟩
attribute [local go_sem] Oper.semAt_some

def impl_KeyOut.f (k : Nat) (l0 : List S37) (a1 : Int) : Option (Int × Int × Int × Int × ByteArray × Bool) := some (keyR keyOutF l0 a1)
theorem impl_KeyOut.mono (l0 : List S37) (a1 : Int) (k : Nat) : LeO (impl_KeyOut.f k l0 a1) (impl_KeyOut.f (k + 1) l0 a1) := LeO.refl _
set_option maxHeartbeats 4000000 in
set_option maxRecDepth 100000 in
theorem impl_KeyOut.calls (k : Nat) (A0 : Option Addr) (c0 : Nat) (l0 : List S37) (a1 : Int) (r1 r2 r3 r4 : Int) (r5 : ByteArray) (r6 : Bool) (w : World) (hr0 : Kd.C k37 w A0 l0.length l0) (hc0 : l0.length ≤ c0) (h : impl_KeyOut.f k l0 a1 = some (r1, r2, r3, r4, r5, r6)) (hG : Glob w) :
  Calls Tryd.prog 29 #[.slice A0 l0.length c0, .int .i64 a1] w fun e w' => e = .returned (.tuple #[.agg #[.int .i64 r1, .int .i64 r2, .int .i64 r3, .int .i64 r4, .string r5], .bool r6]) ∧ Below w.heap.size w w' := by
 have hu27 := Tryd.underlying27
 have HR := Aside0.mk hr0
 have HC := Aside0.mk hc0
 have HG := Aside0.mk hG
 have HRR := Aside0.mk (Option.some.inj h)
 clear hr0 hc0 hG h
 go_enter Tryd.func29, Tryd.ntmps29
 go_wp2_with (first
  | ((with_reducible refine gate_dst (N := 4) rfl ?_); refine bx_ 4 (#[.int .i64 0, .int .i64 0, .int .i64 0, .int .i64 0, .string (⟨#[]⟩ : ByteArray)]) 27 ?_; intro gb hg W1 hbox hb; have X1 := Aside0.mk (Bx.mk hbox (by rw [hg]; exact Nat.le_refl _) (hb)); have hb1 := Aside0.mk hb; clear hbox hb hg)
  | (go_at_call 57; (with_reducible refine (runKey1 A0 c0 l0 a1 _ (Kd.C_below HR.out hb1.out) HC.out (HG.out.below hb1.out)).mono ?_); rw [HRR.out]; unfold KeyPost; rintro en W2 ⟨rfl, hb⟩; have X2 := Aside0.mk (X1.out.step hb); clear hb; have za_0 := X2.out.c0; have ya_0 := X2.out.f 0; have za_1 := X2.out.c1; have ya_1 := X2.out.f 1; have za_2 := X2.out.c2; have ya_2 := X2.out.f 2; have za_3 := X2.out.c3; have ya_3 := X2.out.f 3; have za_4 := X2.out.c4; have ya_4 := X2.out.f 4))
 refine bodyPost_ret (results_ct rfl _ _ gb 27 #[.int .i64 r1, .int .i64 r2, .int .i64 r3, .int .i64 r4, .string r5] (0, 0) _ rfl (by (with_reducible repeat (first | refine blk_drewN ?_ _ | refine blk_drew ?_)); exact X2.out.put _ _ _ _ _) hu27 rfl (by kernel_rfl)) rfl ?_
 exact ⟨rfl, (by (with_reducible repeat (first | apply pw_below_drewN | apply below_drew1)); exact X2.out.put_below _ _ _ _ _)⟩
end Go.Proofs.YtlkheeegkifblaaDoor.P
namespace Go.Proofs.YtlkheeegkifblaaDoor.P
open Go.RowKit Go.Proofs.YtlkheeegkifblaaDoorW.PrintWords Go.Proofs.YtlkheeegkifblaaDoorW.PrintLast
attribute [local go_sem high] eqA27
def laws_FnKeyOut.j0 : Nat → List (S37) → Int → Bool → Bool → Bool → Int → Int → Int → Int → ByteArray → Int → Int → Int → Int → ByteArray → Option (Bool)
 | 0, _, _, _, _, _, _, _, _, _, _, _, _, _, _, _ => none
 | k + 1, x3, x4, x6, x8, x52, x604000, x604001, x604002, x604003, x604004, x611000, x611001, x611002, x611003, x611004 => if x52 = true then (if (x8 == x6) = true then (some (x611000 == x604000 && (x611001 == x604001 && (x611002 == x604002 && (x611003 == x604003 && (x611004.toList == x604004.toList)))))) else (none)) else ((impl_TreeUp.f k x3 x4).bind fun bt612 => ((impl_RowWho.f bt612.1).bind fun bt614 => (if x8 = true then ((impl_OpDo.f k x3 x611000 x611001 x611002 x611003 x611004).bind fun t616 => ((impl_TreeUp.f k x3 bt612.1).bind fun bt619 => ((impl_TreeUp.f k t616 x4).bind fun bt621 => ((impl_TreeAhead.f k t616 x4).bind fun bt623 => ((impl_OpOk.f k x611000 x611001 x611002 x611003 x611004).bind fun t625 => (if t625 = true then (if bt621.1 = bt619.1 then (if bt623.1 = bt612.1 then ((laws_lpAt.f k t616 x4).bind fun t626 => (if 0 ≤ t626 then (if t626 < (t616.length : Int) then ((laws_lpAt.f k x3 x4).bind fun t628 => (if 0 ≤ t628 then (if t628 < (x3.length : Int) then (some (((rd_T37 t616 t626).f1) == (wrap64 (((rd_T37 x3 t628).f1) - 1)))) else (none)) else (none))) else (none)) else (none))) else (none)) else (none)) else (none))))))) else (if bt612.2 = true then (if bt612.1 = 0 then (some true) else (some (bt614.1 == 0))) else (some true)))))
def laws_FnKeyOut.f (k : Nat) (l0 : List Int) : Option (Bool) := if (l0.length : Int) > 1048576 then (some true) else ((spec_DrawKeyOut.f k l0).bind fun bt593 => ((spec_KeyOut.f k bt593.1 bt593.2).bind fun bt597 => ((impl_KeyOut.f k bt593.1 bt593.2).bind fun bt604 => (if (bt604.2.2.2.2.2 != bt597.2.2.2.2.2) = true then (none) else (if (!(bt604.1 == bt597.1) || (!(bt604.2.1 == bt597.2.1) || (!(bt604.2.2.1 == bt597.2.2.1) || (!(bt604.2.2.2.1 == bt597.2.2.2.1) || (!(bt604.2.2.2.2.1.toList == bt597.2.2.2.2.1.toList)))))) = true then (laws_FnKeyOut.j0 k bt593.1 bt593.2 bt597.2.2.2.2.2 bt604.2.2.2.2.2 true bt597.1 bt597.2.1 bt597.2.2.1 bt597.2.2.2.1 bt597.2.2.2.2.1 bt604.1 bt604.2.1 bt604.2.2.1 bt604.2.2.2.1 bt604.2.2.2.2.1) else ((spec_TreeOk.f k bt593.1).bind fun t611 => (laws_FnKeyOut.j0 k bt593.1 bt593.2 bt597.2.2.2.2.2 bt604.2.2.2.2.2 (!t611) bt597.1 bt597.2.1 bt597.2.2.1 bt597.2.2.2.1 bt597.2.2.2.2.1 bt604.1 bt604.2.1 bt604.2.2.1 bt604.2.2.2.1 bt604.2.2.2.2.1)))))))
theorem laws_FnKeyOut.mono_l : ∀ k, (∀ y0 y1 y2 y3 y4 y5 y6 y7 y8 y9 y10 y11 y12 y13 y14, LeO (laws_FnKeyOut.j0 k y0 y1 y2 y3 y4 y5 y6 y7 y8 y9 y10 y11 y12 y13 y14) (laws_FnKeyOut.j0 (k + 1) y0 y1 y2 y3 y4 y5 y6 y7 y8 y9 y10 y11 y12 y13 y14))
 | 0 => fun _ _ _ _ _ _ _ _ _ _ _ _ _ _ _ r h => by simp [laws_FnKeyOut.j0] at h
 | k + 1 => by
  have ih0 := laws_FnKeyOut.mono_l k
  ·intro y0 y1 y2 y3 y4 y5 y6 y7 y8 y9 y10 y11 y12 y13 y14
   unfold laws_FnKeyOut.j0
   repeat' first
   | (with_reducible exact ih0 _ _ _ _ _ _ _ _ _ _ _ _ _ _ _)
   | (with_reducible exact impl_KeyOut.mono _ _ _)
   | (with_reducible exact impl_OpDo.mono _ _ _ _ _ _ _)
   | (with_reducible exact impl_OpOk.mono _ _ _ _ _ _)
   | (with_reducible exact impl_TreeAhead.mono _ _ _)
   | (with_reducible exact impl_TreeUp.mono _ _ _)
   | (with_reducible exact laws_lpAt.mono _ _ _)
   | (with_reducible exact spec_DrawKeyOut.mono _ _)
   | (with_reducible exact spec_KeyOut.mono _ _ _)
   | (with_reducible exact spec_TreeOk.mono _ _)
   | (with_reducible exact LeO.refl _)
   | (with_reducible exact LeO.none _)
   | (with_reducible refine LeO.ite ?_ ?_)
   | (with_reducible refine LeO.bind ?_ (fun _ => ?_))
   | exact ih0 _ _ _ _ _ _ _ _ _ _ _ _ _ _ _
   | exact impl_KeyOut.mono _ _ _
   | exact impl_OpDo.mono _ _ _ _ _ _ _
   | exact impl_OpOk.mono _ _ _ _ _ _
   | exact impl_TreeAhead.mono _ _ _
   | exact impl_TreeUp.mono _ _ _
   | exact laws_lpAt.mono _ _ _
   | exact spec_DrawKeyOut.mono _ _
   | exact spec_KeyOut.mono _ _ _
   | exact spec_TreeOk.mono _ _
   | exact LeO.none _
   | refine LeO.ite ?_ ?_
   | refine LeO.bind ?_ (fun _ => ?_)
theorem laws_FnKeyOut.mono : ∀ a0 k, LeO (laws_FnKeyOut.f k a0) (laws_FnKeyOut.f (k + 1) a0) := by
 intro a0 k
 have ih0 := laws_FnKeyOut.mono_l k
 unfold laws_FnKeyOut.f
 repeat' first
   | (with_reducible exact ih0 _ _ _ _ _ _ _ _ _ _ _ _ _ _ _)
   | (with_reducible exact impl_KeyOut.mono _ _ _)
   | (with_reducible exact impl_OpDo.mono _ _ _ _ _ _ _)
   | (with_reducible exact impl_OpOk.mono _ _ _ _ _ _)
   | (with_reducible exact impl_TreeAhead.mono _ _ _)
   | (with_reducible exact impl_TreeUp.mono _ _ _)
   | (with_reducible exact laws_lpAt.mono _ _ _)
   | (with_reducible exact spec_DrawKeyOut.mono _ _)
   | (with_reducible exact spec_KeyOut.mono _ _ _)
   | (with_reducible exact spec_TreeOk.mono _ _)
   | (with_reducible exact LeO.refl _)
   | (with_reducible exact LeO.none _)
   | (with_reducible refine LeO.ite ?_ ?_)
   | (with_reducible refine LeO.bind ?_ (fun _ => ?_))
   | exact ih0 _ _ _ _ _ _ _ _ _ _ _ _ _ _ _
   | exact impl_KeyOut.mono _ _ _
   | exact impl_OpDo.mono _ _ _ _ _ _ _
   | exact impl_OpOk.mono _ _ _ _ _ _
   | exact impl_TreeAhead.mono _ _ _
   | exact impl_TreeUp.mono _ _ _
   | exact laws_lpAt.mono _ _ _
   | exact spec_DrawKeyOut.mono _ _
   | exact spec_KeyOut.mono _ _ _
   | exact spec_TreeOk.mono _ _
   | exact LeO.none _
   | refine LeO.ite ?_ ?_
   | refine LeO.bind ?_ (fun _ => ?_)
def laws_FnKeyOut.T16 : Bool × List (List Nat × List Nat) := (true, [([], []), ([0], [0]), ([1, 1], [1]), ([2], [2]), ([2], [2]), ([3, 4, 2], [2, 3, 4]), ([2, 5], [2, 5]), ([6, 2], [6]), ([7], [7]), ([7], [7]), ([8, 9, 7], [7, 8, 9]), ([7, 10], [7, 10]), ([11, 7], [11]), ([12], [12]), ([12], [12]), ([12], [12]), ([14, 15, 12, 12], [12, 14, 15]), ([13, 16, 12], [12, 13, 16]), ([17, 12], [12, 17]), ([18, 12], [12, 18]), ([12], [12]), ([12], [12]), ([12], [12]), ([21, 22, 16, 12], [12, 21, 22]), ([20, 23, 12], [12, 20, 23]), ([24, 12], [12, 24]), ([25, 12], [12, 25]), ([26, 12], [12, 26]), ([19, 27, 12], [12, 19, 27]), ([12, 28], [12, 28]), ([29, 23, 0, 1, 2, 3, 4, 5, 6, 7, 8, 9, 10, 11, 12, 13, 14, 15, 16, 17, 18, 19, 20, 21, 22, 23, 24, 25, 26, 27, 28, 29], [29])])
def laws_FnKeyOut.B16 : List Nat := [0, 1, 3, 7, 7, 31, 63, 127, 255, 255, 1023, 2047, 4095, 8191, 8191, 8191, 57343, 131071, 262143, 524287, 8191, 8191, 8191, 6414335, 15851519, 32628735, 66183167, 133292031, 268435455, 536870911, 1073741823]
theorem laws_FnKeyOut.tab16 : rtab .any (opsOf Tryd.f7 16) = laws_FnKeyOut.T16 := by kernel_rfl
theorem laws_FnKeyOut.bits16 : waitsOk laws_FnKeyOut.T16.2 laws_FnKeyOut.B16 = true := by kernel_rfl
set_option maxHeartbeats 8000000 in
set_option maxRecDepth 100000 in
theorem laws_FnKeyOut.calls (k : Nat) (A0 : Option Addr) (c0 : Nat) (l0 : List Int) (r : Bool) (w : World) (hr0 : Kd.C (Kd.int .u8) w A0 l0.length l0) (hc0 : l0.length ≤ c0) (h : laws_FnKeyOut.f k l0 = some r) (hG : Glob w) :
  Calls Tryd.prog 7 #[.slice A0 l0.length c0] w fun e w' => e = .returned (.bool r) ∧ Below w.heap.size w w' := by
 have hu27 := Tryd.underlying27
 have HR0 := Aside0.mk hr0
 have HC0 := Aside0.mk hc0
 clear hr0 hc0
 have HB := Aside0.mk (Below.refl w.heap.size w)
 have HG := Aside0.mk hG
 clear hG
 have H : (if (l0.length : Int) > 1048576 then (some true) else ((spec_DrawKeyOut.f k l0).bind fun bt593 => ((spec_KeyOut.f k bt593.1 bt593.2).bind fun bt597 => ((impl_KeyOut.f k bt593.1 bt593.2).bind fun bt604 => (if (bt604.2.2.2.2.2 != bt597.2.2.2.2.2) = true then (none) else (if (!(bt604.1 == bt597.1) || (!(bt604.2.1 == bt597.2.1) || (!(bt604.2.2.1 == bt597.2.2.1) || (!(bt604.2.2.2.1 == bt597.2.2.2.1) || (!(bt604.2.2.2.2.1.toList == bt597.2.2.2.2.1.toList)))))) = true then (laws_FnKeyOut.j0 k bt593.1 bt593.2 bt597.2.2.2.2.2 bt604.2.2.2.2.2 true bt597.1 bt597.2.1 bt597.2.2.1 bt597.2.2.2.1 bt597.2.2.2.2.1 bt604.1 bt604.2.1 bt604.2.2.1 bt604.2.2.2.1 bt604.2.2.2.2.1) else ((spec_TreeOk.f k bt593.1).bind fun t611 => (laws_FnKeyOut.j0 k bt593.1 bt593.2 bt597.2.2.2.2.2 bt604.2.2.2.2.2 (!t611) bt597.1 bt597.2.1 bt597.2.2.1 bt597.2.2.2.1 bt597.2.2.2.2.1 bt604.1 bt604.2.1 bt604.2.2.1 bt604.2.2.2.1 bt604.2.2.2.2.1)))))))) = some r := h
 clear h
 by_cases c2 : (l0.length : Int) > 1048576
 ·rw [if_pos c2] at H
  have c2b0 : decide (1048576 < (l0.length : Int)) = true := decide_eq_true c2
  have c2b1 : decide (1048576 < l0.length) = true := decide_eq_true (by omega)
  clear c2
  obtain rfl := Option.some.inj H
  go_enter Tryd.func7, Tryd.ntmps7
  go_wp2
  go_ret
  exact ⟨by first | rfl | (simp [errW_none, errW_some] <;> rfl) | (simp [*, errW_none, errW_some] <;> rfl), by repeat (first | (with_reducible first | exact HB.out | apply below_alloc | apply pw_below_drewN | apply below_drew1) | exact HB.out)⟩
 ·rw [if_neg c2] at H
  have c2b0 : decide (1048576 < (l0.length : Int)) = false := decide_eq_false c2
  have c2b1 : decide (1048576 < l0.length) = false := decide_eq_false (by omega)
  clear c2
  replace H := Option.bind_eq_some_iff.mp H
  obtain ⟨⟨t593, t594⟩, A30, H⟩ := H
  replace H : ((spec_KeyOut.f k t593 t594).bind fun bt597 => ((impl_KeyOut.f k t593 t594).bind fun bt604 => (if (bt604.2.2.2.2.2 != bt597.2.2.2.2.2) = true then (none) else (if (!(bt604.1 == bt597.1) || (!(bt604.2.1 == bt597.2.1) || (!(bt604.2.2.1 == bt597.2.2.1) || (!(bt604.2.2.2.1 == bt597.2.2.2.1) || (!(bt604.2.2.2.2.1.toList == bt597.2.2.2.2.1.toList)))))) = true then (laws_FnKeyOut.j0 k t593 t594 bt597.2.2.2.2.2 bt604.2.2.2.2.2 true bt597.1 bt597.2.1 bt597.2.2.1 bt597.2.2.2.1 bt597.2.2.2.2.1 bt604.1 bt604.2.1 bt604.2.2.1 bt604.2.2.2.1 bt604.2.2.2.2.1) else ((spec_TreeOk.f k t593).bind fun t611 => (laws_FnKeyOut.j0 k t593 t594 bt597.2.2.2.2.2 bt604.2.2.2.2.2 (!t611) bt597.1 bt597.2.1 bt597.2.2.1 bt597.2.2.2.1 bt597.2.2.2.2.1 bt604.1 bt604.2.1 bt604.2.2.1 bt604.2.2.2.1 bt604.2.2.2.2.1)))))) = some r := H
  have A3 := Aside0.mk A30
  clear A30
  replace H := Option.bind_eq_some_iff.mp H
  obtain ⟨⟨t597, t598, t599, t600, t601, t602⟩, A40, H⟩ := H
  replace H : ((impl_KeyOut.f k t593 t594).bind fun bt604 => (if (bt604.2.2.2.2.2 != t602) = true then (none) else (if (!(bt604.1 == t597) || (!(bt604.2.1 == t598) || (!(bt604.2.2.1 == t599) || (!(bt604.2.2.2.1 == t600) || (!(bt604.2.2.2.2.1.toList == t601.toList)))))) = true then (laws_FnKeyOut.j0 k t593 t594 t602 bt604.2.2.2.2.2 true t597 t598 t599 t600 t601 bt604.1 bt604.2.1 bt604.2.2.1 bt604.2.2.2.1 bt604.2.2.2.2.1) else ((spec_TreeOk.f k t593).bind fun t611 => (laws_FnKeyOut.j0 k t593 t594 t602 bt604.2.2.2.2.2 (!t611) t597 t598 t599 t600 t601 bt604.1 bt604.2.1 bt604.2.2.1 bt604.2.2.2.1 bt604.2.2.2.2.1))))) = some r := H
  have A4 := Aside0.mk A40
  clear A40
  replace H := Option.bind_eq_some_iff.mp H
  obtain ⟨⟨t604, t605, t606, t607, t608, t609⟩, A50, H⟩ := H
  replace H : (if (t609 != t602) = true then (none) else (if (!(t604 == t597) || (!(t605 == t598) || (!(t606 == t599) || (!(t607 == t600) || (!(t608.toList == t601.toList)))))) = true then (laws_FnKeyOut.j0 k t593 t594 t602 t609 true t597 t598 t599 t600 t601 t604 t605 t606 t607 t608) else ((spec_TreeOk.f k t593).bind fun t611 => (laws_FnKeyOut.j0 k t593 t594 t602 t609 (!t611) t597 t598 t599 t600 t601 t604 t605 t606 t607 t608)))) = some r := H
  have A5 := Aside0.mk A50
  clear A50
  have HC6 := Aside0.mk H
  clear H
  go_enter Tryd.func7, Tryd.ntmps7
  go_upto_region 6 with (first | ((with_reducible refine gate_callee (f := 32) rfl ?_); refine goesL_ (some 25) rfl rfl Tryd.func32 (by kernel_rfl) rfl #[.slice A0 l0.length c0] rfl (by (try simp only [List.map_toArray, List.map_cons, List.map_nil]); first | done | rfl | (simp only [List.length_drop, List.length_take]; rfl)) ?_; (with_reducible refine (spec_DrawKeyOut.calls k _ _ l0 t593 t594 _ ?side1 ?side2 A3.out).mono ?_); (case side1 => repeat (first | exact HR0.out | (with_reducible refine Kd.C_alloc ?_ _) | (with_reducible refine Kd.C_drewN ?_ _) | (with_reducible refine Kd.C_drew ?_))); (case side2 => exact HC0.out); rintro e w7 ⟨v595, rfl, ho0, hb⟩; refine ⟨_, rfl, ?_⟩; have n0_ := Aside0.mk (Kd.Q_lower ho0 (below_size (by repeat (first | (with_reducible first | exact HB.out | apply below_alloc | apply pw_below_drewN | apply below_drew1) | exact HB.out)))); have n1_ := Aside0.mk (below_step (by repeat (first | (with_reducible first | exact HB.out | apply below_alloc | apply pw_below_drewN | apply below_drew1) | exact HB.out)) hb); clear HB; have HO596 := n0_; have HB := n1_; clear n0_ n1_; (try clear hb); (try clear hb2); (try clear hk); (try clear hi); (try clear ho0); obtain ⟨Ao8, co8, eo8, _⟩ := Kd.Q_slice HO596.out; subst eo8) | ((with_reducible refine gate_callee (f := 33) rfl ?_); refine goesL_ (some 31) rfl rfl Tryd.func33 (by kernel_rfl) rfl #[.slice Ao8 t593.length co8, .int .i64 t594] rfl (by (try simp only [List.map_toArray, List.map_cons, List.map_nil]); first | done | rfl | (simp only [List.length_drop, List.length_take]; rfl)) ?_; (with_reducible refine (spec_KeyOut.calls k _ _ t593 t594 t597 t598 t599 t600 t601 t602 _ ?side1 ?side2 A4.out).mono ?_); (case side1 => repeat (first | exact (Kd.Q_reads' HO596.out).2.2 | (with_reducible refine Kd.C_alloc ?_ _) | (with_reducible refine Kd.C_drewN ?_ _) | (with_reducible refine Kd.C_drew ?_))); (case side2 => exact (Kd.Q_reads' HO596.out).2.1); rintro e w9 ⟨rfl, hb⟩; refine ⟨_, rfl, ?_⟩; have n0_ := Aside0.mk (Kd.Q_below (by (with_reducible repeat (first | apply Kd.Q_alloc | apply Kd.Q_drewN | apply Kd.Q_drew)); exact HO596.out) hb); have n1_ := Aside0.mk (below_step (by repeat (first | (with_reducible first | exact HB.out | apply below_alloc | apply pw_below_drewN | apply below_drew1) | exact HB.out)) hb); clear HO596; clear HB; have HO596 := n0_; have HB := n1_; clear n0_ n1_; (try clear hb); (try clear hb2); (try clear hk); (try clear hi)) | ((with_reducible refine gate_dst (N := 5) rfl ?_); refine box_event ?hg (N := 5) ?hd (cs := #[.int .i64 0, .int .i64 0, .int .i64 0, .int .i64 0, .string (⟨#[]⟩ : ByteArray)]) (t := 27) ?hr ?_; (case hd => rfl); (case hg => rfl); (case hr => first | (go_simp; done) | (go_simp; rfl)); intro gb603 hg w10 hbox hb; have n0_ := Aside0.mk (Kd.Q_below (by (with_reducible repeat (first | apply Kd.Q_alloc | apply Kd.Q_drewN | apply Kd.Q_drew)); exact HO596.out) hb); have n1_ := Aside0.mk (below_step (by repeat (first | (with_reducible first | exact HB.out | apply below_alloc | apply pw_below_drewN | apply below_drew1) | exact HB.out)) hb); have n2_ := Aside0.mk (hbox); have n3_ := Aside0.mk ((by rw [hg]; exact (below_size (by repeat (first | (with_reducible first | exact HB.out | apply below_alloc | apply pw_below_drewN | apply below_drew1) | exact HB.out))) : w.heap.size ≤ gb603)); have n4_ := Aside0.mk ((by rw [hg]; exact (below_size (by repeat (first | (with_reducible first | exact HB.out | apply below_alloc | apply pw_below_drewN | apply below_drew1) | exact HB.out))) : w.heap.size ≤ gb603)); clear HO596; clear HB; have HO596 := n0_; have HB := n1_; have BK603 := n2_; have GW603 := n3_; have GE603 := n4_; clear n0_ n1_ n2_ n3_ n4_; clear hb hbox hg; have hcz11_0 : w10.cell? ⟨gb603, 0, none⟩ = some (.int .i64 0) := (blk_cell BK603.out 0).trans rfl; have hcz11_1 : w10.cell? ⟨gb603, 1, none⟩ = some (.int .i64 0) := (blk_cell BK603.out 1).trans rfl; have hcz11_2 : w10.cell? ⟨gb603, 2, none⟩ = some (.int .i64 0) := (blk_cell BK603.out 2).trans rfl; have hcz11_3 : w10.cell? ⟨gb603, 3, none⟩ = some (.int .i64 0) := (blk_cell BK603.out 3).trans rfl; have hcz11_4 : w10.cell? ⟨gb603, 4, none⟩ = some (.string (⟨#[]⟩ : ByteArray)) := (blk_cell BK603.out 4).trans rfl; have hfz11_0 := blk_frozen BK603.out 0; have hfz11_1 := blk_frozen BK603.out 1; have hfz11_2 := blk_frozen BK603.out 2; have hfz11_3 := blk_frozen BK603.out 3; have hfz11_4 := blk_frozen BK603.out 4) | ((with_reducible refine gate_callee (f := 29) rfl ?_); refine goesL_ (some 37) rfl rfl Tryd.func29 (by kernel_rfl) rfl #[.slice Ao8 t593.length co8, .int .i64 t594] rfl (by (try simp only [List.map_toArray, List.map_cons, List.map_nil]); first | done | rfl | (simp only [List.length_drop, List.length_take]; rfl)) ?_; (with_reducible refine (impl_KeyOut.calls k _ _ t593 t594 t604 t605 t606 t607 t608 t609 _ ?side1 ?side2 A5.out ?side3).mono ?_); (case side1 => refine (Kd.Q_reads' (e := 37) (base := w.heap.size) (ok := fun k_ => True) (n := t593.length) (c := co8) ?_).2.2; exact (by (with_reducible repeat (first | apply Kd.Q_alloc | apply Kd.Q_drewN | apply Kd.Q_drew)); exact (Kd.Q_mono (Kd.Q_far (p := ⟨gb603, 4, none⟩) (Kd.Q_far (p := ⟨gb603, 3, none⟩) (Kd.Q_far (p := ⟨gb603, 2, none⟩) (Kd.Q_far (p := ⟨gb603, 1, none⟩) (Kd.Q_far (p := ⟨gb603, 0, none⟩) (Kd.Q_types HO596.out BK603.out (by decide)) (fun _ hk => hk.2) (.int .i64 t597)) (fun _ hk => hk.2) (.int .i64 t598)) (fun _ hk => hk.2) (.int .i64 t599)) (fun _ hk => hk.2) (.int .i64 t600)) (fun _ hk => hk.2) (.string t601)) (fun _ h_ => h_.1)))); (case side2 => exact (Kd.Q_reads' HO596.out).2.1); (case side3 => exact Glob.below HG.out (by repeat (first | (with_reducible first | exact HB.out | apply below_alloc | apply pw_below_drewN | apply below_drew1 | refine below_set ?_ GE603.out) | exact HB.out))); rintro e w12 ⟨rfl, hb⟩; refine ⟨_, rfl, ?_⟩; have n0_ := Aside0.mk (Kd.Q_below (by (with_reducible repeat (first | apply Kd.Q_alloc | apply Kd.Q_drewN | apply Kd.Q_drew)); exact (Kd.Q_mono (Kd.Q_far (p := ⟨gb603, 4, none⟩) (Kd.Q_far (p := ⟨gb603, 3, none⟩) (Kd.Q_far (p := ⟨gb603, 2, none⟩) (Kd.Q_far (p := ⟨gb603, 1, none⟩) (Kd.Q_far (p := ⟨gb603, 0, none⟩) (Kd.Q_types HO596.out BK603.out (by decide)) (fun _ hk => hk.2) (.int .i64 t597)) (fun _ hk => hk.2) (.int .i64 t598)) (fun _ hk => hk.2) (.int .i64 t599)) (fun _ hk => hk.2) (.int .i64 t600)) (fun _ hk => hk.2) (.string t601)) (fun _ h_ => h_.1))) hb); have n1_ := Aside0.mk (blk_below (g := gb603) (o := .cells #[.int .i64 t597, .int .i64 t598, .int .i64 t599, .int .i64 t600, .string t601] 27 (0, 0)) (by (with_reducible repeat (first | refine blk_drewN ?_ _ | refine blk_drew ?_ | refine blk_alloc ?_ _)); refine blk_put (cs := #[.int .i64 t597, .int .i64 t598, .int .i64 t599, .int .i64 t600, .string (⟨#[]⟩ : ByteArray)]) ?_ 4 _ rfl; (with_reducible repeat (first | refine blk_drewN ?_ _ | refine blk_drew ?_ | refine blk_alloc ?_ _)); refine blk_put (cs := #[.int .i64 t597, .int .i64 t598, .int .i64 t599, .int .i64 0, .string (⟨#[]⟩ : ByteArray)]) ?_ 3 _ rfl; (with_reducible repeat (first | refine blk_drewN ?_ _ | refine blk_drew ?_ | refine blk_alloc ?_ _)); refine blk_put (cs := #[.int .i64 t597, .int .i64 t598, .int .i64 0, .int .i64 0, .string (⟨#[]⟩ : ByteArray)]) ?_ 2 _ rfl; (with_reducible repeat (first | refine blk_drewN ?_ _ | refine blk_drew ?_ | refine blk_alloc ?_ _)); refine blk_put (cs := #[.int .i64 t597, .int .i64 0, .int .i64 0, .int .i64 0, .string (⟨#[]⟩ : ByteArray)]) ?_ 1 _ rfl; (with_reducible repeat (first | refine blk_drewN ?_ _ | refine blk_drew ?_ | refine blk_alloc ?_ _)); refine blk_put (cs := #[.int .i64 0, .int .i64 0, .int .i64 0, .int .i64 0, .string (⟨#[]⟩ : ByteArray)]) ?_ 0 _ rfl; (with_reducible repeat (first | refine blk_drewN ?_ _ | refine blk_drew ?_ | refine blk_alloc ?_ _)); exact BK603.out) hb); have n2_ := Aside0.mk (below_step (by repeat (first | (with_reducible first | exact HB.out | apply below_alloc | apply pw_below_drewN | apply below_drew1 | refine below_set ?_ GE603.out) | exact HB.out)) hb); clear HO596; clear BK603; clear HB; have HO596 := n0_; have BK603 := n1_; have HB := n2_; clear n0_ n1_ n2_; (try clear hb); (try clear hb2); (try clear hk); (try clear hi)) | ((with_reducible refine gate_dst (N := 7) rfl ?_); refine box_event ?hg (N := 7) ?hd (cs := #[.int .i64 0, .int .i64 0, .int .i64 0, .int .i64 0, .string (⟨#[]⟩ : ByteArray)]) (t := 27) ?hr ?_; (case hd => rfl); (case hg => rfl); (case hr => first | (go_simp; done) | (go_simp; rfl)); intro gb610 hg w13 hbox hb; have n0_ := Aside0.mk (Kd.Q_below (by (with_reducible repeat (first | apply Kd.Q_alloc | apply Kd.Q_drewN | apply Kd.Q_drew)); exact HO596.out) hb); have n1_ := Aside0.mk (blk_below (g := gb603) (o := .cells #[.int .i64 t597, .int .i64 t598, .int .i64 t599, .int .i64 t600, .string t601] 27 (0, 0)) (by (with_reducible repeat (first | refine blk_drewN ?_ _ | refine blk_drew ?_ | refine blk_alloc ?_ _)); exact BK603.out) hb); have n2_ := Aside0.mk (below_step (by repeat (first | (with_reducible first | exact HB.out | apply below_alloc | apply pw_below_drewN | apply below_drew1 | refine below_set ?_ GE603.out) | exact HB.out)) hb); have n3_ := Aside0.mk (hbox); have n4_ := Aside0.mk ((by rw [hg]; exact (below_size (by repeat (first | (with_reducible first | exact HB.out | apply below_alloc | apply pw_below_drewN | apply below_drew1 | refine below_set ?_ GE603.out) | exact HB.out))) : w.heap.size ≤ gb610)); have n5_ := Aside0.mk ((by rw [hg]; exact (below_size (by repeat (first | (with_reducible first | exact HB.out | apply below_alloc | apply pw_below_drewN | apply below_drew1 | refine below_set ?_ GE603.out) | exact HB.out))) : w.heap.size ≤ gb610)); have n6_ := Aside0.mk ((by rw [hg]; exact Nat.ne_of_lt (blk_lt (g := gb603) (o := .cells #[.int .i64 t597, .int .i64 t598, .int .i64 t599, .int .i64 t600, .string t601] 27 (0, 0)) (by (with_reducible repeat (first | refine blk_drewN ?_ _ | refine blk_drew ?_ | refine blk_alloc ?_ _)); exact BK603.out)) : gb603 ≠ gb610)); have n7_ := Aside0.mk ((by rw [hg]; exact Nat.ne_of_gt (blk_lt (g := gb603) (o := .cells #[.int .i64 t597, .int .i64 t598, .int .i64 t599, .int .i64 t600, .string t601] 27 (0, 0)) (by (with_reducible repeat (first | refine blk_drewN ?_ _ | refine blk_drew ?_ | refine blk_alloc ?_ _)); exact BK603.out)) : gb610 ≠ gb603)); clear HO596; clear BK603; clear HB; have HO596 := n0_; have BK603 := n1_; have HB := n2_; have BK610 := n3_; have GW610 := n4_; have GE610 := n5_; have NB603_610 := n6_; have NB610_603 := n7_; clear n0_ n1_ n2_ n3_ n4_ n5_ n6_ n7_; clear hb hbox hg; have hnb14 := NB610_603.out; have hnc14 := NB603_610.out; have hcz15_0 : w13.cell? ⟨gb610, 0, none⟩ = some (.int .i64 0) := (blk_cell BK610.out 0).trans rfl; have hcz15_1 : w13.cell? ⟨gb610, 1, none⟩ = some (.int .i64 0) := (blk_cell BK610.out 1).trans rfl; have hcz15_2 : w13.cell? ⟨gb610, 2, none⟩ = some (.int .i64 0) := (blk_cell BK610.out 2).trans rfl; have hcz15_3 : w13.cell? ⟨gb610, 3, none⟩ = some (.int .i64 0) := (blk_cell BK610.out 3).trans rfl; have hcz15_4 : w13.cell? ⟨gb610, 4, none⟩ = some (.string (⟨#[]⟩ : ByteArray)) := (blk_cell BK610.out 4).trans rfl; have hfz15_0 := blk_frozen BK610.out 0; have hfz15_1 := blk_frozen BK610.out 1; have hfz15_2 := blk_frozen BK610.out 2; have hfz15_3 := blk_frozen BK610.out 3; have hfz15_4 := blk_frozen BK610.out 4))
  (try simp only [Act.put, List.setIfInBounds_toArray, List.set_cons_zero, List.set_cons_succ])
  go_cut [52] (fun v52 wc => ∃ (kq : Nat) (x52_5 : Bool), v52 = .bool x52_5 ∧ Aside0 (laws_FnKeyOut.j0 kq t593 t594 t602 t609 x52_5 t597 t598 t599 t600 t601 t604 t605 t606 t607 t608 = some r) ∧ Aside0 (kq ≤ k) ∧ Aside0 (Kd.Q k37 37 wc w.heap.size (fun _ => True) (.slice Ao8 t593.length co8) t593) ∧ Aside0 (wc.heap[gb603]? = some (.cells #[.int .i64 t597, .int .i64 t598, .int .i64 t599, .int .i64 t600, .string t601] 27 (0, 0))) ∧ Aside0 (wc.heap[gb610]? = some (.cells #[.int .i64 t604, .int .i64 t605, .int .i64 t606, .int .i64 t607, .string t608] 27 (0, 0))) ∧ Aside0 (Below w.heap.size w wc))
  case first =>
   have H := HC6.out
   clear HC6
   by_cases c16 : (t609 != t602) = true
   ·rw [if_pos c16] at H
    exact absurd H (by simp)
   ·rw [if_neg c16] at H
    have c16b0 : (t609 != t602) = false := by simpa using c16
    (try (have c16b1 : decide (t609 = t602) = true := by simpa using c16))
    (try (have c16b2 : (t609 == t602) = true := by simpa using c16))
    clear c16
    (first | rw [c16b0] | (simp only [i64_w, i32_w]; rw [c16b0]) | skip)
    by_cases c17 : (!(t604 == t597) || (!(t605 == t598) || (!(t606 == t599) || (!(t607 == t600) || (!(t608.toList == t601.toList)))))) = true
    ·rw [if_pos c17] at H
     have c17b0 : (!(t604 == t597) || (!(t605 == t598) || (!(t606 == t599) || (!(t607 == t600) || (!(t608.toList == t601.toList)))))) = true := c17
     clear c17
     have H' := Aside0.mk H
     clear H
     have hnb18 := NB610_603.out
     have hnc18 := NB603_610.out
     have hcz19_0 : w13.cell? ⟨gb610, 0, none⟩ = some (.int .i64 0) := (blk_cell BK610.out 0).trans rfl
     have hcz19_1 : w13.cell? ⟨gb610, 1, none⟩ = some (.int .i64 0) := (blk_cell BK610.out 1).trans rfl
     have hcz19_2 : w13.cell? ⟨gb610, 2, none⟩ = some (.int .i64 0) := (blk_cell BK610.out 2).trans rfl
     have hcz19_3 : w13.cell? ⟨gb610, 3, none⟩ = some (.int .i64 0) := (blk_cell BK610.out 3).trans rfl
     have hcz19_4 : w13.cell? ⟨gb610, 4, none⟩ = some (.string (⟨#[]⟩ : ByteArray)) := (blk_cell BK610.out 4).trans rfl
     have hfz19_0 := blk_frozen BK610.out 0
     have hfz19_1 := blk_frozen BK610.out 1
     have hfz19_2 := blk_frozen BK610.out 2
     have hfz19_3 := blk_frozen BK610.out 3
     have hfz19_4 := blk_frozen BK610.out 4
     have hcz20_0 : w13.cell? ⟨gb603, 0, none⟩ = some (.int .i64 t597) := (blk_cell BK603.out 0).trans rfl
     have hcz20_1 : w13.cell? ⟨gb603, 1, none⟩ = some (.int .i64 t598) := (blk_cell BK603.out 1).trans rfl
     have hcz20_2 : w13.cell? ⟨gb603, 2, none⟩ = some (.int .i64 t599) := (blk_cell BK603.out 2).trans rfl
     have hcz20_3 : w13.cell? ⟨gb603, 3, none⟩ = some (.int .i64 t600) := (blk_cell BK603.out 3).trans rfl
     have hcz20_4 : w13.cell? ⟨gb603, 4, none⟩ = some (.string t601) := (blk_cell BK603.out 4).trans rfl
     have hfz20_0 := blk_frozen BK603.out 0
     have hfz20_1 := blk_frozen BK603.out 1
     have hfz20_2 := blk_frozen BK603.out 2
     have hfz20_3 := blk_frozen BK603.out 3
     have hfz20_4 := blk_frozen BK603.out 4
     go_wp2
     go_meet
     case rel => exact ⟨_, (true), (by first | rfl | (simp; done) | (simp [*]; done)), H', ⟨by first | omega | exact Nat.le_refl _⟩, ⟨by (with_reducible repeat (first | apply Kd.Q_alloc | apply Kd.Q_drewN | apply Kd.Q_drew)); exact Kd.Q_mono (Kd.Q_far (p := ⟨gb610, 4, none⟩) (Kd.Q_far (p := ⟨gb610, 3, none⟩) (Kd.Q_far (p := ⟨gb610, 2, none⟩) (Kd.Q_far (p := ⟨gb610, 1, none⟩) (Kd.Q_far (p := ⟨gb610, 0, none⟩) (Kd.Q_types HO596.out BK610.out (by decide)) (fun _ hk => hk.2) (.int .i64 t604)) (fun _ hk => hk.2) (.int .i64 t605)) (fun _ hk => hk.2) (.int .i64 t606)) (fun _ hk => hk.2) (.int .i64 t607)) (fun _ hk => hk.2) (.string t608)) (fun _ hk => trivial)⟩, ⟨by (with_reducible repeat (first | refine blk_drewN ?_ _ | refine blk_drew ?_ | refine blk_alloc ?_ _)); refine blk_far ?_ NB603_610.out _; (with_reducible repeat (first | refine blk_drewN ?_ _ | refine blk_drew ?_ | refine blk_alloc ?_ _)); refine blk_far ?_ NB603_610.out _; (with_reducible repeat (first | refine blk_drewN ?_ _ | refine blk_drew ?_ | refine blk_alloc ?_ _)); refine blk_far ?_ NB603_610.out _; (with_reducible repeat (first | refine blk_drewN ?_ _ | refine blk_drew ?_ | refine blk_alloc ?_ _)); refine blk_far ?_ NB603_610.out _; (with_reducible repeat (first | refine blk_drewN ?_ _ | refine blk_drew ?_ | refine blk_alloc ?_ _)); refine blk_far ?_ NB603_610.out _; (with_reducible repeat (first | refine blk_drewN ?_ _ | refine blk_drew ?_ | refine blk_alloc ?_ _)); exact BK603.out⟩, ⟨by (with_reducible repeat (first | refine blk_drewN ?_ _ | refine blk_drew ?_ | refine blk_alloc ?_ _)); refine blk_put (cs := #[.int .i64 t604, .int .i64 t605, .int .i64 t606, .int .i64 t607, .string (⟨#[]⟩ : ByteArray)]) ?_ 4 _ rfl; (with_reducible repeat (first | refine blk_drewN ?_ _ | refine blk_drew ?_ | refine blk_alloc ?_ _)); refine blk_put (cs := #[.int .i64 t604, .int .i64 t605, .int .i64 t606, .int .i64 0, .string (⟨#[]⟩ : ByteArray)]) ?_ 3 _ rfl; (with_reducible repeat (first | refine blk_drewN ?_ _ | refine blk_drew ?_ | refine blk_alloc ?_ _)); refine blk_put (cs := #[.int .i64 t604, .int .i64 t605, .int .i64 0, .int .i64 0, .string (⟨#[]⟩ : ByteArray)]) ?_ 2 _ rfl; (with_reducible repeat (first | refine blk_drewN ?_ _ | refine blk_drew ?_ | refine blk_alloc ?_ _)); refine blk_put (cs := #[.int .i64 t604, .int .i64 0, .int .i64 0, .int .i64 0, .string (⟨#[]⟩ : ByteArray)]) ?_ 1 _ rfl; (with_reducible repeat (first | refine blk_drewN ?_ _ | refine blk_drew ?_ | refine blk_alloc ?_ _)); refine blk_put (cs := #[.int .i64 0, .int .i64 0, .int .i64 0, .int .i64 0, .string (⟨#[]⟩ : ByteArray)]) ?_ 0 _ rfl; (with_reducible repeat (first | refine blk_drewN ?_ _ | refine blk_drew ?_ | refine blk_alloc ?_ _)); exact BK610.out⟩, ⟨by repeat (first | (with_reducible first | exact HB.out | apply below_alloc | apply pw_below_drewN | apply below_drew1 | refine below_set ?_ GE603.out | refine below_set ?_ GE610.out) | exact HB.out)⟩⟩
    ·rw [if_neg c17] at H
     have c17b0 : (!(t604 == t597) || (!(t605 == t598) || (!(t606 == t599) || (!(t607 == t600) || (!(t608.toList == t601.toList)))))) = false := by simpa using c17
     clear c17
     replace H := Option.bind_eq_some_iff.mp H
     obtain ⟨t611, A210, H⟩ := H
     replace H : (laws_FnKeyOut.j0 k t593 t594 t602 t609 (!t611) t597 t598 t599 t600 t601 t604 t605 t606 t607 t608) = some r := H
     have A21 := Aside0.mk A210
     clear A210
     have H' := Aside0.mk H
     clear H
     have hnb22 := NB610_603.out
     have hnc22 := NB603_610.out
     have hcz23_0 : w13.cell? ⟨gb610, 0, none⟩ = some (.int .i64 0) := (blk_cell BK610.out 0).trans rfl
     have hcz23_1 : w13.cell? ⟨gb610, 1, none⟩ = some (.int .i64 0) := (blk_cell BK610.out 1).trans rfl
     have hcz23_2 : w13.cell? ⟨gb610, 2, none⟩ = some (.int .i64 0) := (blk_cell BK610.out 2).trans rfl
     have hcz23_3 : w13.cell? ⟨gb610, 3, none⟩ = some (.int .i64 0) := (blk_cell BK610.out 3).trans rfl
     have hcz23_4 : w13.cell? ⟨gb610, 4, none⟩ = some (.string (⟨#[]⟩ : ByteArray)) := (blk_cell BK610.out 4).trans rfl
     have hfz23_0 := blk_frozen BK610.out 0
     have hfz23_1 := blk_frozen BK610.out 1
     have hfz23_2 := blk_frozen BK610.out 2
     have hfz23_3 := blk_frozen BK610.out 3
     have hfz23_4 := blk_frozen BK610.out 4
     have hcz24_0 : w13.cell? ⟨gb603, 0, none⟩ = some (.int .i64 t597) := (blk_cell BK603.out 0).trans rfl
     have hcz24_1 : w13.cell? ⟨gb603, 1, none⟩ = some (.int .i64 t598) := (blk_cell BK603.out 1).trans rfl
     have hcz24_2 : w13.cell? ⟨gb603, 2, none⟩ = some (.int .i64 t599) := (blk_cell BK603.out 2).trans rfl
     have hcz24_3 : w13.cell? ⟨gb603, 3, none⟩ = some (.int .i64 t600) := (blk_cell BK603.out 3).trans rfl
     have hcz24_4 : w13.cell? ⟨gb603, 4, none⟩ = some (.string t601) := (blk_cell BK603.out 4).trans rfl
     have hfz24_0 := blk_frozen BK603.out 0
     have hfz24_1 := blk_frozen BK603.out 1
     have hfz24_2 := blk_frozen BK603.out 2
     have hfz24_3 := blk_frozen BK603.out 3
     have hfz24_4 := blk_frozen BK603.out 4
     go_wp2_with (first | (go_at_call 19; (with_reducible refine (spec_TreeOk.calls k _ _ t593 t611 _ ?side1 ?side2 A21.out).mono ?_); (case side1 => refine (Kd.Q_reads' (e := 37) (base := w.heap.size) (ok := fun k_ => True) (n := t593.length) (c := co8) ?_).2.2; exact (by (with_reducible repeat (first | apply Kd.Q_alloc | apply Kd.Q_drewN | apply Kd.Q_drew)); exact (Kd.Q_mono (Kd.Q_far (p := ⟨gb610, 4, none⟩) (Kd.Q_far (p := ⟨gb610, 3, none⟩) (Kd.Q_far (p := ⟨gb610, 2, none⟩) (Kd.Q_far (p := ⟨gb610, 1, none⟩) (Kd.Q_far (p := ⟨gb610, 0, none⟩) (Kd.Q_types HO596.out BK610.out (by decide)) (fun _ hk => hk.2) (.int .i64 t604)) (fun _ hk => hk.2) (.int .i64 t605)) (fun _ hk => hk.2) (.int .i64 t606)) (fun _ hk => hk.2) (.int .i64 t607)) (fun _ hk => hk.2) (.string t608)) (fun _ h_ => h_.1)))); (case side2 => exact (Kd.Q_reads' HO596.out).2.1); rintro e w25 ⟨rfl, hb⟩; have n0_ := Aside0.mk (Kd.Q_below (by (with_reducible repeat (first | apply Kd.Q_alloc | apply Kd.Q_drewN | apply Kd.Q_drew)); exact (Kd.Q_mono (Kd.Q_far (p := ⟨gb610, 4, none⟩) (Kd.Q_far (p := ⟨gb610, 3, none⟩) (Kd.Q_far (p := ⟨gb610, 2, none⟩) (Kd.Q_far (p := ⟨gb610, 1, none⟩) (Kd.Q_far (p := ⟨gb610, 0, none⟩) (Kd.Q_types HO596.out BK610.out (by decide)) (fun _ hk => hk.2) (.int .i64 t604)) (fun _ hk => hk.2) (.int .i64 t605)) (fun _ hk => hk.2) (.int .i64 t606)) (fun _ hk => hk.2) (.int .i64 t607)) (fun _ hk => hk.2) (.string t608)) (fun _ h_ => h_.1))) hb); have n1_ := Aside0.mk (blk_below (g := gb603) (o := .cells #[.int .i64 t597, .int .i64 t598, .int .i64 t599, .int .i64 t600, .string t601] 27 (0, 0)) (by (with_reducible repeat (first | refine blk_drewN ?_ _ | refine blk_drew ?_ | refine blk_alloc ?_ _)); refine blk_far ?_ NB603_610.out _; (with_reducible repeat (first | refine blk_drewN ?_ _ | refine blk_drew ?_ | refine blk_alloc ?_ _)); refine blk_far ?_ NB603_610.out _; (with_reducible repeat (first | refine blk_drewN ?_ _ | refine blk_drew ?_ | refine blk_alloc ?_ _)); refine blk_far ?_ NB603_610.out _; (with_reducible repeat (first | refine blk_drewN ?_ _ | refine blk_drew ?_ | refine blk_alloc ?_ _)); refine blk_far ?_ NB603_610.out _; (with_reducible repeat (first | refine blk_drewN ?_ _ | refine blk_drew ?_ | refine blk_alloc ?_ _)); refine blk_far ?_ NB603_610.out _; (with_reducible repeat (first | refine blk_drewN ?_ _ | refine blk_drew ?_ | refine blk_alloc ?_ _)); exact BK603.out) hb); have n2_ := Aside0.mk (blk_below (g := gb610) (o := .cells #[.int .i64 t604, .int .i64 t605, .int .i64 t606, .int .i64 t607, .string t608] 27 (0, 0)) (by (with_reducible repeat (first | refine blk_drewN ?_ _ | refine blk_drew ?_ | refine blk_alloc ?_ _)); refine blk_put (cs := #[.int .i64 t604, .int .i64 t605, .int .i64 t606, .int .i64 t607, .string (⟨#[]⟩ : ByteArray)]) ?_ 4 _ rfl; (with_reducible repeat (first | refine blk_drewN ?_ _ | refine blk_drew ?_ | refine blk_alloc ?_ _)); refine blk_put (cs := #[.int .i64 t604, .int .i64 t605, .int .i64 t606, .int .i64 0, .string (⟨#[]⟩ : ByteArray)]) ?_ 3 _ rfl; (with_reducible repeat (first | refine blk_drewN ?_ _ | refine blk_drew ?_ | refine blk_alloc ?_ _)); refine blk_put (cs := #[.int .i64 t604, .int .i64 t605, .int .i64 0, .int .i64 0, .string (⟨#[]⟩ : ByteArray)]) ?_ 2 _ rfl; (with_reducible repeat (first | refine blk_drewN ?_ _ | refine blk_drew ?_ | refine blk_alloc ?_ _)); refine blk_put (cs := #[.int .i64 t604, .int .i64 0, .int .i64 0, .int .i64 0, .string (⟨#[]⟩ : ByteArray)]) ?_ 1 _ rfl; (with_reducible repeat (first | refine blk_drewN ?_ _ | refine blk_drew ?_ | refine blk_alloc ?_ _)); refine blk_put (cs := #[.int .i64 0, .int .i64 0, .int .i64 0, .int .i64 0, .string (⟨#[]⟩ : ByteArray)]) ?_ 0 _ rfl; (with_reducible repeat (first | refine blk_drewN ?_ _ | refine blk_drew ?_ | refine blk_alloc ?_ _)); exact BK610.out) hb); have n3_ := Aside0.mk (below_step (by repeat (first | (with_reducible first | exact HB.out | apply below_alloc | apply pw_below_drewN | apply below_drew1 | refine below_set ?_ GE603.out | refine below_set ?_ GE610.out) | exact HB.out)) hb); clear HO596; clear BK603; clear BK610; clear HB; have HO596 := n0_; have BK603 := n1_; have BK610 := n2_; have HB := n3_; clear n0_ n1_ n2_ n3_; (try clear hb); (try clear hb2); (try clear hk); (try clear hi)))
     go_meet
     case rel => exact ⟨_, (!t611), (by first | rfl | (simp; done) | (simp [*]; done)), H', ⟨by first | omega | exact Nat.le_refl _⟩, ⟨by (with_reducible repeat (first | apply Kd.Q_alloc | apply Kd.Q_drewN | apply Kd.Q_drew)); exact HO596.out⟩, ⟨by (with_reducible repeat (first | refine blk_drewN ?_ _ | refine blk_drew ?_ | refine blk_alloc ?_ _)); exact BK603.out⟩, ⟨by (with_reducible repeat (first | refine blk_drewN ?_ _ | refine blk_drew ?_ | refine blk_alloc ?_ _)); exact BK610.out⟩, ⟨by repeat (first | (with_reducible first | exact HB.out | apply below_alloc | apply pw_below_drewN | apply below_drew1 | refine below_set ?_ GE603.out | refine below_set ?_ GE610.out) | exact HB.out)⟩⟩
  case rest =>
   clear HC6
   try clear c1
   try clear c2
   try clear c2b0
   try clear c2b1
   try clear p2
   try clear c3
   try clear c7
   try clear c14
   try clear c16
   try clear c16b0
   try clear c16b1
   try clear c16b2
   try clear c17
   try clear c17b0
   try clear c18
   try clear c22
   try clear hcz11_0
   try clear hcz11_1
   try clear hcz11_2
   try clear hcz11_3
   try clear hcz11_4
   try clear hcz15_0
   try clear hcz15_1
   try clear hcz15_2
   try clear hcz15_3
   try clear hcz15_4
   try clear hcz19_0
   try clear hcz19_1
   try clear hcz19_2
   try clear hcz19_3
   try clear hcz19_4
   try clear hcz20_0
   try clear hcz20_1
   try clear hcz20_2
   try clear hcz20_3
   try clear hcz20_4
   try clear hcz23_0
   try clear hcz23_1
   try clear hcz23_2
   try clear hcz23_3
   try clear hcz23_4
   try clear hcz24_0
   try clear hcz24_1
   try clear hcz24_2
   try clear hcz24_3
   try clear hcz24_4
   try clear hfz11_0
   try clear hfz11_1
   try clear hfz11_2
   try clear hfz11_3
   try clear hfz11_4
   try clear hfz15_0
   try clear hfz15_1
   try clear hfz15_2
   try clear hfz15_3
   try clear hfz15_4
   try clear hfz19_0
   try clear hfz19_1
   try clear hfz19_2
   try clear hfz19_3
   try clear hfz19_4
   try clear hfz20_0
   try clear hfz20_1
   try clear hfz20_2
   try clear hfz20_3
   try clear hfz20_4
   try clear hfz23_0
   try clear hfz23_1
   try clear hfz23_2
   try clear hfz23_3
   try clear hfz23_4
   try clear hfz24_0
   try clear hfz24_1
   try clear hfz24_2
   try clear hfz24_3
   try clear hfz24_4
   obtain ⟨kq, x52_5, rfl, HA, HJ5, HO_3, BK603, BK610, HB⟩ := hcut
   cases kq with
   | zero => exact absurd HA.out (by simp [laws_FnKeyOut.j0])
   | succ kj5 =>
    have H := HA.out
    clear HA
    simp only [laws_FnKeyOut.j0] at H
    by_cases c26 : x52_5 = true
    ·subst c26
     have H1 : (if (t609 == t602) = true then (some (t604 == t597 && (t605 == t598 && (t606 == t599 && (t607 == t600 && (t608.toList == t601.toList)))))) else (none)) = some r := by rw [if_pos rfl] at H; exact H
     clear H
     have H := H1
     clear H1
     by_cases c27 : (t609 == t602) = true
     ·rw [if_pos c27] at H
      have c27b0 : (t609 == t602) = true := c27
      (try (have c27b1 : decide (t609 = t602) = true := by simpa using c27))
      (try (have c27b2 : (t609 == t602) = true := by simpa using c27))
      clear c27
      obtain rfl := Option.some.inj H
      have hnb28 := NB610_603.out
      have hnc28 := NB603_610.out
      have hcz29_0 : wc.cell? ⟨gb610, 0, none⟩ = some (.int .i64 t604) := (blk_cell BK610.out 0).trans rfl
      have hcz29_1 : wc.cell? ⟨gb610, 1, none⟩ = some (.int .i64 t605) := (blk_cell BK610.out 1).trans rfl
      have hcz29_2 : wc.cell? ⟨gb610, 2, none⟩ = some (.int .i64 t606) := (blk_cell BK610.out 2).trans rfl
      have hcz29_3 : wc.cell? ⟨gb610, 3, none⟩ = some (.int .i64 t607) := (blk_cell BK610.out 3).trans rfl
      have hcz29_4 : wc.cell? ⟨gb610, 4, none⟩ = some (.string t608) := (blk_cell BK610.out 4).trans rfl
      have hfz29_0 := blk_frozen BK610.out 0
      have hfz29_1 := blk_frozen BK610.out 1
      have hfz29_2 := blk_frozen BK610.out 2
      have hfz29_3 := blk_frozen BK610.out 3
      have hfz29_4 := blk_frozen BK610.out 4
      have hcz30_0 : wc.cell? ⟨gb603, 0, none⟩ = some (.int .i64 t597) := (blk_cell BK603.out 0).trans rfl
      have hcz30_1 : wc.cell? ⟨gb603, 1, none⟩ = some (.int .i64 t598) := (blk_cell BK603.out 1).trans rfl
      have hcz30_2 : wc.cell? ⟨gb603, 2, none⟩ = some (.int .i64 t599) := (blk_cell BK603.out 2).trans rfl
      have hcz30_3 : wc.cell? ⟨gb603, 3, none⟩ = some (.int .i64 t600) := (blk_cell BK603.out 3).trans rfl
      have hcz30_4 : wc.cell? ⟨gb603, 4, none⟩ = some (.string t601) := (blk_cell BK603.out 4).trans rfl
      have hfz30_0 := blk_frozen BK603.out 0
      have hfz30_1 := blk_frozen BK603.out 1
      have hfz30_2 := blk_frozen BK603.out 2
      have hfz30_3 := blk_frozen BK603.out 3
      have hfz30_4 := blk_frozen BK603.out 4
      go_wp2
      go_ret
      exact ⟨by first | rfl | (simp [errW_none, errW_some] <;> rfl) | (simp [*, errW_none, errW_some] <;> rfl), by repeat (first | (with_reducible first | exact HB.out | apply below_alloc | apply pw_below_drewN | apply below_drew1 | refine below_set ?_ GE603.out | refine below_set ?_ GE610.out) | exact HB.out)⟩
     ·rw [if_neg c27] at H
      exact absurd H (by simp)
    ·replace c26 := Bool.eq_false_iff.mpr c26
     subst c26
     have H1 : ((impl_TreeUp.f kj5 t593 t594).bind fun bt612 => ((impl_RowWho.f bt612.1).bind fun bt614 => (if t609 = true then ((impl_OpDo.f kj5 t593 t604 t605 t606 t607 t608).bind fun t616 => ((impl_TreeUp.f kj5 t593 bt612.1).bind fun bt619 => ((impl_TreeUp.f kj5 t616 t594).bind fun bt621 => ((impl_TreeAhead.f kj5 t616 t594).bind fun bt623 => ((impl_OpOk.f kj5 t604 t605 t606 t607 t608).bind fun t625 => (if t625 = true then (if bt621.1 = bt619.1 then (if bt623.1 = bt612.1 then ((laws_lpAt.f kj5 t616 t594).bind fun t626 => (if 0 ≤ t626 then (if t626 < (t616.length : Int) then ((laws_lpAt.f kj5 t593 t594).bind fun t628 => (if 0 ≤ t628 then (if t628 < (t593.length : Int) then (some (((rd_T37 t616 t626).f1) == (wrap64 (((rd_T37 t593 t628).f1) - 1)))) else (none)) else (none))) else (none)) else (none))) else (none)) else (none)) else (none))))))) else (if bt612.2 = true then (if bt612.1 = 0 then (some true) else (some (bt614.1 == 0))) else (some true))))) = some r := by rw [if_neg (show ¬ (false = true) by decide)] at H; exact H
     clear H
     have H := H1
     clear H1
     replace H := Option.bind_eq_some_iff.mp H
     obtain ⟨⟨t612, t613⟩, A310, H⟩ := H
     replace H : ((impl_RowWho.f t612).bind fun bt614 => (if t609 = true then ((impl_OpDo.f kj5 t593 t604 t605 t606 t607 t608).bind fun t616 => ((impl_TreeUp.f kj5 t593 t612).bind fun bt619 => ((impl_TreeUp.f kj5 t616 t594).bind fun bt621 => ((impl_TreeAhead.f kj5 t616 t594).bind fun bt623 => ((impl_OpOk.f kj5 t604 t605 t606 t607 t608).bind fun t625 => (if t625 = true then (if bt621.1 = bt619.1 then (if bt623.1 = t612 then ((laws_lpAt.f kj5 t616 t594).bind fun t626 => (if 0 ≤ t626 then (if t626 < (t616.length : Int) then ((laws_lpAt.f kj5 t593 t594).bind fun t628 => (if 0 ≤ t628 then (if t628 < (t593.length : Int) then (some (((rd_T37 t616 t626).f1) == (wrap64 (((rd_T37 t593 t628).f1) - 1)))) else (none)) else (none))) else (none)) else (none))) else (none)) else (none)) else (none))))))) else (if t613 = true then (if t612 = 0 then (some true) else (some (bt614.1 == 0))) else (some true)))) = some r := H
     have A31 := Aside0.mk A310
     clear A310
     replace H := Option.bind_eq_some_iff.mp H
     obtain ⟨⟨t614, t615⟩, A320, H⟩ := H
     replace H : (if t609 = true then ((impl_OpDo.f kj5 t593 t604 t605 t606 t607 t608).bind fun t616 => ((impl_TreeUp.f kj5 t593 t612).bind fun bt619 => ((impl_TreeUp.f kj5 t616 t594).bind fun bt621 => ((impl_TreeAhead.f kj5 t616 t594).bind fun bt623 => ((impl_OpOk.f kj5 t604 t605 t606 t607 t608).bind fun t625 => (if t625 = true then (if bt621.1 = bt619.1 then (if bt623.1 = t612 then ((laws_lpAt.f kj5 t616 t594).bind fun t626 => (if 0 ≤ t626 then (if t626 < (t616.length : Int) then ((laws_lpAt.f kj5 t593 t594).bind fun t628 => (if 0 ≤ t628 then (if t628 < (t593.length : Int) then (some (((rd_T37 t616 t626).f1) == (wrap64 (((rd_T37 t593 t628).f1) - 1)))) else (none)) else (none))) else (none)) else (none))) else (none)) else (none)) else (none))))))) else (if t613 = true then (if t612 = 0 then (some true) else (some (t614 == 0))) else (some true))) = some r := H
     have A32 := Aside0.mk A320
     clear A320
     by_cases c33 : t609 = true
     ·subst c33
      have H1 : ((impl_OpDo.f kj5 t593 t604 t605 t606 t607 t608).bind fun t616 => ((impl_TreeUp.f kj5 t593 t612).bind fun bt619 => ((impl_TreeUp.f kj5 t616 t594).bind fun bt621 => ((impl_TreeAhead.f kj5 t616 t594).bind fun bt623 => ((impl_OpOk.f kj5 t604 t605 t606 t607 t608).bind fun t625 => (if t625 = true then (if bt621.1 = bt619.1 then (if bt623.1 = t612 then ((laws_lpAt.f kj5 t616 t594).bind fun t626 => (if 0 ≤ t626 then (if t626 < (t616.length : Int) then ((laws_lpAt.f kj5 t593 t594).bind fun t628 => (if 0 ≤ t628 then (if t628 < (t593.length : Int) then (some (((rd_T37 t616 t626).f1) == (wrap64 (((rd_T37 t593 t628).f1) - 1)))) else (none)) else (none))) else (none)) else (none))) else (none)) else (none)) else (none))))))) = some r := by rw [if_pos rfl] at H; exact H
      clear H
      have H := H1
      clear H1
      replace H := Option.bind_eq_some_iff.mp H
      obtain ⟨t616, A340, H⟩ := H
      replace H : ((impl_TreeUp.f kj5 t593 t612).bind fun bt619 => ((impl_TreeUp.f kj5 t616 t594).bind fun bt621 => ((impl_TreeAhead.f kj5 t616 t594).bind fun bt623 => ((impl_OpOk.f kj5 t604 t605 t606 t607 t608).bind fun t625 => (if t625 = true then (if bt621.1 = bt619.1 then (if bt623.1 = t612 then ((laws_lpAt.f kj5 t616 t594).bind fun t626 => (if 0 ≤ t626 then (if t626 < (t616.length : Int) then ((laws_lpAt.f kj5 t593 t594).bind fun t628 => (if 0 ≤ t628 then (if t628 < (t593.length : Int) then (some (((rd_T37 t616 t626).f1) == (wrap64 (((rd_T37 t593 t628).f1) - 1)))) else (none)) else (none))) else (none)) else (none))) else (none)) else (none)) else (none)))))) = some r := H
      have A34 := Aside0.mk A340
      clear A340
      replace H := Option.bind_eq_some_iff.mp H
      obtain ⟨⟨t619, t620⟩, A350, H⟩ := H
      replace H : ((impl_TreeUp.f kj5 t616 t594).bind fun bt621 => ((impl_TreeAhead.f kj5 t616 t594).bind fun bt623 => ((impl_OpOk.f kj5 t604 t605 t606 t607 t608).bind fun t625 => (if t625 = true then (if bt621.1 = t619 then (if bt623.1 = t612 then ((laws_lpAt.f kj5 t616 t594).bind fun t626 => (if 0 ≤ t626 then (if t626 < (t616.length : Int) then ((laws_lpAt.f kj5 t593 t594).bind fun t628 => (if 0 ≤ t628 then (if t628 < (t593.length : Int) then (some (((rd_T37 t616 t626).f1) == (wrap64 (((rd_T37 t593 t628).f1) - 1)))) else (none)) else (none))) else (none)) else (none))) else (none)) else (none)) else (none))))) = some r := H
      have A35 := Aside0.mk A350
      clear A350
      replace H := Option.bind_eq_some_iff.mp H
      obtain ⟨⟨t621, t622⟩, A360, H⟩ := H
      replace H : ((impl_TreeAhead.f kj5 t616 t594).bind fun bt623 => ((impl_OpOk.f kj5 t604 t605 t606 t607 t608).bind fun t625 => (if t625 = true then (if t621 = t619 then (if bt623.1 = t612 then ((laws_lpAt.f kj5 t616 t594).bind fun t626 => (if 0 ≤ t626 then (if t626 < (t616.length : Int) then ((laws_lpAt.f kj5 t593 t594).bind fun t628 => (if 0 ≤ t628 then (if t628 < (t593.length : Int) then (some (((rd_T37 t616 t626).f1) == (wrap64 (((rd_T37 t593 t628).f1) - 1)))) else (none)) else (none))) else (none)) else (none))) else (none)) else (none)) else (none)))) = some r := H
      have A36 := Aside0.mk A360
      clear A360
      replace H := Option.bind_eq_some_iff.mp H
      obtain ⟨⟨t623, t624⟩, A370, H⟩ := H
      replace H : ((impl_OpOk.f kj5 t604 t605 t606 t607 t608).bind fun t625 => (if t625 = true then (if t621 = t619 then (if t623 = t612 then ((laws_lpAt.f kj5 t616 t594).bind fun t626 => (if 0 ≤ t626 then (if t626 < (t616.length : Int) then ((laws_lpAt.f kj5 t593 t594).bind fun t628 => (if 0 ≤ t628 then (if t628 < (t593.length : Int) then (some (((rd_T37 t616 t626).f1) == (wrap64 (((rd_T37 t593 t628).f1) - 1)))) else (none)) else (none))) else (none)) else (none))) else (none)) else (none)) else (none))) = some r := H
      have A37 := Aside0.mk A370
      clear A370
      replace H := Option.bind_eq_some_iff.mp H
      obtain ⟨t625, A380, H⟩ := H
      replace H : (if t625 = true then (if t621 = t619 then (if t623 = t612 then ((laws_lpAt.f kj5 t616 t594).bind fun t626 => (if 0 ≤ t626 then (if t626 < (t616.length : Int) then ((laws_lpAt.f kj5 t593 t594).bind fun t628 => (if 0 ≤ t628 then (if t628 < (t593.length : Int) then (some (((rd_T37 t616 t626).f1) == (wrap64 (((rd_T37 t593 t628).f1) - 1)))) else (none)) else (none))) else (none)) else (none))) else (none)) else (none)) else (none)) = some r := H
      have A38 := Aside0.mk A380
      clear A380
      by_cases c39 : t625 = true
      ·subst c39
       have H1 : (if t621 = t619 then (if t623 = t612 then ((laws_lpAt.f kj5 t616 t594).bind fun t626 => (if 0 ≤ t626 then (if t626 < (t616.length : Int) then ((laws_lpAt.f kj5 t593 t594).bind fun t628 => (if 0 ≤ t628 then (if t628 < (t593.length : Int) then (some (((rd_T37 t616 t626).f1) == (wrap64 (((rd_T37 t593 t628).f1) - 1)))) else (none)) else (none))) else (none)) else (none))) else (none)) else (none)) = some r := by rw [if_pos rfl] at H; exact H
       clear H
       have H := H1
       clear H1
       by_cases c40 : t621 = t619
       ·rw [if_pos c40] at H
        have c40b0 : (t621 == t619) = true := beq_iff_eq.mpr c40
        have c40b1 : (t621 != t619) = false := bne_eq_false_iff_eq.mpr c40
        clear c40
        by_cases c41 : t623 = t612
        ·rw [if_pos c41] at H
         have c41b0 : (t623 == t612) = true := beq_iff_eq.mpr c41
         have c41b1 : (t623 != t612) = false := bne_eq_false_iff_eq.mpr c41
         clear c41
         replace H := Option.bind_eq_some_iff.mp H
         obtain ⟨t626, A420, H⟩ := H
         replace H : (if 0 ≤ t626 then (if t626 < (t616.length : Int) then ((laws_lpAt.f kj5 t593 t594).bind fun t628 => (if 0 ≤ t628 then (if t628 < (t593.length : Int) then (some (((rd_T37 t616 t626).f1) == (wrap64 (((rd_T37 t593 t628).f1) - 1)))) else (none)) else (none))) else (none)) else (none)) = some r := H
         have A42 := Aside0.mk A420
         clear A420
         by_cases c43 : 0 ≤ t626
         ·rw [if_pos c43] at H
          have c43b0 : decide (0 ≤ t626) = true := decide_eq_true c43
          clear c43
          by_cases c44 : t626 < (t616.length : Int)
          ·rw [if_pos c44] at H
           have c44b0 : decide (t626 < (t616.length : Int)) = true := decide_eq_true c44
           clear c44
           replace H := Option.bind_eq_some_iff.mp H
           obtain ⟨t628, A450, H⟩ := H
           replace H : (if 0 ≤ t628 then (if t628 < (t593.length : Int) then (some (((rd_T37 t616 t626).f1) == (wrap64 (((rd_T37 t593 t628).f1) - 1)))) else (none)) else (none)) = some r := H
           have A45 := Aside0.mk A450
           clear A450
           by_cases c46 : 0 ≤ t628
           ·rw [if_pos c46] at H
            have c46b0 : decide (0 ≤ t628) = true := decide_eq_true c46
            clear c46
            by_cases c47 : t628 < (t593.length : Int)
            ·rw [if_pos c47] at H
             have c47b0 : decide (t628 < (t593.length : Int)) = true := decide_eq_true c47
             clear c47
             obtain rfl := Option.some.inj H
             try go_wp2_with (first | ((with_reducible refine gate_callee (f := 34) rfl ?_); refine goesL_ (some 64) rfl rfl Tryd.func34 (by kernel_rfl) rfl #[.slice Ao8 t593.length co8, .int .i64 t594] rfl (by (try simp only [List.map_toArray, List.map_cons, List.map_nil]); first | done | rfl | (simp only [List.length_drop, List.length_take]; rfl)) ?_; (with_reducible refine (impl_TreeUp.calls kj5 _ _ t593 t594 t612 t613 _ ?side1 ?side2 A31.out ?side3).mono ?_); (case side1 => repeat (first | exact (Kd.Q_reads' HO_3.out).2.2 | (with_reducible refine Kd.C_alloc ?_ _) | (with_reducible refine Kd.C_drewN ?_ _) | (with_reducible refine Kd.C_drew ?_))); (case side2 => exact (Kd.Q_reads' HO_3.out).2.1); (case side3 => exact Glob.below HG.out (by repeat (first | (with_reducible first | exact HB.out | apply below_alloc | apply pw_below_drewN | apply below_drew1 | refine below_set ?_ GE603.out | refine below_set ?_ GE610.out) | exact HB.out))); rintro e w48 ⟨rfl, hb⟩; refine ⟨_, rfl, ?_⟩; have n0_ := Aside0.mk (Kd.Q_below (by (with_reducible repeat (first | apply Kd.Q_alloc | apply Kd.Q_drewN | apply Kd.Q_drew)); exact HO_3.out) hb); have n1_ := Aside0.mk (blk_below (g := gb603) (o := .cells #[.int .i64 t597, .int .i64 t598, .int .i64 t599, .int .i64 t600, .string t601] 27 (0, 0)) (by (with_reducible repeat (first | refine blk_drewN ?_ _ | refine blk_drew ?_ | refine blk_alloc ?_ _)); exact BK603.out) hb); have n2_ := Aside0.mk (blk_below (g := gb610) (o := .cells #[.int .i64 t604, .int .i64 t605, .int .i64 t606, .int .i64 t607, .string t608] 27 (0, 0)) (by (with_reducible repeat (first | refine blk_drewN ?_ _ | refine blk_drew ?_ | refine blk_alloc ?_ _)); exact BK610.out) hb); have n3_ := Aside0.mk (below_step (by repeat (first | (with_reducible first | exact HB.out | apply below_alloc | apply pw_below_drewN | apply below_drew1 | refine below_set ?_ GE603.out | refine below_set ?_ GE610.out) | exact HB.out)) hb); clear HO_3; clear BK603; clear BK610; clear HB; have HO_3 := n0_; have BK603 := n1_; have BK610 := n2_; have HB := n3_; clear n0_ n1_ n2_ n3_; (try clear hb); (try clear hb2); (try clear hk); (try clear hi)) | ((with_reducible refine gate_callee (f := 20) rfl ?_); refine goesL_ (some 69) rfl rfl Tryd.func20 (by kernel_rfl) rfl #[.int .i64 t612] rfl (by (try simp only [List.map_toArray, List.map_cons, List.map_nil]); first | done | rfl | (simp only [List.length_drop, List.length_take]; rfl)) ?_; (with_reducible refine (impl_RowWho.calls t612 t614 t615 _ A32.out ?side1).mono ?_); (case side1 => exact Glob.below HG.out (by repeat (first | (with_reducible first | exact HB.out | apply below_alloc | apply pw_below_drewN | apply below_drew1 | refine below_set ?_ GE603.out | refine below_set ?_ GE610.out) | exact HB.out))); rintro e w' ⟨rfl, ⟨nd, rfl⟩⟩; refine ⟨_, rfl, ?_⟩; have hnb49 := NB610_603.out; have hnc49 := NB603_610.out; have hcz50_0 : w48.cell? ⟨gb610, 0, none⟩ = some (.int .i64 t604) := (blk_cell BK610.out 0).trans rfl; have hcz50_1 : w48.cell? ⟨gb610, 1, none⟩ = some (.int .i64 t605) := (blk_cell BK610.out 1).trans rfl; have hcz50_2 : w48.cell? ⟨gb610, 2, none⟩ = some (.int .i64 t606) := (blk_cell BK610.out 2).trans rfl; have hcz50_3 : w48.cell? ⟨gb610, 3, none⟩ = some (.int .i64 t607) := (blk_cell BK610.out 3).trans rfl; have hcz50_4 : w48.cell? ⟨gb610, 4, none⟩ = some (.string t608) := (blk_cell BK610.out 4).trans rfl; have hfz50_0 := blk_frozen BK610.out 0; have hfz50_1 := blk_frozen BK610.out 1; have hfz50_2 := blk_frozen BK610.out 2; have hfz50_3 := blk_frozen BK610.out 3; have hfz50_4 := blk_frozen BK610.out 4) | ((with_reducible refine gate_callee (f := 23) rfl ?_); refine goesL_ (some 86) rfl rfl Tryd.func23 (by kernel_rfl) rfl #[.slice Ao8 t593.length co8, .agg #[.int .i64 t604, .int .i64 t605, .int .i64 t606, .int .i64 t607, .string t608]] rfl (by (try simp only [List.map_toArray, List.map_cons, List.map_nil]); first | done | rfl | (simp only [List.length_drop, List.length_take]; rfl)) ?_; (with_reducible refine (impl_OpDo.calls kj5 _ _ t593 t604 t605 t606 t607 t608 t616 _ ?side1 ?side2 A34.out ?side3).mono ?_); (case side1 => repeat (first | exact (Kd.Q_reads' HO_3.out).2.2 | (with_reducible refine Kd.C_alloc ?_ _) | (with_reducible refine Kd.C_drewN ?_ _) | (with_reducible refine Kd.C_drew ?_))); (case side2 => exact (Kd.Q_reads' HO_3.out).2.1); (case side3 => exact Glob.below HG.out (by repeat (first | (with_reducible first | exact HB.out | apply below_alloc | apply pw_below_drewN | apply below_drew1 | refine below_set ?_ GE603.out | refine below_set ?_ GE610.out) | exact HB.out))); rintro e w51 ⟨v617, rfl, ho0, hb⟩; refine ⟨_, rfl, ?_⟩; have n0_ := Aside0.mk (Kd.Q_elder' (by (with_reducible repeat (first | apply Kd.Q_alloc | apply Kd.Q_drewN | apply Kd.Q_drew)); exact HO_3.out) (Kd.R_base ho0) hb); have n1_ := Aside0.mk (Kd.R_lower (Kd.R_new' ho0 (Kd.Q_lt (by (with_reducible repeat (first | apply Kd.Q_alloc | apply Kd.Q_drewN | apply Kd.Q_drew)); exact HO_3.out))) (below_size (by repeat (first | (with_reducible first | exact HB.out | apply below_alloc | apply pw_below_drewN | apply below_drew1 | refine below_set ?_ GE603.out | refine below_set ?_ GE610.out) | exact HB.out)))); have n2_ := Aside0.mk (blk_below (g := gb603) (o := .cells #[.int .i64 t597, .int .i64 t598, .int .i64 t599, .int .i64 t600, .string t601] 27 (0, 0)) (by (with_reducible repeat (first | refine blk_drewN ?_ _ | refine blk_drew ?_ | refine blk_alloc ?_ _)); exact BK603.out) hb); have n3_ := Aside0.mk (blk_below (g := gb610) (o := .cells #[.int .i64 t604, .int .i64 t605, .int .i64 t606, .int .i64 t607, .string t608] 27 (0, 0)) (by (with_reducible repeat (first | refine blk_drewN ?_ _ | refine blk_drew ?_ | refine blk_alloc ?_ _)); exact BK610.out) hb); have n4_ := Aside0.mk (below_step (by repeat (first | (with_reducible first | exact HB.out | apply below_alloc | apply pw_below_drewN | apply below_drew1 | refine below_set ?_ GE603.out | refine below_set ?_ GE610.out) | exact HB.out)) hb); clear HO_3; clear BK603; clear BK610; clear HB; have HO_3 := n0_; have HO618 := n1_; have BK603 := n2_; have BK610 := n3_; have HB := n4_; clear n0_ n1_ n2_ n3_ n4_; (try clear hb); (try clear hb2); (try clear hk); (try clear hi); (try clear ho0)) | ((with_reducible refine gate_callee (f := 34) rfl ?_); refine goesL_ (some 90) rfl rfl Tryd.func34 (by kernel_rfl) rfl #[.slice Ao8 t593.length co8, .int .i64 t612] rfl (by (try simp only [List.map_toArray, List.map_cons, List.map_nil]); first | done | rfl | (simp only [List.length_drop, List.length_take]; rfl)) ?_; (with_reducible refine (impl_TreeUp.calls kj5 _ _ t593 t612 t619 t620 _ ?side1 ?side2 A35.out ?side3).mono ?_); (case side1 => repeat (first | exact (Kd.Q_reads' HO_3.out).2.2 | (with_reducible refine Kd.C_alloc ?_ _) | (with_reducible refine Kd.C_drewN ?_ _) | (with_reducible refine Kd.C_drew ?_))); (case side2 => exact (Kd.Q_reads' HO_3.out).2.1); (case side3 => exact Glob.below HG.out (by repeat (first | (with_reducible first | exact HB.out | apply below_alloc | apply pw_below_drewN | apply below_drew1 | refine below_set ?_ GE603.out | refine below_set ?_ GE610.out) | exact HB.out))); rintro e w52 ⟨rfl, hb⟩; refine ⟨_, rfl, ?_⟩; have n0_ := Aside0.mk (Kd.Q_below (by (with_reducible repeat (first | apply Kd.Q_alloc | apply Kd.Q_drewN | apply Kd.Q_drew)); exact HO_3.out) hb); have n1_ := Aside0.mk (Kd.R_below (by (with_reducible repeat (first | apply Kd.R_alloc | apply Kd.R_drewN | apply Kd.R_drew)); exact HO618.out) hb); have n2_ := Aside0.mk (blk_below (g := gb603) (o := .cells #[.int .i64 t597, .int .i64 t598, .int .i64 t599, .int .i64 t600, .string t601] 27 (0, 0)) (by (with_reducible repeat (first | refine blk_drewN ?_ _ | refine blk_drew ?_ | refine blk_alloc ?_ _)); exact BK603.out) hb); have n3_ := Aside0.mk (blk_below (g := gb610) (o := .cells #[.int .i64 t604, .int .i64 t605, .int .i64 t606, .int .i64 t607, .string t608] 27 (0, 0)) (by (with_reducible repeat (first | refine blk_drewN ?_ _ | refine blk_drew ?_ | refine blk_alloc ?_ _)); exact BK610.out) hb); have n4_ := Aside0.mk (below_step (by repeat (first | (with_reducible first | exact HB.out | apply below_alloc | apply pw_below_drewN | apply below_drew1 | refine below_set ?_ GE603.out | refine below_set ?_ GE610.out) | exact HB.out)) hb); clear HO_3; clear HO618; clear BK603; clear BK610; clear HB; have HO_3 := n0_; have HO618 := n1_; have BK603 := n2_; have BK610 := n3_; have HB := n4_; clear n0_ n1_ n2_ n3_ n4_; (try clear hb); (try clear hb2); (try clear hk); (try clear hi); obtain ⟨Ao53, co53, eo53⟩ := Kd.R_slice HO618.out; subst eo53) | ((with_reducible refine gate_callee (f := 34) rfl ?_); refine goesL_ (some 96) rfl rfl Tryd.func34 (by kernel_rfl) rfl #[.slice Ao53 t616.length co53, .int .i64 t594] rfl (by (try simp only [List.map_toArray, List.map_cons, List.map_nil]); first | done | rfl | (simp only [List.length_drop, List.length_take]; rfl)) ?_; (with_reducible refine (impl_TreeUp.calls kj5 _ _ t616 t594 t621 t622 _ ?side1 ?side2 A36.out ?side3).mono ?_); (case side1 => repeat (first | exact (Kd.R_reads' HO618.out).2.2 | (with_reducible refine Kd.C_alloc ?_ _) | (with_reducible refine Kd.C_drewN ?_ _) | (with_reducible refine Kd.C_drew ?_))); (case side2 => exact (Kd.R_reads' HO618.out).2.1); (case side3 => exact Glob.below HG.out (by repeat (first | (with_reducible first | exact HB.out | apply below_alloc | apply pw_below_drewN | apply below_drew1 | refine below_set ?_ GE603.out | refine below_set ?_ GE610.out) | exact HB.out))); rintro e w54 ⟨rfl, hb⟩; refine ⟨_, rfl, ?_⟩; have n0_ := Aside0.mk (Kd.Q_below (by (with_reducible repeat (first | apply Kd.Q_alloc | apply Kd.Q_drewN | apply Kd.Q_drew)); exact HO_3.out) hb); have n1_ := Aside0.mk (Kd.R_below (by (with_reducible repeat (first | apply Kd.R_alloc | apply Kd.R_drewN | apply Kd.R_drew)); exact HO618.out) hb); have n2_ := Aside0.mk (blk_below (g := gb603) (o := .cells #[.int .i64 t597, .int .i64 t598, .int .i64 t599, .int .i64 t600, .string t601] 27 (0, 0)) (by (with_reducible repeat (first | refine blk_drewN ?_ _ | refine blk_drew ?_ | refine blk_alloc ?_ _)); exact BK603.out) hb); have n3_ := Aside0.mk (blk_below (g := gb610) (o := .cells #[.int .i64 t604, .int .i64 t605, .int .i64 t606, .int .i64 t607, .string t608] 27 (0, 0)) (by (with_reducible repeat (first | refine blk_drewN ?_ _ | refine blk_drew ?_ | refine blk_alloc ?_ _)); exact BK610.out) hb); have n4_ := Aside0.mk (below_step (by repeat (first | (with_reducible first | exact HB.out | apply below_alloc | apply pw_below_drewN | apply below_drew1 | refine below_set ?_ GE603.out | refine below_set ?_ GE610.out) | exact HB.out)) hb); clear HO_3; clear HO618; clear BK603; clear BK610; clear HB; have HO_3 := n0_; have HO618 := n1_; have BK603 := n2_; have BK610 := n3_; have HB := n4_; clear n0_ n1_ n2_ n3_ n4_; (try clear hb); (try clear hb2); (try clear hk); (try clear hi)) | ((with_reducible refine gate_callee (f := 35) rfl ?_); refine goesL_ (some 102) rfl rfl Tryd.func35 (by kernel_rfl) rfl #[.slice Ao53 t616.length co53, .int .i64 t594] rfl (by (try simp only [List.map_toArray, List.map_cons, List.map_nil]); first | done | rfl | (simp only [List.length_drop, List.length_take]; rfl)) ?_; (with_reducible refine (impl_TreeAhead.calls kj5 _ _ t616 t594 t623 t624 _ ?side1 ?side2 A37.out ?side3).mono ?_); (case side1 => repeat (first | exact (Kd.R_reads' HO618.out).2.2 | (with_reducible refine Kd.C_alloc ?_ _) | (with_reducible refine Kd.C_drewN ?_ _) | (with_reducible refine Kd.C_drew ?_))); (case side2 => exact (Kd.R_reads' HO618.out).2.1); (case side3 => exact Glob.below HG.out (by repeat (first | (with_reducible first | exact HB.out | apply below_alloc | apply pw_below_drewN | apply below_drew1 | refine below_set ?_ GE603.out | refine below_set ?_ GE610.out) | exact HB.out))); rintro e w55 ⟨rfl, hb⟩; refine ⟨_, rfl, ?_⟩; have n0_ := Aside0.mk (Kd.Q_below (by (with_reducible repeat (first | apply Kd.Q_alloc | apply Kd.Q_drewN | apply Kd.Q_drew)); exact HO_3.out) hb); have n1_ := Aside0.mk (Kd.R_below (by (with_reducible repeat (first | apply Kd.R_alloc | apply Kd.R_drewN | apply Kd.R_drew)); exact HO618.out) hb); have n2_ := Aside0.mk (blk_below (g := gb603) (o := .cells #[.int .i64 t597, .int .i64 t598, .int .i64 t599, .int .i64 t600, .string t601] 27 (0, 0)) (by (with_reducible repeat (first | refine blk_drewN ?_ _ | refine blk_drew ?_ | refine blk_alloc ?_ _)); exact BK603.out) hb); have n3_ := Aside0.mk (blk_below (g := gb610) (o := .cells #[.int .i64 t604, .int .i64 t605, .int .i64 t606, .int .i64 t607, .string t608] 27 (0, 0)) (by (with_reducible repeat (first | refine blk_drewN ?_ _ | refine blk_drew ?_ | refine blk_alloc ?_ _)); exact BK610.out) hb); have n4_ := Aside0.mk (below_step (by repeat (first | (with_reducible first | exact HB.out | apply below_alloc | apply pw_below_drewN | apply below_drew1 | refine below_set ?_ GE603.out | refine below_set ?_ GE610.out) | exact HB.out)) hb); clear HO_3; clear HO618; clear BK603; clear BK610; clear HB; have HO_3 := n0_; have HO618 := n1_; have BK603 := n2_; have BK610 := n3_; have HB := n4_; clear n0_ n1_ n2_ n3_ n4_; (try clear hb); (try clear hb2); (try clear hk); (try clear hi)))
             have n0_ := Aside0.mk (Kd.Q_drew HO_3.out)
             have n1_ := Aside0.mk (Kd.R_drew HO618.out)
             have n2_ := Aside0.mk (blk_drew BK603.out)
             have n3_ := Aside0.mk (blk_drew BK610.out)
             have n4_ := Aside0.mk (below_drew1 HB.out)
             clear HO_3
             clear HO618
             clear BK603
             clear BK610
             clear HB
             have HO_3 := n0_
             have HO618 := n1_
             have BK603 := n2_
             have BK610 := n3_
             have HB := n4_
             clear n0_ n1_ n2_ n3_ n4_
             have p627 : 0 ≤ (t626 : Int) := of_decide_eq_true (by first | (with_reducible assumption) | assumption)
             have q627 : t626 < (t616.length : Int) := of_decide_eq_true (by first | (with_reducible assumption) | assumption)
             obtain ⟨ad627, e627, hx627_0, hx627_1, hx627_2⟩ := at_T37 (Kd.R_reads' HO618.out).2.2 t626 p627 q627
             cases e627
             replace p627 := eq_true p627
             replace q627 := eq_true q627
             have p629 : 0 ≤ (t628 : Int) := of_decide_eq_true (by first | (with_reducible assumption) | assumption)
             have q629 : t628 < (t593.length : Int) := of_decide_eq_true (by first | (with_reducible assumption) | assumption)
             obtain ⟨ad629, e629, hx629_0, hx629_1, hx629_2⟩ := at_T37 (Kd.Q_reads' HO_3.out).2.2 t628 p629 q629
             cases e629
             replace p629 := eq_true p629
             replace q629 := eq_true q629
             refine start_ (n := 31) (S := fun w' => w'.cell? ⟨gb610, 0, none⟩ = some (.int .i64 t604) ∧ w'.cell? ⟨gb610, 1, none⟩ = some (.int .i64 t605) ∧ w'.cell? ⟨gb610, 2, none⟩ = some (.int .i64 t606) ∧ w'.cell? ⟨gb610, 3, none⟩ = some (.int .i64 t607) ∧ w'.cell? ⟨gb610, 4, none⟩ = some (.string t608) ∧ w'.cell? (ad627.add ((t626).toNat * 3)) = some (.int .i64 ((rd_T37 t616 t626).f0)) ∧ w'.cell? ⟨(ad627.add ((t626).toNat * 3)).block, (ad627.add ((t626).toNat * 3)).off + 1, none⟩ = some (.int .i64 ((rd_T37 t616 t626).f1)) ∧ w'.cell? ⟨(ad627.add ((t626).toNat * 3)).block, (ad627.add ((t626).toNat * 3)).off + 2, none⟩ = some (.string ((rd_T37 t616 t626).f2)) ∧ w'.cell? (ad629.add ((t628).toNat * 3)) = some (.int .i64 ((rd_T37 t593 t628).f0)) ∧ w'.cell? ⟨(ad629.add ((t628).toNat * 3)).block, (ad629.add ((t628).toNat * 3)).off + 1, none⟩ = some (.int .i64 ((rd_T37 t593 t628).f1)) ∧ w'.cell? ⟨(ad629.add ((t628).toNat * 3)).block, (ad629.add ((t628).toNat * 3)).off + 2, none⟩ = some (.string ((rd_T37 t593 t628).f2))) (ds := []) #[false, false, false, false, false, false, false, false, false, false, false, false, false, false, false, false, false, false, false, false, false, false, false, false, false, false, false, false, false, false, false] (by kernel_rfl) rfl rfl ⟨(blk_cell BK610.out 0).trans rfl, (blk_cell BK610.out 1).trans rfl, (blk_cell BK610.out 2).trans rfl, (blk_cell BK610.out 3).trans rfl, (blk_cell BK610.out 4).trans rfl, hx627_0, hx627_1, hx627_2, hx629_0, hx629_1, hx629_2⟩ (fun hHeld => ?_); refine with_tabW laws_FnKeyOut.tab16 laws_FnKeyOut.bits16 (fun HT_ HW_ => ?_)
             generalize w55.drew = w56 at HO_3 HO618 BK603 BK610 HB hx627_0 hx627_1 hx627_2 hx629_0 hx629_1 hx629_2 hHeld ⊢
             refine take_ (i := 0) (N := some 105) (v := ?_) (a' := ?_) #[true, false, false, false, false, false, false, false, false, false, false, false, false, false, false, false, false, false, false, false, false, false, false, false, false, false, false, false, false, false, false] rfl rfl (take_ofW HT_.out HW_.out (by kernel_rfl)) (fun _ _ _ h => h) (Or.inl ⟨by rfl, ?_⟩) hHeld ?_ ?_
             rotate_left
             ·rintro w' ⟨s0, s1, s2, s3, s4, s5, s6, s7, s8, s9, s10⟩
              go_simp
              with_reducible rfl
             rotate_left
             ·simp only [Act.put, List.setIfInBounds_toArray, List.set_cons_zero, List.set_cons_succ, i64_w, i32_w]
              rfl
             refine one_ (i := 1) (N := some 106) #[true, true, false, false, false, false, false, false, false, false, false, false, false, false, false, false, false, false, false, false, false, false, false, false, false, false, false, false, false, false, false] rfl rfl (one_of HT_.out (by kernel_rfl)) (by decide) (fun K hK => ?_)
             refine goes_ Tryd.func36 (by kernel_rfl) rfl #[.agg #[.int .i64 t604, .int .i64 t605, .int .i64 t606, .int .i64 t607, .string t608]] (by rfl) rfl rfl (by (try simp only [List.map_toArray, List.map_cons, List.map_nil]); first | done | rfl | (simp only [List.length_drop, List.length_take]; rfl)) ?_
             with_reducible refine (impl_OpOk.calls kj5 t604 t605 t606 t607 t608 true _ A38.out ?side1).mono ?_
             (case side1 => exact Glob.below HG.out (by repeat (first | (with_reducible first | exact HB.out | apply below_alloc | apply pw_below_drewN | apply below_drew1 | refine below_set ?_ GE603.out | refine below_set ?_ GE610.out) | exact HB.out)))
             rintro e w57 ⟨rfl, hb⟩
             have HS5_ := (hb.cell (World.block_lt_of_cell? _ _ (hHeld.2.2.2.2.2.1))).trans (hHeld.2.2.2.2.2.1)
             have HS6_ := (hb.cell (World.block_lt_of_cell? _ _ (hHeld.2.2.2.2.2.2.1))).trans (hHeld.2.2.2.2.2.2.1)
             have HS7_ := (hb.cell (World.block_lt_of_cell? _ _ (hHeld.2.2.2.2.2.2.2.1))).trans (hHeld.2.2.2.2.2.2.2.1)
             have HS8_ := (hb.cell (World.block_lt_of_cell? _ _ (hHeld.2.2.2.2.2.2.2.2.1))).trans (hHeld.2.2.2.2.2.2.2.2.1)
             have HS9_ := (hb.cell (World.block_lt_of_cell? _ _ (hHeld.2.2.2.2.2.2.2.2.2.1))).trans (hHeld.2.2.2.2.2.2.2.2.2.1)
             have HS10_ := (hb.cell (World.block_lt_of_cell? _ _ (hHeld.2.2.2.2.2.2.2.2.2.2))).trans (hHeld.2.2.2.2.2.2.2.2.2.2)
             refine ⟨_, rfl, ?_⟩
             have n0_ := Aside0.mk (Kd.Q_below (by (with_reducible repeat (first | apply Kd.Q_alloc | apply Kd.Q_drewN | apply Kd.Q_drew)); exact HO_3.out) hb)
             have n1_ := Aside0.mk (Kd.R_below (by (with_reducible repeat (first | apply Kd.R_alloc | apply Kd.R_drewN | apply Kd.R_drew)); exact HO618.out) hb)
             have n2_ := Aside0.mk (blk_below (g := gb603) (o := .cells #[.int .i64 t597, .int .i64 t598, .int .i64 t599, .int .i64 t600, .string t601] 27 (0, 0)) (by (with_reducible repeat (first | refine blk_drewN ?_ _ | refine blk_drew ?_ | refine blk_alloc ?_ _)); exact BK603.out) hb)
             have n3_ := Aside0.mk (blk_below (g := gb610) (o := .cells #[.int .i64 t604, .int .i64 t605, .int .i64 t606, .int .i64 t607, .string t608] 27 (0, 0)) (by (with_reducible repeat (first | refine blk_drewN ?_ _ | refine blk_drew ?_ | refine blk_alloc ?_ _)); exact BK610.out) hb)
             have n4_ := Aside0.mk (below_step (by repeat (first | (with_reducible first | exact HB.out | apply below_alloc | apply pw_below_drewN | apply below_drew1 | refine below_set ?_ GE603.out | refine below_set ?_ GE610.out) | exact HB.out)) hb)
             clear HO_3
             clear HO618
             clear BK603
             clear BK610
             clear HB
             have HO_3 := n0_
             have HO618 := n1_
             have BK603 := n2_
             have BK610 := n3_
             have HB := n4_
             clear n0_ n1_ n2_ n3_ n4_
             (try clear hb)
             (try clear hb2)
             (try clear hk)
             (try clear hi)
             refine hK.out _ _ ⟨(blk_cell BK610.out 0).trans rfl, (blk_cell BK610.out 1).trans rfl, (blk_cell BK610.out 2).trans rfl, (blk_cell BK610.out 3).trans rfl, (blk_cell BK610.out 4).trans rfl, HS5_, HS6_, HS7_, HS8_, HS9_, HS10_⟩ (fun hHeld => ?_)
             clear hK K
             refine norm_ (a' := ?_) ?_ ?_
             rotate_left
             ·show Act.put _ (some 106) _ = _
              simp only [Act.put, List.setIfInBounds_toArray, List.set_cons_zero, List.set_cons_succ, i64_w, i32_w]
              rfl
             refine pure_ (i := 2) (N := some 107) (v := ?_) (a' := ?_) #[true, true, true, false, false, false, false, false, false, false, false, false, false, false, false, false, false, false, false, false, false, false, false, false, false, false, false, false, false, false, false] rfl rfl (any_of HT_.out (by kernel_rfl)) (fun _ _ _ h => h) (Or.inl ⟨by rfl, ?_⟩) ?_ ?_
             rotate_left
             ·intro w'
              go_simp
              with_reducible rfl
             rotate_left
             ·simp only [Act.put, List.setIfInBounds_toArray, List.set_cons_zero, List.set_cons_succ, i64_w, i32_w]
              rfl
             refine pure_ (i := 3) (N := some 108) (v := ?_) (a' := ?_) #[true, true, true, true, false, false, false, false, false, false, false, false, false, false, false, false, false, false, false, false, false, false, false, false, false, false, false, false, false, false, false] rfl rfl (any_of HT_.out (by kernel_rfl)) (fun _ _ _ h => h) (Or.inl ⟨by rfl, ?_⟩) ?_ ?_
             rotate_left
             ·intro w'
              go_simp
              with_reducible rfl
             rotate_left
             ·simp only [Act.put, List.setIfInBounds_toArray, List.set_cons_zero, List.set_cons_succ, i64_w, i32_w]
              rfl
             refine pure_ (i := 4) (N := some 109) (v := ?_) (a' := ?_) #[true, true, true, true, true, false, false, false, false, false, false, false, false, false, false, false, false, false, false, false, false, false, false, false, false, false, false, false, false, false, false] rfl rfl (any_of HT_.out (by kernel_rfl)) (fun _ _ _ h => h) (Or.inl ⟨by rfl, ?_⟩) ?_ ?_
             rotate_left
             ·intro w'
              go_simp
              with_reducible rfl
             rotate_left
             ·simp only [Act.put, List.setIfInBounds_toArray, List.set_cons_zero, List.set_cons_succ, i64_w, i32_w]
              rfl
             refine pure_ (i := 5) (N := some 110) (v := ?_) (a' := ?_) #[true, true, true, true, true, true, false, false, false, false, false, false, false, false, false, false, false, false, false, false, false, false, false, false, false, false, false, false, false, false, false] rfl rfl (any_of HT_.out (by kernel_rfl)) (fun _ _ _ h => h) (Or.inl ⟨by rfl, ?_⟩) ?_ ?_
             rotate_left
             ·intro w'
              go_simp
              with_reducible rfl
             rotate_left
             ·simp only [Act.put, List.setIfInBounds_toArray, List.set_cons_zero, List.set_cons_succ, i64_w, i32_w]
              rfl
             refine pure_ (i := 6) (N := some 111) (v := ?_) (a' := ?_) #[true, true, true, true, true, true, true, false, false, false, false, false, false, false, false, false, false, false, false, false, false, false, false, false, false, false, false, false, false, false, false] rfl rfl (any_of HT_.out (by kernel_rfl)) (fun _ _ _ h => h) (Or.inl ⟨by rfl, ?_⟩) ?_ ?_
             rotate_left
             ·intro w'
              go_simp
              with_reducible rfl
             rotate_left
             ·simp only [Act.put, List.setIfInBounds_toArray, List.set_cons_zero, List.set_cons_succ, i64_w, i32_w]
              rfl
             refine pure_ (i := 7) (N := some 112) (v := ?_) (a' := ?_) #[true, true, true, true, true, true, true, true, false, false, false, false, false, false, false, false, false, false, false, false, false, false, false, false, false, false, false, false, false, false, false] rfl rfl (any_of HT_.out (by kernel_rfl)) (fun _ _ _ h => h) (Or.inl ⟨by rfl, ?_⟩) ?_ ?_
             rotate_left
             ·intro w'
              go_simp
              with_reducible rfl
             rotate_left
             ·simp only [Act.put, List.setIfInBounds_toArray, List.set_cons_zero, List.set_cons_succ, i64_w, i32_w]
              rfl
             refine pure_ (i := 8) (N := some 113) (v := ?_) (a' := ?_) #[true, true, true, true, true, true, true, true, true, false, false, false, false, false, false, false, false, false, false, false, false, false, false, false, false, false, false, false, false, false, false] rfl rfl (any_of HT_.out (by kernel_rfl)) (fun _ _ _ h => h) (Or.inl ⟨by rfl, ?_⟩) ?_ ?_
             rotate_left
             ·intro w'
              go_simp
              with_reducible rfl
             rotate_left
             ·simp only [Act.put, List.setIfInBounds_toArray, List.set_cons_zero, List.set_cons_succ, i64_w, i32_w]
              rfl
             refine pure_ (i := 9) (N := some 114) (v := ?_) (a' := ?_) #[true, true, true, true, true, true, true, true, true, true, false, false, false, false, false, false, false, false, false, false, false, false, false, false, false, false, false, false, false, false, false] rfl rfl (any_of HT_.out (by kernel_rfl)) (fun _ _ _ h => h) (Or.inl ⟨by rfl, ?_⟩) ?_ ?_
             rotate_left
             ·intro w'
              go_simp
              with_reducible rfl
             rotate_left
             ·simp only [Act.put, List.setIfInBounds_toArray, List.set_cons_zero, List.set_cons_succ, i64_w, i32_w]
              rfl
             refine pure_ (i := 10) (N := some 115) (v := ?_) (a' := ?_) #[true, true, true, true, true, true, true, true, true, true, true, false, false, false, false, false, false, false, false, false, false, false, false, false, false, false, false, false, false, false, false] rfl rfl (any_of HT_.out (by kernel_rfl)) (fun _ _ _ h => h) (Or.inl ⟨by rfl, ?_⟩) ?_ ?_
             rotate_left
             ·intro w'
              go_simp
              with_reducible rfl
             rotate_left
             ·simp only [Act.put, List.setIfInBounds_toArray, List.set_cons_zero, List.set_cons_succ, i64_w, i32_w]
              rfl
             refine pure_ (i := 11) (N := some 116) (v := ?_) (a' := ?_) #[true, true, true, true, true, true, true, true, true, true, true, true, false, false, false, false, false, false, false, false, false, false, false, false, false, false, false, false, false, false, false] rfl rfl (any_of HT_.out (by kernel_rfl)) (fun _ _ _ h => h) (Or.inl ⟨by rfl, ?_⟩) ?_ ?_
             rotate_left
             ·intro w'
              go_simp
              with_reducible rfl
             rotate_left
             ·simp only [Act.put, List.setIfInBounds_toArray, List.set_cons_zero, List.set_cons_succ, i64_w, i32_w]
              rfl
             refine pure_ (i := 12) (N := some 117) (v := ?_) (a' := ?_) #[true, true, true, true, true, true, true, true, true, true, true, true, true, false, false, false, false, false, false, false, false, false, false, false, false, false, false, false, false, false, false] rfl rfl (any_of HT_.out (by kernel_rfl)) (fun _ _ _ h => h) (Or.inl ⟨by rfl, ?_⟩) ?_ ?_
             rotate_left
             ·intro w'
              go_simp
              with_reducible rfl
             rotate_left
             ·simp only [Act.put, List.setIfInBounds_toArray, List.set_cons_zero, List.set_cons_succ, i64_w, i32_w]
              rfl
             refine pure_ (i := 13) (N := some 118) (v := ?_) (a' := ?_) #[true, true, true, true, true, true, true, true, true, true, true, true, true, true, false, false, false, false, false, false, false, false, false, false, false, false, false, false, false, false, false] rfl rfl (any_of HT_.out (by kernel_rfl)) (fun _ _ _ h => h) (Or.inl ⟨by rfl, ?_⟩) ?_ ?_
             rotate_left
             ·intro w'
              go_simp
              with_reducible rfl
             rotate_left
             ·simp only [Act.put, List.setIfInBounds_toArray, List.set_cons_zero, List.set_cons_succ, i64_w, i32_w]
              rfl
             refine pure_ (i := 14) (N := some 119) (v := ?_) (a' := ?_) #[true, true, true, true, true, true, true, true, true, true, true, true, true, true, true, false, false, false, false, false, false, false, false, false, false, false, false, false, false, false, false] rfl rfl (any_of HT_.out (by kernel_rfl)) (fun _ _ _ h => h) (Or.inl ⟨by rfl, ?_⟩) ?_ ?_
             rotate_left
             ·intro w'
              go_simp
              with_reducible rfl
             rotate_left
             ·simp only [Act.put, List.setIfInBounds_toArray, List.set_cons_zero, List.set_cons_succ, i64_w, i32_w]
              rfl
             refine pure_ (i := 15) (N := some 120) (v := ?_) (a' := ?_) #[true, true, true, true, true, true, true, true, true, true, true, true, true, true, true, true, false, false, false, false, false, false, false, false, false, false, false, false, false, false, false] rfl rfl (any_of HT_.out (by kernel_rfl)) (fun _ _ _ h => h) (Or.inl ⟨by rfl, ?_⟩) ?_ ?_
             rotate_left
             ·intro w'
              go_simp
              with_reducible rfl
             rotate_left
             ·simp only [Act.put, List.setIfInBounds_toArray, List.set_cons_zero, List.set_cons_succ, i64_w, i32_w]
              rfl
             refine pure_ (i := 20) (N := some 125) (v := ?_) (a' := ?_) #[true, true, true, true, true, true, true, true, true, true, true, true, true, true, true, true, false, false, false, false, true, false, false, false, false, false, false, false, false, false, false] rfl rfl (any_of HT_.out (by kernel_rfl)) (fun _ _ _ h => h) (Or.inl ⟨by rfl, ?_⟩) ?_ ?_
             rotate_left
             ·intro w'
              go_simp
              with_reducible rfl
             rotate_left
             ·simp only [Act.put, List.setIfInBounds_toArray, List.set_cons_zero, List.set_cons_succ, i64_w, i32_w]
              rfl
             refine pure_ (i := 21) (N := some 126) (v := ?_) (a' := ?_) #[true, true, true, true, true, true, true, true, true, true, true, true, true, true, true, true, false, false, false, false, true, true, false, false, false, false, false, false, false, false, false] rfl rfl (any_of HT_.out (by kernel_rfl)) (fun _ _ _ h => h) (Or.inl ⟨by rfl, ?_⟩) ?_ ?_
             rotate_left
             ·intro w'
              go_simp
              with_reducible rfl
             rotate_left
             ·simp only [Act.put, List.setIfInBounds_toArray, List.set_cons_zero, List.set_cons_succ, i64_w, i32_w]
              rfl
             refine pure_ (i := 22) (N := some 127) (v := ?_) (a' := ?_) #[true, true, true, true, true, true, true, true, true, true, true, true, true, true, true, true, false, false, false, false, true, true, true, false, false, false, false, false, false, false, false] rfl rfl (any_of HT_.out (by kernel_rfl)) (fun _ _ _ h => h) (Or.inl ⟨by rfl, ?_⟩) ?_ ?_
             rotate_left
             ·intro w'
              go_simp
              with_reducible rfl
             rotate_left
             ·simp only [Act.put, List.setIfInBounds_toArray, List.set_cons_zero, List.set_cons_succ, i64_w, i32_w]
              rfl
             refine one_ (i := 16) (N := some 121) #[true, true, true, true, true, true, true, true, true, true, true, true, true, true, true, true, true, false, false, false, true, true, true, false, false, false, false, false, false, false, false] rfl rfl (one_of HT_.out (by kernel_rfl)) (by decide) (fun K hK => ?_)
             refine goes_ Tryd.func21 (by kernel_rfl) rfl #[.slice (some ad627) t616.length co53, .int .i64 t594] (by rfl) rfl rfl (by (try simp only [List.map_toArray, List.map_cons, List.map_nil]); first | done | rfl | (simp only [List.length_drop, List.length_take]; rfl)) ?_
             with_reducible refine (laws_lpAt.calls kj5 _ _ t616 t594 t626 _ ?side1 ?side2 A42.out).mono ?_
             (case side1 => repeat (first | exact (Kd.R_reads' HO618.out).2.2 | (with_reducible refine Kd.C_alloc ?_ _) | (with_reducible refine Kd.C_drewN ?_ _) | (with_reducible refine Kd.C_drew ?_)))
             (case side2 => exact (Kd.R_reads' HO618.out).2.1)
             rintro e w' ⟨rfl, ⟨nd, rfl⟩⟩
             refine ⟨_, rfl, ?_⟩
             refine hK.out _ _ ⟨(blk_cell BK610.out 0).trans rfl, (blk_cell BK610.out 1).trans rfl, (blk_cell BK610.out 2).trans rfl, (blk_cell BK610.out 3).trans rfl, (blk_cell BK610.out 4).trans rfl, hHeld.2.2.2.2.2.1, hHeld.2.2.2.2.2.2.1, hHeld.2.2.2.2.2.2.2.1, hHeld.2.2.2.2.2.2.2.2.1, hHeld.2.2.2.2.2.2.2.2.2.1, hHeld.2.2.2.2.2.2.2.2.2.2⟩ (fun hHeld => ?_)
             clear hK K
             refine norm_ (a' := ?_) ?_ ?_
             rotate_left
             ·show Act.put _ (some 121) _ = _
              simp only [Act.put, List.setIfInBounds_toArray, List.set_cons_zero, List.set_cons_succ, i64_w, i32_w]
              rfl
             refine pure_ (i := 17) (N := some 122) (v := ?_) (a' := ?_) #[true, true, true, true, true, true, true, true, true, true, true, true, true, true, true, true, true, true, false, false, true, true, true, false, false, false, false, false, false, false, false] rfl rfl (any_of HT_.out (by kernel_rfl)) (fun _ _ _ h => h) (Or.inl ⟨by rfl, ?_⟩) ?_ ?_
             rotate_left
             ·intro w'
              go_simp
              with_reducible rfl
             rotate_left
             ·simp only [Act.put, List.setIfInBounds_toArray, List.set_cons_zero, List.set_cons_succ, i64_w, i32_w]
              rfl
             refine pure_ (i := 18) (N := some 123) (v := ?_) (a' := ?_) #[true, true, true, true, true, true, true, true, true, true, true, true, true, true, true, true, true, true, true, false, true, true, true, false, false, false, false, false, false, false, false] rfl rfl (any_of HT_.out (by kernel_rfl)) (fun _ _ _ h => h) (Or.inl ⟨by rfl, ?_⟩) ?_ ?_
             rotate_left
             ·intro w'
              go_simp
              with_reducible rfl
             rotate_left
             ·simp only [Act.put, List.setIfInBounds_toArray, List.set_cons_zero, List.set_cons_succ, i64_w, i32_w]
              rfl
             refine take_ (i := 19) (N := some 124) (v := ?_) (a' := ?_) #[true, true, true, true, true, true, true, true, true, true, true, true, true, true, true, true, true, true, true, true, true, true, true, false, false, false, false, false, false, false, false] rfl rfl (take_ofW HT_.out HW_.out (by kernel_rfl)) (fun _ _ _ h => h) (Or.inl ⟨by rfl, ?_⟩) hHeld ?_ ?_
             rotate_left
             ·rintro w' ⟨s0, s1, s2, s3, s4, s5, s6, s7, s8, s9, s10⟩
              go_simp
              with_reducible rfl
             rotate_left
             ·simp only [Act.put, List.setIfInBounds_toArray, List.set_cons_zero, List.set_cons_succ, i64_w, i32_w]
              rfl
             refine one_ (i := 23) (N := some 128) #[true, true, true, true, true, true, true, true, true, true, true, true, true, true, true, true, true, true, true, true, true, true, true, true, false, false, false, false, false, false, false] rfl rfl (one_of HT_.out (by kernel_rfl)) (by decide) (fun K hK => ?_)
             refine goes_ Tryd.func21 (by kernel_rfl) rfl #[.slice (some ad629) t593.length co8, .int .i64 t594] (by rfl) rfl rfl (by (try simp only [List.map_toArray, List.map_cons, List.map_nil]); first | done | rfl | (simp only [List.length_drop, List.length_take]; rfl)) ?_
             with_reducible refine (laws_lpAt.calls kj5 _ _ t593 t594 t628 _ ?side1 ?side2 A45.out).mono ?_
             (case side1 => repeat (first | exact (Kd.Q_reads' HO_3.out).2.2 | (with_reducible refine Kd.C_alloc ?_ _) | (with_reducible refine Kd.C_drewN ?_ _) | (with_reducible refine Kd.C_drew ?_)))
             (case side2 => exact (Kd.Q_reads' HO_3.out).2.1)
             rintro e w' ⟨rfl, ⟨nd, rfl⟩⟩
             refine ⟨_, rfl, ?_⟩
             refine hK.out _ _ ⟨(blk_cell BK610.out 0).trans rfl, (blk_cell BK610.out 1).trans rfl, (blk_cell BK610.out 2).trans rfl, (blk_cell BK610.out 3).trans rfl, (blk_cell BK610.out 4).trans rfl, hHeld.2.2.2.2.2.1, hHeld.2.2.2.2.2.2.1, hHeld.2.2.2.2.2.2.2.1, hHeld.2.2.2.2.2.2.2.2.1, hHeld.2.2.2.2.2.2.2.2.2.1, hHeld.2.2.2.2.2.2.2.2.2.2⟩ (fun hHeld => ?_)
             clear hK K
             refine norm_ (a' := ?_) ?_ ?_
             rotate_left
             ·show Act.put _ (some 128) _ = _
              simp only [Act.put, List.setIfInBounds_toArray, List.set_cons_zero, List.set_cons_succ, i64_w, i32_w]
              rfl
             refine pure_ (i := 24) (N := some 129) (v := ?_) (a' := ?_) #[true, true, true, true, true, true, true, true, true, true, true, true, true, true, true, true, true, true, true, true, true, true, true, true, true, false, false, false, false, false, false] rfl rfl (any_of HT_.out (by kernel_rfl)) (fun _ _ _ h => h) (Or.inl ⟨by rfl, ?_⟩) ?_ ?_
             rotate_left
             ·intro w'
              go_simp
              with_reducible rfl
             rotate_left
             ·simp only [Act.put, List.setIfInBounds_toArray, List.set_cons_zero, List.set_cons_succ, i64_w, i32_w]
              rfl
             refine pure_ (i := 25) (N := some 130) (v := ?_) (a' := ?_) #[true, true, true, true, true, true, true, true, true, true, true, true, true, true, true, true, true, true, true, true, true, true, true, true, true, true, false, false, false, false, false] rfl rfl (any_of HT_.out (by kernel_rfl)) (fun _ _ _ h => h) (Or.inl ⟨by rfl, ?_⟩) ?_ ?_
             rotate_left
             ·intro w'
              go_simp
              with_reducible rfl
             rotate_left
             ·simp only [Act.put, List.setIfInBounds_toArray, List.set_cons_zero, List.set_cons_succ, i64_w, i32_w]
              rfl
             refine take_ (i := 26) (N := some 131) (v := ?_) (a' := ?_) #[true, true, true, true, true, true, true, true, true, true, true, true, true, true, true, true, true, true, true, true, true, true, true, true, true, true, true, false, false, false, false] rfl rfl (take_ofW HT_.out HW_.out (by kernel_rfl)) (fun _ _ _ h => h) (Or.inl ⟨by rfl, ?_⟩) hHeld ?_ ?_
             rotate_left
             ·rintro w' ⟨s0, s1, s2, s3, s4, s5, s6, s7, s8, s9, s10⟩
              go_simp
              with_reducible rfl
             rotate_left
             ·simp only [Act.put, List.setIfInBounds_toArray, List.set_cons_zero, List.set_cons_succ, i64_w, i32_w]
              rfl
             refine pure_ (i := 27) (N := some 132) (v := ?_) (a' := ?_) #[true, true, true, true, true, true, true, true, true, true, true, true, true, true, true, true, true, true, true, true, true, true, true, true, true, true, true, true, false, false, false] rfl rfl (any_of HT_.out (by kernel_rfl)) (fun _ _ _ h => h) (Or.inl ⟨by rfl, ?_⟩) ?_ ?_
             rotate_left
             ·intro w'
              go_simp
              with_reducible rfl
             rotate_left
             ·simp only [Act.put, List.setIfInBounds_toArray, List.set_cons_zero, List.set_cons_succ, i64_w, i32_w]
              rfl
             refine pure_ (i := 28) (N := some 133) (v := ?_) (a' := ?_) #[true, true, true, true, true, true, true, true, true, true, true, true, true, true, true, true, true, true, true, true, true, true, true, true, true, true, true, true, true, false, false] rfl rfl (any_of HT_.out (by kernel_rfl)) (fun _ _ _ h => h) (Or.inl ⟨by rfl, ?_⟩) ?_ ?_
             rotate_left
             ·intro w'
              go_simp
              with_reducible rfl
             rotate_left
             ·simp only [Act.put, List.setIfInBounds_toArray, List.set_cons_zero, List.set_cons_succ, i64_w, i32_w]
              rfl
             refine pure_ (i := 29) (N := some 134) (v := ?_) (a' := ?_) #[true, true, true, true, true, true, true, true, true, true, true, true, true, true, true, true, true, true, true, true, true, true, true, true, true, true, true, true, true, true, false] rfl rfl (any_of HT_.out (by kernel_rfl)) (fun _ _ _ h => h) (Or.inl ⟨by rfl, ?_⟩) ?_ ?_
             rotate_left
             ·intro w'
              go_simp
              with_reducible rfl
             rotate_left
             ·simp only [Act.put, List.setIfInBounds_toArray, List.set_cons_zero, List.set_cons_succ, i64_w, i32_w]
              rfl
             refine pure_ (i := 30) (N := some 2) (v := ?_) (a' := ?_) #[true, true, true, true, true, true, true, true, true, true, true, true, true, true, true, true, true, true, true, true, true, true, true, true, true, true, true, true, true, true, true] rfl rfl (any_of HT_.out (by kernel_rfl)) (fun _ _ _ h => h) (Or.inl ⟨by rfl, ?_⟩) ?_ ?_
             rotate_left
             ·intro w'
              go_simp
              with_reducible rfl
             rotate_left
             ·simp only [Act.put, List.setIfInBounds_toArray, List.set_cons_zero, List.set_cons_succ, i64_w, i32_w]
              rfl
             refine done_ (done_of HT_.out (by kernel_rfl)) ?_
             try go_wp2
             go_ret
             exact ⟨by first | rfl | (simp [errW_none, errW_some] <;> rfl) | (simp [*, errW_none, errW_some] <;> rfl), by repeat (first | (with_reducible first | exact HB.out | apply below_alloc | apply pw_below_drewN | apply below_drew1 | refine below_set ?_ GE603.out | refine below_set ?_ GE610.out) | exact HB.out)⟩
            ·rw [if_neg c47] at H
             exact absurd H (by simp)
           ·rw [if_neg c46] at H
            exact absurd H (by simp)
          ·rw [if_neg c44] at H
           exact absurd H (by simp)
         ·rw [if_neg c43] at H
          exact absurd H (by simp)
        ·rw [if_neg c41] at H
         have c41b0 : (t623 == t612) = false := beq_eq_false_iff_ne.mpr c41
         have c41b1 : (t623 != t612) = true := bne_iff_ne.mpr c41
         exact absurd H (by simp)
       ·rw [if_neg c40] at H
        have c40b0 : (t621 == t619) = false := beq_eq_false_iff_ne.mpr c40
        have c40b1 : (t621 != t619) = true := bne_iff_ne.mpr c40
        exact absurd H (by simp)
      ·replace c39 := Bool.eq_false_iff.mpr c39
       subst c39
       have H1 : (none) = some r := by rw [if_neg (show ¬ (false = true) by decide)] at H; exact H
       clear H
       have H := H1
       clear H1
       exact absurd H (by simp)
     ·replace c33 := Bool.eq_false_iff.mpr c33
      subst c33
      have H1 : (if t613 = true then (if t612 = 0 then (some true) else (some (t614 == 0))) else (some true)) = some r := by rw [if_neg (show ¬ (false = true) by decide)] at H; exact H
      clear H
      have H := H1
      clear H1
      by_cases c58 : t613 = true
      ·subst c58
       have H1 : (if t612 = 0 then (some true) else (some (t614 == 0))) = some r := by rw [if_pos rfl] at H; exact H
       clear H
       have H := H1
       clear H1
       by_cases c59 : t612 = 0
       ·rw [if_pos c59] at H
        have c59b0 : (t612 == 0) = true := beq_iff_eq.mpr c59
        have c59b1 : (t612 != 0) = false := bne_eq_false_iff_eq.mpr c59
        clear c59
        obtain rfl := Option.some.inj H
        go_wp2_with (first | ((with_reducible refine gate_callee (f := 34) rfl ?_); refine goesL_ (some 64) rfl rfl Tryd.func34 (by kernel_rfl) rfl #[.slice Ao8 t593.length co8, .int .i64 t594] rfl (by (try simp only [List.map_toArray, List.map_cons, List.map_nil]); first | done | rfl | (simp only [List.length_drop, List.length_take]; rfl)) ?_; (with_reducible refine (impl_TreeUp.calls kj5 _ _ t593 t594 t612 true _ ?side1 ?side2 A31.out ?side3).mono ?_); (case side1 => repeat (first | exact (Kd.Q_reads' HO_3.out).2.2 | (with_reducible refine Kd.C_alloc ?_ _) | (with_reducible refine Kd.C_drewN ?_ _) | (with_reducible refine Kd.C_drew ?_))); (case side2 => exact (Kd.Q_reads' HO_3.out).2.1); (case side3 => exact Glob.below HG.out (by repeat (first | (with_reducible first | exact HB.out | apply below_alloc | apply pw_below_drewN | apply below_drew1 | refine below_set ?_ GE603.out | refine below_set ?_ GE610.out) | exact HB.out))); rintro e w60 ⟨rfl, hb⟩; refine ⟨_, rfl, ?_⟩; have n0_ := Aside0.mk (Kd.Q_below (by (with_reducible repeat (first | apply Kd.Q_alloc | apply Kd.Q_drewN | apply Kd.Q_drew)); exact HO_3.out) hb); have n1_ := Aside0.mk (blk_below (g := gb603) (o := .cells #[.int .i64 t597, .int .i64 t598, .int .i64 t599, .int .i64 t600, .string t601] 27 (0, 0)) (by (with_reducible repeat (first | refine blk_drewN ?_ _ | refine blk_drew ?_ | refine blk_alloc ?_ _)); exact BK603.out) hb); have n2_ := Aside0.mk (blk_below (g := gb610) (o := .cells #[.int .i64 t604, .int .i64 t605, .int .i64 t606, .int .i64 t607, .string t608] 27 (0, 0)) (by (with_reducible repeat (first | refine blk_drewN ?_ _ | refine blk_drew ?_ | refine blk_alloc ?_ _)); exact BK610.out) hb); have n3_ := Aside0.mk (below_step (by repeat (first | (with_reducible first | exact HB.out | apply below_alloc | apply pw_below_drewN | apply below_drew1 | refine below_set ?_ GE603.out | refine below_set ?_ GE610.out) | exact HB.out)) hb); clear HO_3; clear BK603; clear BK610; clear HB; have HO_3 := n0_; have BK603 := n1_; have BK610 := n2_; have HB := n3_; clear n0_ n1_ n2_ n3_; (try clear hb); (try clear hb2); (try clear hk); (try clear hi)) | ((with_reducible refine gate_callee (f := 20) rfl ?_); refine goesL_ (some 69) rfl rfl Tryd.func20 (by kernel_rfl) rfl #[.int .i64 t612] rfl (by (try simp only [List.map_toArray, List.map_cons, List.map_nil]); first | done | rfl | (simp only [List.length_drop, List.length_take]; rfl)) ?_; (with_reducible refine (impl_RowWho.calls t612 t614 t615 _ A32.out ?side1).mono ?_); (case side1 => exact Glob.below HG.out (by repeat (first | (with_reducible first | exact HB.out | apply below_alloc | apply pw_below_drewN | apply below_drew1 | refine below_set ?_ GE603.out | refine below_set ?_ GE610.out) | exact HB.out))); rintro e w' ⟨rfl, ⟨nd, rfl⟩⟩; refine ⟨_, rfl, ?_⟩))
        go_ret
        exact ⟨by first | rfl | (simp [errW_none, errW_some] <;> rfl) | (simp [*, errW_none, errW_some] <;> rfl), by repeat (first | (with_reducible first | exact HB.out | apply below_alloc | apply pw_below_drewN | apply below_drew1 | refine below_set ?_ GE603.out | refine below_set ?_ GE610.out) | exact HB.out)⟩
       ·rw [if_neg c59] at H
        have c59b0 : (t612 == 0) = false := beq_eq_false_iff_ne.mpr c59
        have c59b1 : (t612 != 0) = true := bne_iff_ne.mpr c59
        obtain rfl := Option.some.inj H
        go_wp2_with (first | ((with_reducible refine gate_callee (f := 34) rfl ?_); refine goesL_ (some 64) rfl rfl Tryd.func34 (by kernel_rfl) rfl #[.slice Ao8 t593.length co8, .int .i64 t594] rfl (by (try simp only [List.map_toArray, List.map_cons, List.map_nil]); first | done | rfl | (simp only [List.length_drop, List.length_take]; rfl)) ?_; (with_reducible refine (impl_TreeUp.calls kj5 _ _ t593 t594 t612 true _ ?side1 ?side2 A31.out ?side3).mono ?_); (case side1 => repeat (first | exact (Kd.Q_reads' HO_3.out).2.2 | (with_reducible refine Kd.C_alloc ?_ _) | (with_reducible refine Kd.C_drewN ?_ _) | (with_reducible refine Kd.C_drew ?_))); (case side2 => exact (Kd.Q_reads' HO_3.out).2.1); (case side3 => exact Glob.below HG.out (by repeat (first | (with_reducible first | exact HB.out | apply below_alloc | apply pw_below_drewN | apply below_drew1 | refine below_set ?_ GE603.out | refine below_set ?_ GE610.out) | exact HB.out))); rintro e w61 ⟨rfl, hb⟩; refine ⟨_, rfl, ?_⟩; have n0_ := Aside0.mk (Kd.Q_below (by (with_reducible repeat (first | apply Kd.Q_alloc | apply Kd.Q_drewN | apply Kd.Q_drew)); exact HO_3.out) hb); have n1_ := Aside0.mk (blk_below (g := gb603) (o := .cells #[.int .i64 t597, .int .i64 t598, .int .i64 t599, .int .i64 t600, .string t601] 27 (0, 0)) (by (with_reducible repeat (first | refine blk_drewN ?_ _ | refine blk_drew ?_ | refine blk_alloc ?_ _)); exact BK603.out) hb); have n2_ := Aside0.mk (blk_below (g := gb610) (o := .cells #[.int .i64 t604, .int .i64 t605, .int .i64 t606, .int .i64 t607, .string t608] 27 (0, 0)) (by (with_reducible repeat (first | refine blk_drewN ?_ _ | refine blk_drew ?_ | refine blk_alloc ?_ _)); exact BK610.out) hb); have n3_ := Aside0.mk (below_step (by repeat (first | (with_reducible first | exact HB.out | apply below_alloc | apply pw_below_drewN | apply below_drew1 | refine below_set ?_ GE603.out | refine below_set ?_ GE610.out) | exact HB.out)) hb); clear HO_3; clear BK603; clear BK610; clear HB; have HO_3 := n0_; have BK603 := n1_; have BK610 := n2_; have HB := n3_; clear n0_ n1_ n2_ n3_; (try clear hb); (try clear hb2); (try clear hk); (try clear hi)) | ((with_reducible refine gate_callee (f := 20) rfl ?_); refine goesL_ (some 69) rfl rfl Tryd.func20 (by kernel_rfl) rfl #[.int .i64 t612] rfl (by (try simp only [List.map_toArray, List.map_cons, List.map_nil]); first | done | rfl | (simp only [List.length_drop, List.length_take]; rfl)) ?_; (with_reducible refine (impl_RowWho.calls t612 t614 t615 _ A32.out ?side1).mono ?_); (case side1 => exact Glob.below HG.out (by repeat (first | (with_reducible first | exact HB.out | apply below_alloc | apply pw_below_drewN | apply below_drew1 | refine below_set ?_ GE603.out | refine below_set ?_ GE610.out) | exact HB.out))); rintro e w' ⟨rfl, ⟨nd, rfl⟩⟩; refine ⟨_, rfl, ?_⟩))
        go_ret
        exact ⟨by first | rfl | (simp [errW_none, errW_some] <;> rfl) | (simp [*, errW_none, errW_some] <;> rfl), by repeat (first | (with_reducible first | exact HB.out | apply below_alloc | apply pw_below_drewN | apply below_drew1 | refine below_set ?_ GE603.out | refine below_set ?_ GE610.out) | exact HB.out)⟩
      ·replace c58 := Bool.eq_false_iff.mpr c58
       subst c58
       have H1 : (some true) = some r := by rw [if_neg (show ¬ (false = true) by decide)] at H; exact H
       clear H
       have H := H1
       clear H1
       obtain rfl := Option.some.inj H
       go_wp2_with (first | ((with_reducible refine gate_callee (f := 34) rfl ?_); refine goesL_ (some 64) rfl rfl Tryd.func34 (by kernel_rfl) rfl #[.slice Ao8 t593.length co8, .int .i64 t594] rfl (by (try simp only [List.map_toArray, List.map_cons, List.map_nil]); first | done | rfl | (simp only [List.length_drop, List.length_take]; rfl)) ?_; (with_reducible refine (impl_TreeUp.calls kj5 _ _ t593 t594 t612 false _ ?side1 ?side2 A31.out ?side3).mono ?_); (case side1 => repeat (first | exact (Kd.Q_reads' HO_3.out).2.2 | (with_reducible refine Kd.C_alloc ?_ _) | (with_reducible refine Kd.C_drewN ?_ _) | (with_reducible refine Kd.C_drew ?_))); (case side2 => exact (Kd.Q_reads' HO_3.out).2.1); (case side3 => exact Glob.below HG.out (by repeat (first | (with_reducible first | exact HB.out | apply below_alloc | apply pw_below_drewN | apply below_drew1 | refine below_set ?_ GE603.out | refine below_set ?_ GE610.out) | exact HB.out))); rintro e w62 ⟨rfl, hb⟩; refine ⟨_, rfl, ?_⟩; have n0_ := Aside0.mk (Kd.Q_below (by (with_reducible repeat (first | apply Kd.Q_alloc | apply Kd.Q_drewN | apply Kd.Q_drew)); exact HO_3.out) hb); have n1_ := Aside0.mk (blk_below (g := gb603) (o := .cells #[.int .i64 t597, .int .i64 t598, .int .i64 t599, .int .i64 t600, .string t601] 27 (0, 0)) (by (with_reducible repeat (first | refine blk_drewN ?_ _ | refine blk_drew ?_ | refine blk_alloc ?_ _)); exact BK603.out) hb); have n2_ := Aside0.mk (blk_below (g := gb610) (o := .cells #[.int .i64 t604, .int .i64 t605, .int .i64 t606, .int .i64 t607, .string t608] 27 (0, 0)) (by (with_reducible repeat (first | refine blk_drewN ?_ _ | refine blk_drew ?_ | refine blk_alloc ?_ _)); exact BK610.out) hb); have n3_ := Aside0.mk (below_step (by repeat (first | (with_reducible first | exact HB.out | apply below_alloc | apply pw_below_drewN | apply below_drew1 | refine below_set ?_ GE603.out | refine below_set ?_ GE610.out) | exact HB.out)) hb); clear HO_3; clear BK603; clear BK610; clear HB; have HO_3 := n0_; have BK603 := n1_; have BK610 := n2_; have HB := n3_; clear n0_ n1_ n2_ n3_; (try clear hb); (try clear hb2); (try clear hk); (try clear hi)) | ((with_reducible refine gate_callee (f := 20) rfl ?_); refine goesL_ (some 69) rfl rfl Tryd.func20 (by kernel_rfl) rfl #[.int .i64 t612] rfl (by (try simp only [List.map_toArray, List.map_cons, List.map_nil]); first | done | rfl | (simp only [List.length_drop, List.length_take]; rfl)) ?_; (with_reducible refine (impl_RowWho.calls t612 t614 t615 _ A32.out ?side1).mono ?_); (case side1 => exact Glob.below HG.out (by repeat (first | (with_reducible first | exact HB.out | apply below_alloc | apply pw_below_drewN | apply below_drew1 | refine below_set ?_ GE603.out | refine below_set ?_ GE610.out) | exact HB.out))); rintro e w' ⟨rfl, ⟨nd, rfl⟩⟩; refine ⟨_, rfl, ?_⟩))
       go_ret
       exact ⟨by first | rfl | (simp [errW_none, errW_some] <;> rfl) | (simp [*, errW_none, errW_some] <;> rfl), by repeat (first | (with_reducible first | exact HB.out | apply below_alloc | apply pw_below_drewN | apply below_drew1 | refine below_set ?_ GE603.out | refine below_set ?_ GE610.out) | exact HB.out)⟩

def laws_FnKeyOut.Pure : Prop := ∀ (l0 : List Int), l0.length ≤ maxLen → l0.length * 1 ≤ 140737488351232 → (∀ x ∈ l0, (Lit.int .u8 x).wf = true) → ∃ k, laws_FnKeyOut.f k l0 = some true
theorem laws_FnKeyOut.walk (P : laws_FnKeyOut.Pure) (a0 : Option Addr) (len0 cap0 : Nat) (z0 : List Int) (w : World) (w0 : (a0 = none ∧ len0 = 0 ∧ cap0 = 0 ∧ z0 = []) ∨ ∃ x, a0 = some x ∧ len0 ≤ cap0 ∧ cap0 ≤ maxLen ∧ z0.length = cap0 ∧ (∀ i, i < z0.length → w.cell? (x.add i) = some (.int .u8 (z0.getD i 0))) ∧ ∀ n ∈ z0, (Lit.int .u8 n).wf = true) (y0 : len0 * 1 ≤ 140737488351232) (hG : Glob w) :
  Calls Tryd.prog 7 #[.slice a0 len0 cap0] w fun e w' => e = .returned (.bool true) ∧ Below w.heap.size w w' := by
 obtain ⟨l0, rfl, hr0, hm0, hw0, hc0⟩ := ReadsInt.ofRowC w0
 obtain ⟨k, h⟩ := P l0 hm0 y0 hw0
 refine (laws_FnKeyOut.calls k _ _ l0 true w (Kd.C_of_reads (d := (0 : Int)) (h1 := fun _ => rfl) hr0) hc0 h hG).mono ?_
 rintro e w' ⟨rfl, hd⟩
 exact ⟨rfl, hd⟩

end Go.Proofs.YtlkheeegkifblaaDoor.P
