/- Joined by a program (wip/shake.py): the declarations that 'YtlkheeegkifblaaDoorCardFnWhereText' reaches. -/
import Derived.Test.YtlkheeegkifblaaDoorZFb3
set_option linter.unusedVariables false
set_option linter.unusedSimpArgs false
set_option linter.unusedSectionVars false
namespace Go.Proofs.YtlkheeegkifblaaDoor.P
open Go.RowKit Go.Shelf Go.Proofs.YtlkheeegkifblaaDoorW.PrintWords Go.Proofs.YtlkheeegkifblaaDoorW.PrintLast Go.Proofs.YtlkheeegkifblaaDoorW.PrintMore Go.Proofs.YtlkheeegkifblaaDoor.FP
theorem ahead_any {w : World} {n0 Fb : Nat} {A : Nat → Option Nat} {h : Nat → Nd} (m : Mem w n0 Fb A h)
  {i u b bu : Nat} (hi : A i = some b) (hu : A u = some bu) (hup : (h i).up = u) (xs : List Nat) (hxs : ∀ x ∈ xs, A x ≠ none) (hL : NList A w.heap.size w (pa (A (h u).first)) xs) :
  Calls Tryd.prog 76 #[.pointer (some ⟨b, 0, none⟩)] w fun e W' => e = .returned (.pointer (pa (A (pv i 0 xs)))) ∧ Below w.heap.size w W' :=
 (callsIn_wide (n := 3)).1 (ahead_in _ 3 trivial trivial trivial rfl (by omega) m hi hu hup xs hxs hL)
set_option maxRecDepth 100000 in
set_option maxHeartbeats 2000000 in
theorem detach_any {w : World} {n0 Fb : Nat} {A : Nat → Option Nat} {h : Nat → Nd} (m : Mem w n0 Fb A h)
  {i u b bu : Nat} (hi : A i = some b) (hu : A u = some bu) (hup : (h i).up = u) (hui : u ≠ i) (xs : List Nat) (hxs : ∀ x ∈ xs, A x ≠ none) (hL : NList A w.heap.size w (pa (A (h u).first)) xs) (hpv : pv i 0 xs ≠ 0 → A (pv i 0 xs) ≠ none ∧ pv i 0 xs ≠ i) :
  Calls Tryd.prog 99 #[.pointer (some ⟨b, 0, none⟩)] w fun e W' => (∃ v, e = .returned v) ∧ Mem W' n0 Fb A (detachH h i (pv i 0 xs)) ∧ Below n0 w W' := by
 have HA := Aside0.mk (ahead_any m hi hu hup xs hxs hL)
 generalize pv i 0 xs = a at HA hpv ⊢
 have HM := Aside0.mk m
 have HI := Aside0.mk hi
 have HU := Aside0.mk hu
 have HP := Aside0.mk hup
 have hne : bu ≠ b := fun e => hui (m.inj u i bu hu (e ▸ hi))
 have hne0 := Aside0.mk hui
 have HS := Aside0.mk (show n0 ≤ w.heap.size from Nat.le_of_lt (Nat.lt_of_le_of_lt (m.lo i b hi) (m.lt hi)))
 have L1 := Aside0.mk (m.lo i b hi)
 have L2 := Aside0.mk (m.lo u bu hu)
 by_cases ha : a = 0
 ·subst ha
  rw [m.z, pa_none] at HA
  have hne' : b ≠ bu := fun e => hne e.symm
  clear hL hpv m hi hu hup hui hxs
  go_enter Tryd.func99, Tryd.ntmps99
  go_wp2_with (go_at_call 76; refine (HA.out).mono ?_; clear HA; rintro e W1 ⟨rfl, hb1⟩; have HB1 := Aside0.mk hb1; have M1 := Aside0.mk (HM.out.below hb1); clear hb1)
  have c2 := M1.out.c2 HI.out
  rw [HP.out, HU.out, pa_some] at c2
  have c4 := M1.out.c4 HI.out
  have z2 := M1.out.fz HI.out 2
  have z4 := M1.out.fz HI.out 4
  have z3 := M1.out.fz HU.out 3
  have c3 := M1.out.c3 HU.out
  go_region
  all_goals go_wp2
  go_end0
  have z := M1.out.z
  have M4 := ((M1.out.setF HU.out (h i).next (M1.out.cn i (by rw [HI.out]; simp))).setU HI.out 0 (Or.inl rfl)).setN HI.out 0 (Or.inl rfl)
  rw [z, pa_none] at M4
  refine ⟨⟨_, rfl⟩, M4.drew.ext fun j => ?_, ?_⟩
  ·unfold upN detachH
   rw [HP.out]
   by_cases e1 : j = i
   ·subst e1; have e' : ¬ (j = u) := fun e => hne0.out e.symm
    simp [e']
   ·by_cases e2 : j = u
    ·subst e2; simp [e1]
    ·simp [e1, e2]
  ·exact ((((HB1.out.mono HS.out).setCell (p := ⟨bu, 3, none⟩) L2.out _).setCell (p := ⟨b, 2, none⟩) L1.out _).setCell (p := ⟨b, 4, none⟩) L1.out _).drew
 ·obtain ⟨hA1, hai⟩ := hpv ha
  obtain ⟨ba, hba⟩ := Option.ne_none_iff_exists'.1 hA1
  rw [hba, pa_some] at HA
  have HBA := Aside0.mk hba
  have hab : ba ≠ b := fun e => hai (m.inj a i ba hba (e ▸ hi))
  have hab' : b ≠ ba := fun e => hab e.symm
  have L3 := Aside0.mk (m.lo a ba hba)
  have ha0 := Aside0.mk ha
  have hai0 := Aside0.mk hai
  clear hL m hi hu hup hui hxs hba hA1 ha hai hne
  go_enter Tryd.func99, Tryd.ntmps99
  go_wp2_with (go_at_call 76; refine (HA.out).mono ?_; clear HA; rintro e W1 ⟨rfl, hb1⟩; have HB1 := Aside0.mk hb1; have M1 := Aside0.mk (HM.out.below hb1); clear hb1; have c4 := M1.out.c4 HI.out; have c2 := M1.out.c2 HI.out; have z2 := M1.out.fz HI.out 2; have z4 := M1.out.fz HI.out 4; have z3 := M1.out.fz HBA.out 4; have c3 := M1.out.c4 HBA.out)
  go_end0
  have z := M1.out.z
  have M4 := ((M1.out.setN HBA.out (h i).next (M1.out.cn i (by rw [HI.out]; simp))).setU HI.out 0 (Or.inl rfl)).setN HI.out 0 (Or.inl rfl)
  rw [z, pa_none] at M4
  refine ⟨⟨_, rfl⟩, M4.ext fun j => ?_, ?_⟩
  ·unfold upN detachH
   have ha := ha0.out
   have hai := hai0.out
   by_cases e1 : j = i
   ·subst e1; have e' : ¬ (j = a) := fun e => hai e.symm
    simp [e']
   ·by_cases e2 : j = a
    ·subst e2; simp [e1, ha]
    ·simp [e1, e2, ha]
  ·exact (((HB1.out.mono HS.out).setCell (p := ⟨ba, 4, none⟩) L3.out _).setCell (p := ⟨b, 2, none⟩) L1.out _).setCell (p := ⟨b, 4, none⟩) L1.out _
end Go.Proofs.YtlkheeegkifblaaDoor.P
namespace Go.Proofs.YtlkheeegkifblaaDoor.FP
open Go.Proofs.YtlkheeegkifblaaDoor.P
theorem sub_ids (u : Nat) : ∀ {F : Fo} {y : Nat}, y ∈ (sub u F).ids → y ∈ F.ids
 | .nil, y, h => by simp [sub, Fo.ids] at h
 | .nd j t k n, y, h => by
  unfold sub at h
  split at h
  ·simp [Fo.ids, h]
  ·split at h
   ·simp [Fo.ids, sub_ids u h]
   ·simp [Fo.ids, sub_ids u h]
theorem sub_nodup (u : Nat) : ∀ {F : Fo}, F.ids.Nodup → (sub u F).ids.Nodup
 | .nil, _ => by simp [sub, Fo.ids]
 | .nd j t k n, hn => by
  obtain ⟨n1, n2, n3, n4, n5⟩ := nodup_nd hn
  unfold sub
  split
  ·exact n3
  ·split
   ·exact sub_nodup u n3
   ·exact sub_nodup u n4
theorem sub_self (u : Nat) : ∀ {F : Fo}, F.ids.Nodup → u ∉ (sub u F).ids
 | .nil, _ => by simp [sub, Fo.ids]
 | .nd j t k n, hn => by
  obtain ⟨n1, n2, n3, n4, n5⟩ := nodup_nd hn
  unfold sub
  split
  ·rename_i h; exact h ▸ n1
  ·split
   ·exact sub_self u n3
   ·exact sub_self u n4
theorem rep_sub {h : Nat → Nd} {u : Nat} : ∀ {F : Fo} {up : Nat}, Rep h up F → F.ids.Nodup → u ∈ F.ids → Rep h u (sub u F) ∧ (h u).first = (sub u F).hd
 | .nil, _, _, _, hx => by simp [Fo.ids] at hx
 | .nd j t k n, up, ⟨h1, h2, h3, h4⟩, hn, hx => by
  obtain ⟨n1, n2, n3, n4, n5⟩ := nodup_nd hn
  simp only [Fo.ids, List.mem_cons, List.mem_append] at hx
  unfold sub
  by_cases e : j = u
  ·subst e; rw [if_pos rfl]; exact ⟨h3, by rw [h2]⟩
  ·rw [if_neg e]
   by_cases hk : u ∈ k.ids
   ·rw [if_pos hk]; exact rep_sub h3 n3 hk
   ·rw [if_neg hk]; exact rep_sub h4 n4 (by rcases hx with g | g | g; exact absurd g.symm e; exact absurd g hk; exact g)
theorem reptop_sub {h : Nat → Nd} {u : Nat} : ∀ {F : Fo}, RepTop h F → F.ids.Nodup → u ∈ F.ids → Rep h u (sub u F) ∧ (h u).first = (sub u F).hd
 | .nil, _, _, hx => by simp [Fo.ids] at hx
 | .nd j t k n, ⟨h1, h2, h3, h4⟩, hn, hx => by
  obtain ⟨n1, n2, n3, n4, n5⟩ := nodup_nd hn
  simp only [Fo.ids, List.mem_cons, List.mem_append] at hx
  unfold sub
  by_cases e : j = u
  ·subst e; rw [if_pos rfl]; exact ⟨h3, by rw [h2]⟩
  ·rw [if_neg e]
   by_cases hk : u ∈ k.ids
   ·rw [if_pos hk]; exact rep_sub h3 n3 hk
   ·rw [if_neg hk]; exact reptop_sub h4 n4 (by rcases hx with g | g | g; exact absurd g.symm e; exact absurd g hk; exact g)
theorem rep_at {h : Nat → Nd} {x : Nat} : ∀ {F : Fo} {up : Nat}, Rep h up F → F.ids.Nodup → x ∈ F.ids → (x ∈ F.tops ∧ (h x).up = up) ∨ (x ∉ F.tops ∧ (h x).up ∈ F.ids)
 | .nil, _, _, _, hx => by simp [Fo.ids] at hx
 | .nd j u k n, up, ⟨h1, h2, h3, h4⟩, hn, hx => by
  obtain ⟨n1, n2, n3, n4, n5⟩ := nodup_nd hn
  simp only [Fo.ids, Fo.tops, List.mem_cons, List.mem_append, not_or] at hx ⊢
  rcases hx with rfl | hx | hx
  ·left; exact ⟨Or.inl rfl, by rw [h2]⟩
  ·right
   refine ⟨⟨fun e => n1 (e ▸ hx), fun e => n5 x hx (tops_ids e)⟩, ?_⟩
   rcases rep_at h3 n3 hx with ⟨_, e⟩ | ⟨_, e⟩
   ·exact Or.inl e
   ·exact Or.inr (Or.inl e)
  ·rcases rep_at h4 n4 hx with ⟨e1, e2⟩ | ⟨e1, e2⟩
   ·exact Or.inl ⟨Or.inr e1, e2⟩
   ·exact Or.inr ⟨⟨fun e => n2 (e ▸ hx), e1⟩, Or.inr (Or.inr e2)⟩
theorem sib_pv {h : Nat → Nd} {x : Nat} : ∀ {F : Fo} {up : Nat} (p : Nat), Rep h up F → F.ids.Nodup → x ∈ F.ids → sib x p F = if x ∈ F.tops then pv x p F.tops else pv x 0 (sub (h x).up F).tops
 | .nil, _, _, _, _, hx => by simp [Fo.ids] at hx
 | .nd j u k n, up, p, ⟨h1, h2, h3, h4⟩, hn, hx => by
  obtain ⟨n1, n2, n3, n4, n5⟩ := nodup_nd hn
  unfold sib
  by_cases e : j = x
  ·subst e
   rw [if_pos rfl, if_pos (by simp [Fo.tops])]
   show p = pv j p (j :: n.tops)
   unfold pv
   rw [if_pos rfl]
  ·rw [if_neg e]
   have e' : x ≠ j := fun g => e g.symm
   by_cases hk : x ∈ k.ids
   ·have hxn : x ∉ n.ids := n5 x hk
    rw [if_pos hk, if_neg (by simp only [Fo.tops, List.mem_cons, not_or]; exact ⟨e', fun g => hxn (tops_ids g)⟩), sib_pv 0 h3 n3 hk]
    rcases rep_at h3 n3 hk with ⟨g1, g2⟩ | ⟨g1, g2⟩
    ·rw [if_pos g1, g2]
     unfold sub
     rw [if_pos rfl]
    ·rw [if_neg g1]
     rw [show sub (h x).up (Fo.nd j u k n) = sub (h x).up k by
      rw [sub, if_neg (fun (g : j = (h x).up) => n1 (by rw [g]; exact g2)), if_pos g2]]
   ·have hxn : x ∈ n.ids := by
     simp only [Fo.ids, List.mem_cons, List.mem_append] at hx
     rcases hx with g | g | g
     ·exact absurd g e'
     ·exact absurd g hk
     ·exact g
    rw [if_neg hk, sib_pv j h4 n4 hxn]
    rcases rep_at h4 n4 hxn with ⟨g1, g2⟩ | ⟨g1, g2⟩
    ·rw [if_pos g1, if_pos (by simp [Fo.tops, g1])]
     show pv x j n.tops = pv x p (j :: n.tops)
     rw [pv, if_neg e]
    ·rw [if_neg g1, if_neg (by simp only [Fo.tops, List.mem_cons, not_or]; exact ⟨e', g1⟩)]
     rw [show sub (h x).up (Fo.nd j u k n) = sub (h x).up n by
      rw [sub, if_neg (fun (g : j = (h x).up) => n2 (by rw [g]; exact g2)), if_neg (fun g => n5 _ g g2)]]
theorem sibT_pv {h : Nat → Nd} {x : Nat} : ∀ {F : Fo}, RepTop h F → F.ids.Nodup → x ∈ F.ids → x ∉ F.tops → sibT x F = pv x 0 (sub (h x).up F).tops ∧ x ∈ (sub (h x).up F).tops
 | .nil, _, _, hx, _ => by simp [Fo.ids] at hx
 | .nd j u k n, ⟨h1, h2, h3, h4⟩, hn, hx, ht => by
  obtain ⟨n1, n2, n3, n4, n5⟩ := nodup_nd hn
  simp only [Fo.ids, Fo.tops, List.mem_cons, List.mem_append, not_or] at hx ht
  unfold sibT
  by_cases hk : x ∈ k.ids
  ·rw [if_pos hk, sib_pv 0 h3 n3 hk]
   rcases rep_at h3 n3 hk with ⟨g1, g2⟩ | ⟨g1, g2⟩
   ·rw [if_pos g1, g2]
    unfold sub
    rw [if_pos rfl]
    exact ⟨rfl, g1⟩
   ·rw [if_neg g1]
    rw [show sub (h x).up (Fo.nd j u k n) = sub (h x).up k by rw [sub, if_neg (fun (g : j = (h x).up) => n1 (by rw [g]; exact g2)), if_pos g2]]
    exact ⟨rfl, in_sub h3 n3 hk g1⟩
  ·have hxn : x ∈ n.ids := by rcases hx with g | g | g; exact absurd g ht.1; exact absurd g hk; exact g
   rw [if_neg hk]
   obtain ⟨a1, a2⟩ := sibT_pv h4 n4 hxn ht.2
   obtain ⟨a3, _⟩ := reptop_up h4 n4 hxn ht.2
   rw [show sub (h x).up (Fo.nd j u k n) = sub (h x).up n by rw [sub, if_neg (fun (g : j = (h x).up) => n2 (by rw [g]; exact a3)), if_neg (fun g => n5 _ g a3)]]
   exact ⟨a1, a2⟩
where
 in_sub {h : Nat → Nd} {x : Nat} : ∀ {F : Fo} {up : Nat}, Rep h up F → F.ids.Nodup → x ∈ F.ids → x ∉ F.tops → x ∈ (sub (h x).up F).tops
 | .nil, _, _, _, hx, _ => by simp [Fo.ids] at hx
 | .nd j u k n, up, ⟨h1, h2, h3, h4⟩, hn, hx, ht => by
  obtain ⟨n1, n2, n3, n4, n5⟩ := nodup_nd hn
  simp only [Fo.ids, Fo.tops, List.mem_cons, List.mem_append, not_or] at hx ht
  rcases hx with g | hk | hxn
  ·exact absurd g ht.1
  ·rcases rep_at h3 n3 hk with ⟨g1, g2⟩ | ⟨g1, g2⟩
   ·rw [g2, sub, if_pos rfl]; exact g1
   ·rw [sub, if_neg (fun (g : j = (h x).up) => n1 (by rw [g]; exact g2)), if_pos g2]; exact in_sub h3 n3 hk g1
  ·rcases rep_at h4 n4 hxn with ⟨g1, g2⟩ | ⟨g1, g2⟩
   ·exact absurd g1 ht.2
   ·rw [sub, if_neg (fun (g : j = (h x).up) => n2 (by rw [g]; exact g2)), if_neg (fun g => n5 _ g g2)]; exact in_sub h4 n4 hxn g1
def under (u x : Nat) (F : Fo) : Prop := u ∈ F.ids ∧ (x = u ∨ x ∈ (sub u F).ids)
instance (u x : Nat) (F : Fo) : Decidable (under u x F) := by unfold under; exact inferInstance
theorem within_rep {h : Nat → Nd} {u x : Nat} : ∀ {F : Fo} {up : Nat}, Rep h up F → F.ids.Nodup → x ∈ F.ids → ∃ c, ∀ k, (under u x F → withinF h u (c + k) x = some true) ∧ (¬ under u x F → withinF h u (c + k) x = withinF h u k up)
 | .nil, _, _, _, hx => by simp [Fo.ids] at hx
 | .nd j t m n, up, ⟨h1, h2, h3, h4⟩, hn, hx => by
  obtain ⟨n1, n2, n3, n4, n5⟩ := nodup_nd hn
  have step : ∀ k, withinF h u (k + 1) j = if j = u then some true else withinF h u k up := fun k => by
   rw [withinF, if_neg h1, h2]
  simp only [Fo.ids, List.mem_cons, List.mem_append] at hx
  rcases hx with rfl | hk | hxn
  ·refine ⟨1, fun k => ⟨fun hu => ?_, fun hu => ?_⟩⟩
   ·rw [Nat.add_comm, step]
    by_cases e : x = u
    ·rw [if_pos e]
    ·exfalso
     rcases hu.2 with g | g
     ·exact e g
     ·rw [sub, if_neg e] at g
      split at g
      ·exact n1 (sub_ids u g)
      ·exact n2 (sub_ids u g)
   ·rw [Nat.add_comm, step, if_neg]
    intro e
    exact hu ⟨by simp [Fo.ids, e], Or.inl e⟩
  ·obtain ⟨c, hc⟩ := within_rep (u := u) h3 n3 hk
   have key : ∀ k, withinF h u (c + (k + 1)) x = if under u x m then some true else if j = u then some true else withinF h u k up := fun k => by
    by_cases hu : under u x m
    ·rw [if_pos hu, (hc (k + 1)).1 hu]
    ·rw [if_neg hu, (hc (k + 1)).2 hu, step]
   have hiff : under u x (.nd j t m n) ↔ (under u x m ∨ j = u) := by
    unfold under
    constructor
    ·rintro ⟨g1, g2⟩
     by_cases e : j = u
     ·exact Or.inr e
     ·left
      rw [sub, if_neg e] at g2
      simp only [Fo.ids, List.mem_cons, List.mem_append] at g1
      by_cases hum : u ∈ m.ids
      ·rw [if_pos hum] at g2; exact ⟨hum, g2⟩
      ·rw [if_neg hum] at g2
       exfalso
       rcases g2 with g2 | g2
       ·exact hum (g2 ▸ hk)
       ·exact n5 x hk (sub_ids u g2)
    ·rintro (⟨g1, g2⟩ | e)
     ·refine ⟨by simp [Fo.ids, g1], ?_⟩
      rw [sub, if_neg (fun (e : j = u) => n1 (by rw [e]; exact g1)), if_pos g1]
      exact g2
     ·refine ⟨by simp [Fo.ids, e], Or.inr ?_⟩
      rw [sub, if_pos e]; exact hk
   refine ⟨c + 1, fun k => ?_⟩
   rw [show c + 1 + k = c + (k + 1) by omega, key, hiff]
   refine ⟨fun hu => ?_, fun hu => ?_⟩
   ·rcases hu with hu | hu
    ·rw [if_pos hu]
    ·rw [if_pos hu]; split <;> rfl
   ·rw [if_neg (fun g => hu (Or.inl g)), if_neg (fun g => hu (Or.inr g))]
  ·obtain ⟨c, hc⟩ := within_rep (u := u) h4 n4 hxn
   refine ⟨c, fun k => ?_⟩
   have hiff : under u x (.nd j t m n) ↔ under u x n := by
    unfold under
    constructor
    ·rintro ⟨g1, g2⟩
     have e : j ≠ u := fun e => by
      rw [sub, if_pos e] at g2
      rcases g2 with g2 | g2
      ·exact n2 (by rw [e, ← g2]; exact hxn)
      ·exact n5 x g2 hxn
     rw [sub, if_neg e] at g2
     by_cases hum : u ∈ m.ids
     ·rw [if_pos hum] at g2
      exfalso
      rcases g2 with g2 | g2
      ·exact n5 u hum (g2 ▸ hxn)
      ·exact n5 x (sub_ids u g2) hxn
     ·rw [if_neg hum] at g2
      simp only [Fo.ids, List.mem_cons, List.mem_append] at g1
      exact ⟨by rcases g1 with g | g | g; exact absurd g.symm e; exact absurd g hum; exact g, g2⟩
    ·rintro ⟨g1, g2⟩
     refine ⟨by simp [Fo.ids, g1], ?_⟩
     rw [sub, if_neg (fun (e : j = u) => n2 (by rw [e]; exact g1)), if_neg (fun g => n5 u g g1)]
     exact g2
   rw [hiff]
   exact hc k
theorem within_top {h : Nat → Nd} {u x : Nat} : ∀ {F : Fo}, RepTop h F → F.ids.Nodup → x ∈ F.ids → ∃ c, ∀ k, (under u x F → withinF h u (c + k) x = some true) ∧ (¬ under u x F → withinF h u (c + k + 1) x = some false)
 | .nil, _, _, hx => by simp [Fo.ids] at hx
 | .nd j t m n, ⟨h1, h2, h3, h4⟩, hn, hx => by
  obtain ⟨n1, n2, n3, n4, n5⟩ := nodup_nd hn
  have hx2 := hx
  simp only [Fo.ids, List.mem_cons, List.mem_append] at hx
  have hRep : Rep h 0 (.nd j t m .nil) := ⟨h1, h2, h3, trivial⟩
  have hnd1 : (Fo.nd j t m .nil).ids.Nodup := by simp [Fo.ids, n1, n3]
  have hz : ∀ k, withinF h u (k + 1) 0 = some false := fun k => by rw [withinF, if_pos rfl]
  by_cases hxn : x ∈ n.ids
  ·obtain ⟨c, hc⟩ := within_top (u := u) h4 n4 hxn
   have hiff : under u x (.nd j t m n) ↔ under u x n := by
    unfold under
    constructor
    ·rintro ⟨g1, g2⟩
     have e : j ≠ u := fun e => by
      rw [sub, if_pos e] at g2
      rcases g2 with g2 | g2
      ·exact n2 (by rw [e, ← g2]; exact hxn)
      ·exact n5 x g2 hxn
     rw [sub, if_neg e] at g2
     by_cases hum : u ∈ m.ids
     ·rw [if_pos hum] at g2
      exfalso
      rcases g2 with g2 | g2
      ·exact n5 u hum (g2 ▸ hxn)
      ·exact n5 x (sub_ids u g2) hxn
     ·rw [if_neg hum] at g2
      simp only [Fo.ids, List.mem_cons, List.mem_append] at g1
      exact ⟨by rcases g1 with g | g | g; exact absurd g.symm e; exact absurd g hum; exact g, g2⟩
    ·rintro ⟨g1, g2⟩
     refine ⟨by simp [Fo.ids, g1], ?_⟩
     rw [sub, if_neg (fun (e : j = u) => n2 (by rw [e]; exact g1)), if_neg (fun g => n5 u g g1)]
     exact g2
   exact ⟨c, fun k => by rw [hiff]; exact hc k⟩
  ·have hx1 : x ∈ (Fo.nd j t m .nil).ids := by
    simp only [Fo.ids, List.mem_cons, List.mem_append, List.not_mem_nil, or_false]
    rcases hx with g | g | g
    ·exact Or.inl g
    ·exact Or.inr g
    ·exact absurd g hxn
   obtain ⟨c, hc⟩ := within_rep (u := u) hRep hnd1 hx1
   have hiff : under u x (.nd j t m n) ↔ under u x (.nd j t m .nil) := by
    unfold under
    have hs : ∀ {y : Nat}, y ∈ (sub u (Fo.nd j t m n)).ids → u ∉ (Fo.nd j t m .nil).ids → y ∈ n.ids := fun {y} hy hu => by
     simp only [Fo.ids, List.mem_cons, List.mem_append, List.not_mem_nil, or_false, not_or] at hu
     rw [sub, if_neg (fun e => hu.1 e.symm), if_neg hu.2] at hy
     exact sub_ids u hy
    have he : u ∈ (Fo.nd j t m .nil).ids → sub u (Fo.nd j t m n) = sub u (Fo.nd j t m .nil) := fun hu => by
     simp only [Fo.ids, List.mem_cons, List.mem_append, List.not_mem_nil, or_false] at hu
     rw [sub, sub]
     by_cases e : j = u
     ·rw [if_pos e, if_pos e]
     ·have hum : u ∈ m.ids := hu.resolve_left fun g => e g.symm
      rw [if_neg e, if_neg e, if_pos hum, if_pos hum]
    constructor
    ·rintro ⟨g1, g2⟩
     by_cases hu : u ∈ (Fo.nd j t m .nil).ids
     ·exact ⟨hu, he hu ▸ g2⟩
     ·exfalso
      rcases g2 with g2 | g2
      ·exact hu (g2 ▸ hx1)
      ·exact hxn (hs g2 hu)
    ·rintro ⟨g1, g2⟩
     refine ⟨?_, by rw [he g1]; exact g2⟩
     simp only [Fo.ids, List.mem_cons, List.mem_append, List.not_mem_nil, or_false] at g1 ⊢
     rcases g1 with g | g
     ·exact Or.inl g
     ·exact Or.inr (Or.inl g)
   refine ⟨c, fun k => ?_⟩
   rw [hiff]
   refine ⟨(hc k).1, fun hu => ?_⟩
   rw [show c + k + 1 = c + (k + 1) by omega, (hc (k + 1)).2 hu, hz]
theorem ids_insAfter (a i : Nat) (t : ByteArray) (s : Fo) : ∀ (F : Fo), F.ids.Nodup → a ∈ F.ids → (insAfter a i t s F).ids.Perm (i :: (s.ids ++ F.ids))
 | .nil, _, hx => by simp [Fo.ids] at hx
 | .nd j u k n, hn, hx => by
  obtain ⟨n1, n2, n3, n4, n5⟩ := nodup_nd hn
  simp only [Fo.ids, List.mem_cons, List.mem_append] at hx
  unfold insAfter
  by_cases e : j = a
  ·rw [if_pos e]
   simp only [Fo.ids]
   have : (j :: (k.ids ++ i :: (s.ids ++ n.ids))).Perm (i :: (s.ids ++ (j :: (k.ids ++ n.ids)))) := by
    refine List.perm_iff_count.2 fun z => ?_
    simp only [List.count_cons, List.count_append]
    omega
   exact this
  ·rw [if_neg e]
   simp only [Fo.ids]
   by_cases hk : a ∈ k.ids
   ·have p := ids_insAfter a i t s k n3 hk
    rw [insAfter_id a i t s (n5 a hk)]
    refine List.perm_iff_count.2 fun z => ?_
    have q := List.perm_iff_count.1 p z
    simp only [List.count_cons, List.count_append] at q ⊢
    omega
   ·have hxn : a ∈ n.ids := by rcases hx with g | g | g; exact absurd g.symm e; exact absurd g hk; exact g
    have p := ids_insAfter a i t s n n4 hxn
    rw [insAfter_id a i t s hk]
    refine List.perm_iff_count.2 fun z => ?_
    have q := List.perm_iff_count.1 p z
    simp only [List.count_cons, List.count_append] at q ⊢
    omega
theorem ids_insFirst (a i : Nat) (t : ByteArray) (s : Fo) : ∀ (F : Fo), F.ids.Nodup → a ∈ F.ids → (insFirst a i t s F).ids.Perm (i :: (s.ids ++ F.ids))
 | .nil, _, hx => by simp [Fo.ids] at hx
 | .nd j u k n, hn, hx => by
  obtain ⟨n1, n2, n3, n4, n5⟩ := nodup_nd hn
  simp only [Fo.ids, List.mem_cons, List.mem_append] at hx
  unfold insFirst
  by_cases e : j = a
  ·rw [if_pos e]
   simp only [Fo.ids]
   refine List.perm_iff_count.2 fun z => ?_
   simp only [List.count_cons, List.count_append]
   omega
  ·rw [if_neg e]
   simp only [Fo.ids]
   by_cases hk : a ∈ k.ids
   ·have p := ids_insFirst a i t s k n3 hk
    rw [insFirst_id a i t s (n5 a hk)]
    refine List.perm_iff_count.2 fun z => ?_
    have q := List.perm_iff_count.1 p z
    simp only [List.count_cons, List.count_append] at q ⊢
    omega
   ·have hxn : a ∈ n.ids := by rcases hx with g | g | g; exact absurd g.symm e; exact absurd g hk; exact g
    have p := ids_insFirst a i t s n n4 hxn
    rw [insFirst_id a i t s hk]
    refine List.perm_iff_count.2 fun z => ?_
    have q := List.perm_iff_count.1 p z
    simp only [List.count_cons, List.count_append] at q ⊢
    omega
theorem ids_del (x : Nat) : ∀ (F : Fo), F.ids.Nodup → x ∈ F.ids → F.ids.Perm (x :: ((sub x F).ids ++ (del x F).ids))
 | .nil, _, hx => by simp [Fo.ids] at hx
 | .nd j u k n, hn, hx => by
  obtain ⟨n1, n2, n3, n4, n5⟩ := nodup_nd hn
  simp only [Fo.ids, List.mem_cons, List.mem_append] at hx
  unfold del sub
  by_cases e : j = x
  ·rw [if_pos e, if_pos e]
   simp only [Fo.ids, e]
   exact List.Perm.refl _
  ·rw [if_neg e, if_neg e]
   by_cases hk : x ∈ k.ids
   ·have p := ids_del x k n3 hk
    rw [if_pos hk, del_id x (n5 x hk)]
    refine List.perm_iff_count.2 fun z => ?_
    have q := List.perm_iff_count.1 p z
    simp only [Fo.ids, List.count_cons, List.count_append] at q ⊢
    omega
   ·have hxn : x ∈ n.ids := by rcases hx with g | g | g; exact absurd g.symm e; exact absurd g hk; exact g
    have p := ids_del x n n4 hxn
    rw [if_neg hk, del_id x hk]
    refine List.perm_iff_count.2 fun z => ?_
    have q := List.perm_iff_count.1 p z
    simp only [Fo.ids, List.count_cons, List.count_append] at q ⊢
    omega
theorem tops_insAfter (a i : Nat) (t : ByteArray) (s : Fo) : ∀ (F : Fo), a ∉ F.tops → (insAfter a i t s F).tops = F.tops
 | .nil, _ => rfl
 | .nd j u k n, h => by
  simp only [Fo.tops, List.mem_cons, not_or] at h
  unfold insAfter
  rw [if_neg (fun e => h.1 e.symm)]
  simp only [Fo.tops]
  rw [tops_insAfter a i t s n h.2]
theorem tops_insFirst (a i : Nat) (t : ByteArray) (s : Fo) : ∀ (F : Fo), (insFirst a i t s F).tops = F.tops
 | .nil => rfl
 | .nd j u k n => by
  unfold insFirst
  split
  ·rfl
  ·simp only [Fo.tops]
   rw [tops_insFirst a i t s n]
theorem tops_del (x : Nat) : ∀ (F : Fo), x ∉ F.tops → (del x F).tops = F.tops
 | .nil, _ => rfl
 | .nd j u k n, h => by
  simp only [Fo.tops, List.mem_cons, not_or] at h
  unfold del
  rw [if_neg (fun e => h.1 e.symm)]
  simp only [Fo.tops]
  rw [tops_del x n h.2]
def setF (x : Nat) (t : ByteArray) : Fo → Fo
 | .nil => .nil
 | .nd j u k n => .nd j (if j = x then t else u) (setF x t k) (setF x t n)
theorem setF_ids (x : Nat) (t : ByteArray) : ∀ (F : Fo), (setF x t F).ids = F.ids
 | .nil => rfl
 | .nd j u k n => by simp [setF, Fo.ids, setF_ids x t k, setF_ids x t n]
theorem setF_tops (x : Nat) (t : ByteArray) : ∀ (F : Fo), (setF x t F).tops = F.tops
 | .nil => rfl
 | .nd j u k n => by simp [setF, Fo.tops, setF_tops x t n]
theorem setF_hd (x : Nat) (t : ByteArray) (F : Fo) : (setF x t F).hd = F.hd := by cases F <;> rfl
theorem rep_setF {h : Nat → Nd} {x : Nat} {t : ByteArray} : ∀ {F : Fo} {up : Nat}, Rep h up F → Rep (upN h x ⟨t, (h x).up, (h x).first, (h x).next⟩) up (setF x t F)
 | .nil, _, _ => trivial
 | .nd j u k n, up, ⟨h1, h2, h3, h4⟩ => by
  refine ⟨h1, ?_, rep_setF h3, rep_setF h4⟩
  rw [setF_hd, setF_hd]
  unfold upN
  by_cases e : j = x
  ·rw [if_pos e, if_pos e, ← e, h2]
  ·rw [if_neg e, if_neg e, h2]
theorem reptop_setF {h : Nat → Nd} {x : Nat} {t : ByteArray} : ∀ {F : Fo}, RepTop h F → RepTop (upN h x ⟨t, (h x).up, (h x).first, (h x).next⟩) (setF x t F)
 | .nil, _ => trivial
 | .nd j u k n, ⟨h1, h2, h3, h4⟩ => by
  refine ⟨h1, ?_, rep_setF h3, reptop_setF h4⟩
  rw [setF_hd]
  unfold upN
  by_cases e : j = x
  ·rw [if_pos e, if_pos e, ← e, h2]
  ·rw [if_neg e, if_neg e, h2]
def par (x : Nat) (up : Nat) : Fo → Nat
 | .nil => 0
 | .nd j _ k n => if j = x then up else if x ∈ k.ids then par x j k else par x up n
theorem rep_par {h : Nat → Nd} {x : Nat} : ∀ {F : Fo} {up : Nat}, Rep h up F → F.ids.Nodup → x ∈ F.ids → (h x).up = par x up F
 | .nil, _, _, _, hx => by simp [Fo.ids] at hx
 | .nd j t k n, up, ⟨h1, h2, h3, h4⟩, hn, hx => by
  obtain ⟨n1, n2, n3, n4, n5⟩ := nodup_nd hn
  simp only [Fo.ids, List.mem_cons, List.mem_append] at hx
  unfold par
  by_cases e : j = x
  ·subst e; rw [if_pos rfl, h2]
  ·rw [if_neg e]
   by_cases hk : x ∈ k.ids
   ·rw [if_pos hk]; exact rep_par h3 n3 hk
   ·rw [if_neg hk]; exact rep_par h4 n4 (by rcases hx with g | g | g; exact absurd g.symm e; exact absurd g hk; exact g)
theorem reptop_par {h : Nat → Nd} {x : Nat} : ∀ {F : Fo}, RepTop h F → F.ids.Nodup → x ∈ F.ids → (h x).up = par x 0 F
 | .nil, _, _, hx => by simp [Fo.ids] at hx
 | .nd j t k n, ⟨h1, h2, h3, h4⟩, hn, hx => by
  obtain ⟨n1, n2, n3, n4, n5⟩ := nodup_nd hn
  simp only [Fo.ids, List.mem_cons, List.mem_append] at hx
  unfold par
  by_cases e : j = x
  ·subst e; rw [if_pos rfl, h2]
  ·rw [if_neg e]
   by_cases hk : x ∈ k.ids
   ·rw [if_pos hk]; exact rep_par h3 n3 hk
   ·rw [if_neg hk]; exact reptop_par h4 n4 (by rcases hx with g | g | g; exact absurd g.symm e; exact absurd g hk; exact g)
def txtF (x : Nat) : Fo → ByteArray
 | .nil => ByteArray.empty
 | .nd j u k n => if j = x then u else if x ∈ k.ids then txtF x k else txtF x n
theorem rep_txt {h : Nat → Nd} {x : Nat} : ∀ {F : Fo} {up : Nat}, Rep h up F → F.ids.Nodup → x ∈ F.ids → (h x).t = txtF x F
 | .nil, _, _, _, hx => by simp [Fo.ids] at hx
 | .nd j t k n, up, ⟨h1, h2, h3, h4⟩, hn, hx => by
  obtain ⟨n1, n2, n3, n4, n5⟩ := nodup_nd hn
  simp only [Fo.ids, List.mem_cons, List.mem_append] at hx
  unfold txtF
  by_cases e : j = x
  ·subst e; rw [if_pos rfl, h2]
  ·rw [if_neg e]
   by_cases hk : x ∈ k.ids
   ·rw [if_pos hk]; exact rep_txt h3 n3 hk
   ·rw [if_neg hk]; exact rep_txt h4 n4 (by rcases hx with g | g | g; exact absurd g.symm e; exact absurd g hk; exact g)
theorem reptop_txt {h : Nat → Nd} {x : Nat} : ∀ {F : Fo}, RepTop h F → F.ids.Nodup → x ∈ F.ids → (h x).t = txtF x F
 | .nil, _, _, hx => by simp [Fo.ids] at hx
 | .nd j t k n, ⟨h1, h2, h3, h4⟩, hn, hx => by
  obtain ⟨n1, n2, n3, n4, n5⟩ := nodup_nd hn
  simp only [Fo.ids, List.mem_cons, List.mem_append] at hx
  unfold txtF
  by_cases e : j = x
  ·subst e; rw [if_pos rfl, h2]
  ·rw [if_neg e]
   by_cases hk : x ∈ k.ids
   ·rw [if_pos hk]; exact rep_txt h3 n3 hk
   ·rw [if_neg hk]; exact reptop_txt h4 n4 (by rcases hx with g | g | g; exact absurd g.symm e; exact absurd g hk; exact g)
theorem sib_out {x : Nat} : ∀ {F : Fo} {h : Nat → Nd} {up p : Nat}, Rep h up F → F.ids.Nodup → x ∈ F.ids → p ∉ F.ids → sib x p F ∉ (sub x F).ids
 | .nil, _, _, _, _, _, hx, _ => by simp [Fo.ids] at hx
 | .nd j t k n, h, up, p, ⟨h1, h2, h3, h4⟩, hn, hx, hp => by
  obtain ⟨n1, n2, n3, n4, n5⟩ := nodup_nd hn
  simp only [Fo.ids, List.mem_cons, List.mem_append, not_or] at hx hp
  unfold sib sub
  by_cases e : j = x
  ·rw [if_pos e, if_pos e]; exact hp.2.1
  ·rw [if_neg e, if_neg e]
   by_cases hk : x ∈ k.ids
   ·rw [if_pos hk, if_pos hk]; exact sib_out h3 n3 hk (fun g => h3.ne0 0 g rfl)
   ·rw [if_neg hk, if_neg hk]; exact sib_out h4 n4 (by rcases hx with g | g | g; exact absurd g.symm e; exact absurd g hk; exact g) n2
theorem sibT_out {x : Nat} : ∀ {F : Fo} {h : Nat → Nd}, RepTop h F → F.ids.Nodup → x ∈ F.ids → x ∉ F.tops → sibT x F ∉ (sub x F).ids
 | .nil, _, _, _, hx, _ => by simp [Fo.ids] at hx
 | .nd j t k n, h, ⟨h1, h2, h3, h4⟩, hn, hx, ht => by
  obtain ⟨n1, n2, n3, n4, n5⟩ := nodup_nd hn
  simp only [Fo.ids, Fo.tops, List.mem_cons, List.mem_append, not_or] at hx ht
  unfold sibT sub
  rw [if_neg (fun e => ht.1 e.symm)]
  by_cases hk : x ∈ k.ids
  ·rw [if_pos hk, if_pos hk]; exact sib_out h3 n3 hk (fun g => h3.ne0 0 g rfl)
  ·rw [if_neg hk, if_neg hk]; exact sibT_out h4 n4 (by rcases hx with g | g | g; exact absurd g ht.1; exact absurd g hk; exact g) ht.2
theorem up_out {h : Nat → Nd} {x : Nat} : ∀ {F : Fo} {up : Nat}, Rep h up F → F.ids.Nodup → x ∈ F.ids → up ∉ F.ids → (h x).up ∉ (sub x F).ids
 | .nil, _, _, _, hx, _ => by simp [Fo.ids] at hx
 | .nd j t k n, up, ⟨h1, h2, h3, h4⟩, hn, hx, hp => by
  obtain ⟨n1, n2, n3, n4, n5⟩ := nodup_nd hn
  simp only [Fo.ids, List.mem_cons, List.mem_append, not_or] at hx hp
  unfold sub
  by_cases e : j = x
  ·rw [if_pos e, ← e, h2]; exact hp.2.1
  ·rw [if_neg e]
   by_cases hk : x ∈ k.ids
   ·rw [if_pos hk]; exact up_out h3 n3 hk n1
   ·rw [if_neg hk]; exact up_out h4 n4 (by rcases hx with g | g | g; exact absurd g.symm e; exact absurd g hk; exact g) hp.2.2
theorem upT_out {h : Nat → Nd} {x : Nat} : ∀ {F : Fo}, RepTop h F → F.ids.Nodup → x ∈ F.ids → x ∉ F.tops → (h x).up ∉ (sub x F).ids
 | .nil, _, _, hx, _ => by simp [Fo.ids] at hx
 | .nd j t k n, ⟨h1, h2, h3, h4⟩, hn, hx, ht => by
  obtain ⟨n1, n2, n3, n4, n5⟩ := nodup_nd hn
  simp only [Fo.ids, Fo.tops, List.mem_cons, List.mem_append, not_or] at hx ht
  unfold sub
  rw [if_neg (fun e => ht.1 e.symm)]
  by_cases hk : x ∈ k.ids
  ·rw [if_pos hk]; exact up_out h3 n3 hk n1
  ·rw [if_neg hk]; exact upT_out h4 n4 (by rcases hx with g | g | g; exact absurd g ht.1; exact absurd g hk; exact g) ht.2
theorem freeT_detach {h : Nat → Nd} {x a : Nat} : ∀ {F : Fo}, RepTop h F → F.ids.Nodup → x ∈ F.ids → x ∉ F.tops → a ∉ (sub x F).ids → (h x).up ∉ (sub x F).ids → Free (detachH h x a) x (h x).t (sub x F)
 | .nil, _, _, hx, _, _, _ => by simp [Fo.ids] at hx
 | .nd j u k n, ⟨h1, h2, h3, h4⟩, hn, hx, ht, ha, hu => by
  obtain ⟨n1, n2, n3, n4, n5⟩ := nodup_nd hn
  simp only [Fo.ids, Fo.tops, List.mem_cons, List.mem_append, not_or] at hx ht
  unfold sub at ha hu ⊢
  rw [if_neg (fun e => ht.1 e.symm)] at ha hu ⊢
  by_cases hk : x ∈ k.ids
  ·rw [if_pos hk] at ha hu ⊢; exact free_detach h3 n3 hk ha hu
  ·rw [if_neg hk] at ha hu ⊢; exact freeT_detach h4 n4 (by rcases hx with g | g | g; exact absurd g ht.1; exact absurd g hk; exact g) ht.2 ha hu
def fndF (G : Fo) (x : Int) : Nat := if 0 ≤ x ∧ x.toNat ∈ G.ids then x.toNat else 0
theorem fndF_mem {G : Fo} {x : Int} (h : fndF G x ≠ 0) : fndF G x ∈ G.ids ∧ (fndF G x : Int) = x := by
 unfold fndF at h ⊢
 split at h
 ·rename_i g; rw [if_pos g]; exact ⟨g.2, by omega⟩
 ·exact absurd rfl h
def nearF (G : Fo) (id up at_ : Int) : Nat × Nat :=
 if fndF G up = 0 then (3, 0)
 else if fndF G at_ = 0 then (fndF G up, 0)
 else if par (fndF G at_) 0 G ≠ fndF G up then (fndF G up, 0)
 else if at_ = id then (fndF G up, 0)
 else (fndF G up, fndF G at_)
def putF (G : Fo) (p : Nat × Nat) (i : Nat) (t : ByteArray) (s : Fo) : Fo := if p.2 = 0 then insFirst p.1 i t s G else insAfter p.2 i t s G
def doF (G : Fo) (kd id up at_ : Int) (s : ByteArray) : Fo :=
 if kd = 2 then (if fndF G id = 0 then G else setF (fndF G id) s G)
 else if kd = 1 then (if fndF G id = 0 then putF G (nearF G id up at_) id.toNat s .nil else G)
 else (if fndF G id = 0 then G else if under (fndF G id) (fndF G up) G then G else putF (del (fndF G id) G) (nearF G id up at_) (fndF G id) (txtF (fndF G id) G) (sub (fndF G id) G))
structure PlaceOk (G : Fo) (id : Int) (p : Nat × Nat) : Prop where
 up : p.1 ∈ G.ids
 at_ : p.2 = 0 ∨ (p.2 ∈ G.ids ∧ par p.2 0 G = p.1 ∧ (p.2 : Int) ≠ id)
theorem near_ok {G : Fo} (h3 : 3 ∈ G.ids) (id up at_ : Int) : PlaceOk G id (nearF G id up at_) := by
 unfold nearF
 by_cases h1 : fndF G up = 0
 ·rw [if_pos h1]; exact ⟨h3, Or.inl rfl⟩
 ·rw [if_neg h1]
  have hu := (fndF_mem h1).1
  by_cases h2 : fndF G at_ = 0
  ·rw [if_pos h2]; exact ⟨hu, Or.inl rfl⟩
  ·rw [if_neg h2]
   by_cases h4 : par (fndF G at_) 0 G ≠ fndF G up
   ·rw [if_pos h4]; exact ⟨hu, Or.inl rfl⟩
   ·rw [if_neg h4]
    by_cases h5 : at_ = id
    ·rw [if_pos h5]; exact ⟨hu, Or.inl rfl⟩
    ·rw [if_neg h5]
     exact ⟨hu, Or.inr ⟨(fndF_mem h2).1, Decidable.of_not_not h4, by rw [(fndF_mem h2).2]; exact h5⟩⟩
theorem par_top {G : Fo} (h : Nat → Nd) (hr : RepTop h G) (hn : G.ids.Nodup) {x : Nat} (hx : x ∈ G.ids) (hp : par x 0 G ≠ 0) : x ∉ G.tops := fun ht => by
 rw [← reptop_par hr hn hx, reptop_root hr ht] at hp
 exact hp rfl
theorem putF_rep {h : Nat → Nd} {G : Fo} {p : Nat × Nat} {i : Nat} {t : ByteArray} {s : Fo} (hf : Free h i t s) (hr : RepTop h G) (hn : G.ids.Nodup) (hi : i ∉ G.ids) (hd : ∀ j ∈ s.ids, j ∉ G.ids) (hu : p.1 ∈ G.ids) (ha : p.2 = 0 ∨ (p.2 ∈ G.ids ∧ (h p.2).up = p.1 ∧ p.2 ∉ G.tops)) :
  RepTop (attachH h i p.1 p.2) (putF G p i t s) := by
 unfold putF
 by_cases h0 : p.2 = 0
 ·rw [if_pos h0, h0]
  exact reptop_insFirst hf hr hn hi (fun g => hd _ g hu) (fun g => hi (g ▸ hu)) hd
 ·rw [if_neg h0]
  obtain ⟨a1, a2, a3⟩ := ha.resolve_left h0
  exact reptop_insAfter hf h0 a2 hr hn hi a3 (fun g => hd _ g a1) (fun g => hi (g ▸ a1)) hd
theorem putF_ids {G : Fo} {p : Nat × Nat} {i : Nat} {t : ByteArray} {s : Fo} (hn : G.ids.Nodup) (hu : p.1 ∈ G.ids) (ha : p.2 = 0 ∨ p.2 ∈ G.ids) : (putF G p i t s).ids.Perm (i :: (s.ids ++ G.ids)) := by
 unfold putF
 by_cases h0 : p.2 = 0
 ·rw [if_pos h0]; exact ids_insFirst _ _ _ _ G hn hu
 ·rw [if_neg h0]; exact ids_insAfter _ _ _ _ G hn (ha.resolve_left h0)
theorem putF_tops {G : Fo} {p : Nat × Nat} {i : Nat} {t : ByteArray} {s : Fo} (ha : p.2 = 0 ∨ p.2 ∉ G.tops) : (putF G p i t s).tops = G.tops := by
 unfold putF
 by_cases h0 : p.2 = 0
 ·rw [if_pos h0]; exact tops_insFirst _ _ _ _ G
 ·rw [if_neg h0]; exact tops_insAfter _ _ _ _ G (ha.resolve_left h0)
theorem near_del {h : Nat → Nd} {G : Fo} (hr : RepTop h G) (hn : G.ids.Nodup) (h3 : 3 ∈ G.tops) {i : Nat} (hi : i ∈ G.ids) (hit : i ∉ G.tops) {id up at_ : Int} (hid : (i : Int) = id) (hw : ¬ under i (fndF G up) G) :
  (nearF G id up at_).1 ∈ (del i G).ids ∧ ((nearF G id up at_).2 = 0 ∨ ((nearF G id up at_).2 ∈ (del i G).ids ∧ (h (nearF G id up at_).2).up = (nearF G id up at_).1 ∧ (nearF G id up at_).2 ∉ (del i G).tops ∧ (nearF G id up at_).2 ≠ i)) := by
 have hp := near_ok (G := G) (tops_ids h3) id up at_
 have hperm := ids_del i G hn hi
 have hmem : ∀ y, y ∈ G.ids → y ≠ i → y ∉ (sub i G).ids → y ∈ (del i G).ids := fun y hy h1 h2 => by
  have := hperm.mem_iff.1 hy
  simp only [List.mem_cons, List.mem_append] at this
  rcases this with g | g | g
  ·exact absurd g h1
  ·exact absurd g h2
  ·exact g
 have ht : (del i G).tops = G.tops := tops_del i G hit
 have hu : (nearF G id up at_).1 ∈ (del i G).ids := by
  by_cases h1 : fndF G up = 0
  ·have : nearF G id up at_ = (3, 0) := by unfold nearF; rw [if_pos h1]
   rw [this]
   exact tops_ids (ht ▸ h3)
  ·have : (nearF G id up at_).1 = fndF G up := by
    unfold nearF
    rw [if_neg h1]
    split
    ·rfl
    ·split
     ·rfl
     ·split <;> rfl
   rw [this]
   refine hmem _ (fndF_mem h1).1 (fun g => hw ⟨hi, Or.inl g⟩) (fun g => hw ⟨hi, Or.inr g⟩)
 refine ⟨hu, ?_⟩
 rcases hp.at_ with h0 | ⟨h1, h2, h4⟩
 ·exact Or.inl h0
 ·right
  have e : (h (nearF G id up at_).2).up = (nearF G id up at_).1 := (reptop_par hr hn h1).trans h2
  have hne : (nearF G id up at_).2 ≠ i := fun g => h4 (by rw [g]; exact hid)
  have hp0 : (nearF G id up at_).1 ≠ 0 := hr.ne0 _ hp.up
  refine ⟨hmem _ h1 hne fun g => ?_, e, ?_, hne⟩
  ·obtain ⟨r1, _⟩ := reptop_sub hr hn hi
   have hd := hperm.nodup_iff.1 hn
   rcases rep_up r1 (sub_nodup i hn) g with g2 | g2
   ·rw [e] at g2
    have : i ∉ (del i G).ids := fun g3 => by
     have := List.nodup_cons.1 hd
     exact this.1 (List.mem_append_right _ g3)
    exact this (g2 ▸ hu)
   ·rw [e] at g2
    have := (List.nodup_append.1 (List.nodup_cons.1 hd).2).2.2
    exact this _ g2 _ hu rfl
  ·rw [ht]
   exact par_top h hr hn h1 (by rw [h2]; exact hp0)
end Go.Proofs.YtlkheeegkifblaaDoor.FP
namespace Go.Proofs.YtlkheeegkifblaaDoor.P
open Go.RowKit Go.Proofs.YtlkheeegkifblaaDoorW.PrintWords
def impl_RowWho.f (a0 : Int) : Option (Int × Bool) := some (if ownI a0 = 0 then (0, false) else (ownI a0 - 1, true))
set_option maxHeartbeats 800000 in
theorem impl_RowWho.calls (a0 : Int) (r1 : Int) (r2 : Bool) (w : World) (h : impl_RowWho.f a0 = some (r1, r2)) (hG : Glob w) :
  Calls Tryd.prog 20 #[.int .i64 a0] w fun e w' => e = .returned (.tuple #[.int .i64 r1, .bool r2]) ∧ Drawn0 w w' := by
 unfold impl_RowWho.f at h
 by_cases h0 : 0 ≤ a0
 ·by_cases h1 : a0 < 37
  ·have hc := hG.at_ a0 h0 h1
   have hr := ownI_range a0
   generalize ownI a0 = z at hc hr h
   by_cases hz : z = 0
   ·subst hz
    simp only [if_true, Option.some.injEq, Prod.mk.injEq] at h
    obtain ⟨rfl, rfl⟩ := h
    clear hr hG
    go_enter Tryd.func20, Tryd.ntmps20
    go_wp2
    go_ret2
    exact ⟨rfl, Drawn0.refl _⟩
   ·rw [if_neg hz] at h
    simp only [Option.some.injEq, Prod.mk.injEq] at h
    obtain ⟨rfl, rfl⟩ := h
    have hz1 : (z == 0) = false := beq_eq_false_iff_ne.2 hz
    have hr1 : 0 ≤ z := hr.1
    have hr2 : z ≤ 4 := hr.2
    clear hr hG
    go_enter Tryd.func20, Tryd.ntmps20
    go_wp2
    go_ret2
    exact ⟨rfl, Drawn0.refl _⟩
  ·have e : ownI a0 = 0 := by rw [ownI, if_neg (by omega)]
   rw [if_pos e] at h
   simp only [Option.some.injEq, Prod.mk.injEq] at h
   obtain ⟨rfl, rfl⟩ := h
   clear e hG
   go_enter Tryd.func20, Tryd.ntmps20
   go_wp2
   go_ret2
   exact ⟨rfl, Drawn0.refl _⟩
 ·have e : ownI a0 = 0 := by rw [ownI, if_neg (by omega)]
  rw [if_pos e] at h
  simp only [Option.some.injEq, Prod.mk.injEq] at h
  obtain ⟨rfl, rfl⟩ := h
  clear e hG
  have hlt : a0 < 0 := by omega
  go_enter Tryd.func20, Tryd.ntmps20
  go_wp2
  go_ret2
  exact ⟨rfl, Drawn0.refl _⟩
end Go.Proofs.YtlkheeegkifblaaDoor.P
namespace Go.Proofs.YtlkheeegkifblaaDoor.P
open Go.RowKit Go.Proofs.YtlkheeegkifblaaDoorW.PrintWords Go.Proofs.YtlkheeegkifblaaDoorW.PrintLast
def impl_isRoot.f (a0 : Int) : Option (Bool) := (impl_RowWho.f a0).bind fun bt352 => (if bt352.2 = true then (some (bt352.1 == 0)) else (some false))
set_option maxHeartbeats 8000000 in
set_option maxRecDepth 100000 in
theorem impl_isRoot.calls (a0 : Int) (r : Bool) (w : World) (h : impl_isRoot.f a0 = some r) (hG : Glob w) :
  Calls Tryd.prog 67 #[.int .i64 a0] w fun e w' => e = .returned (.bool r) ∧ Drawn0 w w' := by
 have HG := Aside0.mk hG
 clear hG
 unfold impl_isRoot.f at h
 have H := h
 clear h
 replace H := Option.bind_eq_some_iff.mp H
 obtain ⟨⟨t352, t353⟩, A20, H⟩ := H
 try dsimp only at H
 have A2 := Aside0.mk A20
 clear A20
 by_cases c3 : t353 = true
 ·subst c3
  have H1 : (some (t352 == 0)) = some r := by rw [if_pos rfl] at H; exact H
  clear H
  have H := H1
  clear H1
  obtain rfl := Option.some.inj H
  go_enter Tryd.func67, Tryd.ntmps67
  go_wp2_with (first | ((with_reducible refine gate_callee (f := 20) rfl ?_); refine gl_ 7 Tryd.func20 #[.int .i64 a0] ?_; (with_reducible refine (impl_RowWho.calls a0 t352 true _ A2.out ?side1).mono ?_); (case side1 => exact hg_); rintro e w' ⟨rfl, ⟨nd, rfl⟩⟩; refine ⟨_, rfl, ?_⟩))
  go_ret
  exact ⟨si_, by repeat (first | exact Drawn0.refl _ | apply Drawn0.step)⟩
 ·replace c3 := Bool.eq_false_iff.mpr c3
  subst c3
  have H1 : (some false) = some r := by rw [if_neg (show ¬ (false = true) by decide)] at H; exact H
  clear H
  have H := H1
  clear H1
  obtain rfl := Option.some.inj H
  go_enter Tryd.func67, Tryd.ntmps67
  go_wp2_with (first | ((with_reducible refine gate_callee (f := 20) rfl ?_); refine gl_ 7 Tryd.func20 #[.int .i64 a0] ?_; (with_reducible refine (impl_RowWho.calls a0 t352 false _ A2.out ?side1).mono ?_); (case side1 => exact hg_); rintro e w' ⟨rfl, ⟨nd, rfl⟩⟩; refine ⟨_, rfl, ?_⟩))
  go_ret
  exact ⟨si_, by repeat (first | exact Drawn0.refl _ | apply Drawn0.step)⟩

def impl_isMade.f (a0 : Int) : Option (Bool) := (impl_RowWho.f a0).bind fun bt354 => (if bt354.2 = true then (some (bt354.1 != 0)) else (some false))
set_option maxHeartbeats 8000000 in
set_option maxRecDepth 100000 in
theorem impl_isMade.calls (a0 : Int) (r : Bool) (w : World) (h : impl_isMade.f a0 = some r) (hG : Glob w) :
  Calls Tryd.prog 94 #[.int .i64 a0] w fun e w' => e = .returned (.bool r) ∧ Drawn0 w w' := by
 have HG := Aside0.mk hG
 clear hG
 unfold impl_isMade.f at h
 have H := h
 clear h
 replace H := Option.bind_eq_some_iff.mp H
 obtain ⟨⟨t354, t355⟩, A20, H⟩ := H
 try dsimp only at H
 have A2 := Aside0.mk A20
 clear A20
 by_cases c3 : t355 = true
 ·subst c3
  have H1 : (some (t354 != 0)) = some r := by rw [if_pos rfl] at H; exact H
  clear H
  have H := H1
  clear H1
  obtain rfl := Option.some.inj H
  go_enter Tryd.func94, Tryd.ntmps94
  go_wp2_with (first | ((with_reducible refine gate_callee (f := 20) rfl ?_); refine gl_ 7 Tryd.func20 #[.int .i64 a0] ?_; (with_reducible refine (impl_RowWho.calls a0 t354 true _ A2.out ?side1).mono ?_); (case side1 => exact hg_); rintro e w' ⟨rfl, ⟨nd, rfl⟩⟩; refine ⟨_, rfl, ?_⟩))
  go_ret
  exact ⟨si_, by repeat (first | exact Drawn0.refl _ | apply Drawn0.step)⟩
 ·replace c3 := Bool.eq_false_iff.mpr c3
  subst c3
  have H1 : (some false) = some r := by rw [if_neg (show ¬ (false = true) by decide)] at H; exact H
  clear H
  have H := H1
  clear H1
  obtain rfl := Option.some.inj H
  go_enter Tryd.func94, Tryd.ntmps94
  go_wp2_with (first | ((with_reducible refine gate_callee (f := 20) rfl ?_); refine gl_ 7 Tryd.func20 #[.int .i64 a0] ?_; (with_reducible refine (impl_RowWho.calls a0 t354 false _ A2.out ?side1).mono ?_); (case side1 => exact hg_); rintro e w' ⟨rfl, ⟨nd, rfl⟩⟩; refine ⟨_, rfl, ?_⟩))
  go_ret
  exact ⟨si_, by repeat (first | exact Drawn0.refl _ | apply Drawn0.step)⟩

def impl_textOk.l0 : Nat → ByteArray → Int → Option (Bool)
 | 0, _, _ => none
 | k + 1, x0, x3 => if x3 < (x0.size : Int) then (if 0 ≤ x3 then (if (bt x0 x3) < 97 then (some false) else (if (bt x0 x3) > 100 then (some false) else (impl_textOk.l0 k x0 (wrap64 (x3 + 1))))) else (none)) else (some true)
def impl_textOk.f (k : Nat) (a0 : ByteArray) : Option (Bool) := if (a0.size : Int) > 4 then (some false) else (impl_textOk.l0 k a0 0)
theorem impl_textOk.mono_l : ∀ k, (∀ y0 y1, LeO (impl_textOk.l0 k y0 y1) (impl_textOk.l0 (k + 1) y0 y1))
 | 0 => fun _ _ r h => by simp [impl_textOk.l0] at h
 | k + 1 => by
  have ih0 := impl_textOk.mono_l k
  ·intro y0 y1
   unfold impl_textOk.l0
   repeat' first
   | (with_reducible exact ih0 _ _)
   | (with_reducible exact LeO.refl _)
   | (with_reducible exact LeO.none _)
   | (with_reducible refine LeO.ite ?_ ?_)
   | (with_reducible refine LeO.bind ?_ (fun _ => ?_))
   | exact ih0 _ _
   | exact LeO.none _
   | refine LeO.ite ?_ ?_
   | refine LeO.bind ?_ (fun _ => ?_)
theorem impl_textOk.mono : ∀ a0 k, LeO (impl_textOk.f k a0) (impl_textOk.f (k + 1) a0) := by
 intro a0 k
 have ih0 := impl_textOk.mono_l k
 unfold impl_textOk.f
 repeat' first
   | (with_reducible exact ih0 _ _)
   | (with_reducible exact LeO.refl _)
   | (with_reducible exact LeO.none _)
   | (with_reducible refine LeO.ite ?_ ?_)
   | (with_reducible refine LeO.bind ?_ (fun _ => ?_))
   | exact ih0 _ _
   | exact LeO.none _
   | refine LeO.ite ?_ ?_
   | refine LeO.bind ?_ (fun _ => ?_)
set_option maxHeartbeats 8000000 in
set_option maxRecDepth 100000 in
theorem impl_textOk.calls (k : Nat) (a0 : ByteArray) (r : Bool) (w : World) (h : impl_textOk.f k a0 = some r) :
  Calls Tryd.prog 98 #[.string a0] w fun e w' => e = .returned (.bool r) ∧ Drawn0 w w' := by
 unfold impl_textOk.f at h
 have H := h
 clear h
 by_cases c2 : (a0.size : Int) > 4
 ·rw [if_pos c2] at H
  have c2b0 : decide (4 < (a0.size : Int)) = true := decide_eq_true c2
  have c2b1 : decide (4 < a0.size) = true := decide_eq_true (by omega)
  clear c2
  obtain rfl := Option.some.inj H
  go_enter Tryd.func98, Tryd.ntmps98
  go_wp2
  go_ret
  exact ⟨si_, by repeat (first | exact Drawn0.refl _ | apply Drawn0.step)⟩
 ·rw [if_neg c2] at H
  have c2b0 : decide (4 < (a0.size : Int)) = false := decide_eq_false c2
  have c2b1 : decide (4 < a0.size) = false := decide_eq_false (by omega)
  clear c2
  have H' := Aside0.mk H
  clear H
  go_enter Tryd.func98, Tryd.ntmps98
  go_wp2
  go_loopg [3] k (fun kq v3 w' => ∃ (x3_1 : Int), v3 = .int .i64 x3_1 ∧ Aside0 (impl_textOk.l0 kq a0 x3_1 = some r) ∧ Aside0 (kq ≤ k) ∧ Drawn0 w w')
  case atStart => exact ⟨(0), (si_), H', ⟨Nat.le_refl _⟩, by repeat (first | exact Drawn0.refl _ | apply Drawn0.step)⟩
  case round =>
   clear H'
   try clear c2
   try clear c2b0
   try clear c2b1
   try clear p2
   obtain ⟨x3_1, rfl, HA, HK1, ⟨m1, rfl⟩⟩ := hrel
   cases gk with
   | zero => exact absurd HA.out (by simp [impl_textOk.l0])
   | succ k1 =>
    have H := HA.out
    clear HA
    simp only [impl_textOk.l0] at H
    by_cases c3 : x3_1 < (a0.size : Int)
    ·rw [if_pos c3] at H
     have c3b0 : decide (x3_1 < (a0.size : Int)) = true := decide_eq_true c3
     clear c3
     by_cases c4 : 0 ≤ x3_1
     ·rw [if_pos c4] at H
      have c4b0 : decide (0 ≤ x3_1) = true := decide_eq_true c4
      clear c4
      by_cases c6 : (bt a0 x3_1) < 97
      ·rw [if_pos c6] at H
       have c6b0 : decide ((bt a0 x3_1) < 97) = true := decide_eq_true c6
       clear c6
       obtain rfl := Option.some.inj H
       have p5 : 0 ≤ (x3_1 : Int) := od_
       have q5 : x3_1 < (a0.size : Int) := od_
       have hx5 := bt_at a0 x3_1
       replace p5 := eq_true p5
       replace q5 := eq_true q5
       go_wp2
       go_ret
       exact ⟨si_, by repeat (first | exact Drawn0.refl _ | apply Drawn0.step)⟩
      ·rw [if_neg c6] at H
       have c6b0 : decide ((bt a0 x3_1) < 97) = false := decide_eq_false c6
       clear c6
       by_cases c8 : (bt a0 x3_1) > 100
       ·rw [if_pos c8] at H
        have c8b0 : decide (100 < (bt a0 x3_1)) = true := decide_eq_true c8
        clear c8
        obtain rfl := Option.some.inj H
        have p5 : 0 ≤ (x3_1 : Int) := od_
        have q5 : x3_1 < (a0.size : Int) := od_
        have hx5 := bt_at a0 x3_1
        replace p5 := eq_true p5
        replace q5 := eq_true q5
        have p7 : 0 ≤ (x3_1 : Int) := od_
        have q7 : x3_1 < (a0.size : Int) := od_
        have hx7 := bt_at a0 x3_1
        replace p7 := eq_true p7
        replace q7 := eq_true q7
        go_wp2
        go_ret
        exact ⟨si_, by repeat (first | exact Drawn0.refl _ | apply Drawn0.step)⟩
       ·rw [if_neg c8] at H
        have c8b0 : decide (100 < (bt a0 x3_1)) = false := decide_eq_false c8
        clear c8
        have H' := Aside0.mk H
        clear H
        have p5 : 0 ≤ (x3_1 : Int) := od_
        have q5 : x3_1 < (a0.size : Int) := od_
        have hx5 := bt_at a0 x3_1
        replace p5 := eq_true p5
        replace q5 := eq_true q5
        have p7 : 0 ≤ (x3_1 : Int) := od_
        have q7 : x3_1 < (a0.size : Int) := od_
        have hx7 := bt_at a0 x3_1
        replace p7 := eq_true p7
        replace q7 := eq_true q7
        go_wp2
        go_roundg k1
        case measure => have := HK1.out; omega
        case rel => exact ⟨(wrap64 (x3_1 + 1)), (si_), H', ⟨by have := HK1.out; omega⟩, by repeat (first | exact Drawn0.refl _ | apply Drawn0.step)⟩
     ·rw [if_neg c4] at H
      exact absurd H (by simp)
    ·rw [if_neg c3] at H
     have c3b0 : decide (x3_1 < (a0.size : Int)) = false := decide_eq_false c3
     clear c3
     obtain rfl := Option.some.inj H
     go_wp2
     go_ret
     exact ⟨si_, by repeat (first | exact Drawn0.refl _ | apply Drawn0.step)⟩

def impl_RowOk.f (k : Nat) (a0_0 : Int) (a0_1 : Int) (a0_2 : ByteArray) : Option (Bool) := (impl_isRoot.f a0_0).bind fun t357 => (if t357 = true then (if a0_1 = 0 then (some (a0_2.toList == ([] : List UInt8))) else (some false)) else ((impl_isMade.f a0_0).bind fun t358 => (if t358 = true then (if a0_1 ≥ 1 then (if a0_1 ≤ 18 then ((impl_textOk.f k a0_2).bind fun t359 => (some t359)) else (some false)) else (some false)) else (some false))))
theorem impl_RowOk.mono : ∀ a0 a1 a2 k, LeO (impl_RowOk.f k a0 a1 a2) (impl_RowOk.f (k + 1) a0 a1 a2) := by
 intro a0 a1 a2 k
 unfold impl_RowOk.f
 repeat' first
   | (with_reducible exact impl_textOk.mono _ _)
   | (with_reducible exact LeO.refl _)
   | (with_reducible exact LeO.none _)
   | (with_reducible refine LeO.ite ?_ ?_)
   | (with_reducible refine LeO.bind ?_ (fun _ => ?_))
   | exact impl_textOk.mono _ _
   | exact LeO.none _
   | refine LeO.ite ?_ ?_
   | refine LeO.bind ?_ (fun _ => ?_)
set_option maxHeartbeats 8000000 in
set_option maxRecDepth 100000 in
theorem impl_RowOk.calls (k : Nat) (a0_0 : Int) (a0_1 : Int) (a0_2 : ByteArray) (r : Bool) (w : World) (h : impl_RowOk.f k a0_0 a0_1 a0_2 = some r) (hG : Glob w) :
  Calls Tryd.prog 66 #[.agg #[.int .i64 a0_0, .int .i64 a0_1, .string a0_2]] w fun e w' => e = .returned (.bool r) ∧ Below w.heap.size w w' := by
 have hu37 := Tryd.underlying37
 have HB := Aside0.mk (Below.refl w.heap.size w)
 have HG := Aside0.mk hG
 clear hG
 unfold impl_RowOk.f at h
 have H := h
 clear h
 replace H := Option.bind_eq_some_iff.mp H
 obtain ⟨t357, A20, H⟩ := H
 try dsimp only at H
 have A2 := Aside0.mk A20
 clear A20
 by_cases c3 : t357 = true
 ·subst c3
  have H1 : (if a0_1 = 0 then (some (a0_2.toList == ([] : List UInt8))) else (some false)) = some r := by rw [if_pos rfl] at H; exact H
  clear H
  have H := H1
  clear H1
  by_cases c4 : a0_1 = 0
  ·rw [if_pos c4] at H
   have c4b0 : (a0_1 == 0) = true := beq_iff_eq.mpr c4
   have c4b1 : (a0_1 != 0) = false := bne_eq_false_iff_eq.mpr c4
   clear c4
   obtain rfl := Option.some.inj H
   go_enter Tryd.func66, Tryd.ntmps66
   go_wp2_with (first | ((with_reducible refine gate_dst (N := 1) rfl ?_); refine bx_ 1 (#[.int .i64 a0_0, .int .i64 a0_1, .string a0_2]) 37 ?_; intro gb356 hg w5 hbox hb; have n0_ := Aside0.mk (below_step (bel_) hb); have n1_ := Aside0.mk (hbox); have n2_ := Aside0.mk ((by rw [hg]; exact (below_size (bel_)) : w.heap.size ≤ gb356)); have n3_ := Aside0.mk ((by rw [hg]; exact (below_size (bel_)) : w.heap.size ≤ gb356)); clear HB; have HB := n0_; have BK356 := n1_; have GW356 := n2_; have GE356 := n3_; clear n0_ n1_ n2_ n3_; clear hb hbox hg; have hcz6_0 := cz_ BK356.out 0 (.int .i64 a0_0); have hcz6_1 := cz_ BK356.out 1 (.int .i64 a0_1); have hcz6_2 := cz_ BK356.out 2 (.string a0_2); have hfz6_0 := blk_frozen BK356.out 0; have hfz6_1 := blk_frozen BK356.out 1; have hfz6_2 := blk_frozen BK356.out 2) | ((with_reducible refine gate_callee (f := 67) rfl ?_); refine gl_ 5 Tryd.func67 #[.int .i64 a0_0] ?_; (with_reducible refine (impl_isRoot.calls a0_0 true _ A2.out ?side1).mono ?_); (case side1 => exact Glob.below HG.out (bel_)); rintro e w' ⟨rfl, ⟨nd, rfl⟩⟩; refine ⟨_, rfl, ?_⟩))
   go_ret
   exact ⟨fi_, bel_⟩
  ·rw [if_neg c4] at H
   have c4b0 : (a0_1 == 0) = false := beq_eq_false_iff_ne.mpr c4
   have c4b1 : (a0_1 != 0) = true := bne_iff_ne.mpr c4
   obtain rfl := Option.some.inj H
   go_enter Tryd.func66, Tryd.ntmps66
   go_wp2_with (first | ((with_reducible refine gate_dst (N := 1) rfl ?_); refine bx_ 1 (#[.int .i64 a0_0, .int .i64 a0_1, .string a0_2]) 37 ?_; intro gb356 hg w7 hbox hb; have n0_ := Aside0.mk (below_step (bel_) hb); have n1_ := Aside0.mk (hbox); have n2_ := Aside0.mk ((by rw [hg]; exact (below_size (bel_)) : w.heap.size ≤ gb356)); have n3_ := Aside0.mk ((by rw [hg]; exact (below_size (bel_)) : w.heap.size ≤ gb356)); clear HB; have HB := n0_; have BK356 := n1_; have GW356 := n2_; have GE356 := n3_; clear n0_ n1_ n2_ n3_; clear hb hbox hg; have hcz8_0 := cz_ BK356.out 0 (.int .i64 a0_0); have hcz8_1 := cz_ BK356.out 1 (.int .i64 a0_1); have hcz8_2 := cz_ BK356.out 2 (.string a0_2); have hfz8_0 := blk_frozen BK356.out 0; have hfz8_1 := blk_frozen BK356.out 1; have hfz8_2 := blk_frozen BK356.out 2) | ((with_reducible refine gate_callee (f := 67) rfl ?_); refine gl_ 5 Tryd.func67 #[.int .i64 a0_0] ?_; (with_reducible refine (impl_isRoot.calls a0_0 true _ A2.out ?side1).mono ?_); (case side1 => exact Glob.below HG.out (bel_)); rintro e w' ⟨rfl, ⟨nd, rfl⟩⟩; refine ⟨_, rfl, ?_⟩))
   go_ret
   exact ⟨fi_, bel_⟩
 ·replace c3 := Bool.eq_false_iff.mpr c3
  subst c3
  have H1 : ((impl_isMade.f a0_0).bind fun t358 => (if t358 = true then (if a0_1 ≥ 1 then (if a0_1 ≤ 18 then ((impl_textOk.f k a0_2).bind fun t359 => (some t359)) else (some false)) else (some false)) else (some false))) = some r := by rw [if_neg (show ¬ (false = true) by decide)] at H; exact H
  clear H
  have H := H1
  clear H1
  replace H := Option.bind_eq_some_iff.mp H
  obtain ⟨t358, A90, H⟩ := H
  try dsimp only at H
  have A9 := Aside0.mk A90
  clear A90
  by_cases c10 : t358 = true
  ·subst c10
   have H1 : (if a0_1 ≥ 1 then (if a0_1 ≤ 18 then ((impl_textOk.f k a0_2).bind fun t359 => (some t359)) else (some false)) else (some false)) = some r := by rw [if_pos rfl] at H; exact H
   clear H
   have H := H1
   clear H1
   by_cases c11 : a0_1 ≥ 1
   ·rw [if_pos c11] at H
    have c11b0 : decide (1 ≤ a0_1) = true := decide_eq_true c11
    clear c11
    by_cases c12 : a0_1 ≤ 18
    ·rw [if_pos c12] at H
     have c12b0 : decide (a0_1 ≤ 18) = true := decide_eq_true c12
     clear c12
     replace H := Option.bind_eq_some_iff.mp H
     obtain ⟨t359, A130, H⟩ := H
     try dsimp only at H
     have A13 := Aside0.mk A130
     clear A130
     obtain rfl := Option.some.inj H
     go_enter Tryd.func66, Tryd.ntmps66
     go_wp2_with (first | ((with_reducible refine gate_dst (N := 1) rfl ?_); refine bx_ 1 (#[.int .i64 a0_0, .int .i64 a0_1, .string a0_2]) 37 ?_; intro gb356 hg w14 hbox hb; have n0_ := Aside0.mk (below_step (bel_) hb); have n1_ := Aside0.mk (hbox); have n2_ := Aside0.mk ((by rw [hg]; exact (below_size (bel_)) : w.heap.size ≤ gb356)); have n3_ := Aside0.mk ((by rw [hg]; exact (below_size (bel_)) : w.heap.size ≤ gb356)); clear HB; have HB := n0_; have BK356 := n1_; have GW356 := n2_; have GE356 := n3_; clear n0_ n1_ n2_ n3_; clear hb hbox hg; have hcz15_0 := cz_ BK356.out 0 (.int .i64 a0_0); have hcz15_1 := cz_ BK356.out 1 (.int .i64 a0_1); have hcz15_2 := cz_ BK356.out 2 (.string a0_2); have hfz15_0 := blk_frozen BK356.out 0; have hfz15_1 := blk_frozen BK356.out 1; have hfz15_2 := blk_frozen BK356.out 2) | ((with_reducible refine gate_callee (f := 67) rfl ?_); refine gl_ 5 Tryd.func67 #[.int .i64 a0_0] ?_; (with_reducible refine (impl_isRoot.calls a0_0 false _ A2.out ?side1).mono ?_); (case side1 => exact Glob.below HG.out (bel_)); rintro e w' ⟨rfl, ⟨nd, rfl⟩⟩; refine ⟨_, rfl, ?_⟩) | ((with_reducible refine gate_callee (f := 94) rfl ?_); refine gl_ 16 Tryd.func94 #[.int .i64 a0_0] ?_; (with_reducible refine (impl_isMade.calls a0_0 true _ A9.out ?side1).mono ?_); (case side1 => exact Glob.below HG.out (bel_)); rintro e w' ⟨rfl, ⟨nd, rfl⟩⟩; refine ⟨_, rfl, ?_⟩) | (go_at_call 98; (with_reducible refine (impl_textOk.calls k a0_2 t359 _ A13.out).mono ?_); rintro e w' ⟨rfl, ⟨nd, rfl⟩⟩))
     go_ret
     exact ⟨fi_, bel_⟩
    ·rw [if_neg c12] at H
     have c12b0 : decide (a0_1 ≤ 18) = false := decide_eq_false c12
     clear c12
     obtain rfl := Option.some.inj H
     go_enter Tryd.func66, Tryd.ntmps66
     go_wp2_with (first | ((with_reducible refine gate_dst (N := 1) rfl ?_); refine bx_ 1 (#[.int .i64 a0_0, .int .i64 a0_1, .string a0_2]) 37 ?_; intro gb356 hg w16 hbox hb; have n0_ := Aside0.mk (below_step (bel_) hb); have n1_ := Aside0.mk (hbox); have n2_ := Aside0.mk ((by rw [hg]; exact (below_size (bel_)) : w.heap.size ≤ gb356)); have n3_ := Aside0.mk ((by rw [hg]; exact (below_size (bel_)) : w.heap.size ≤ gb356)); clear HB; have HB := n0_; have BK356 := n1_; have GW356 := n2_; have GE356 := n3_; clear n0_ n1_ n2_ n3_; clear hb hbox hg; have hcz17_0 := cz_ BK356.out 0 (.int .i64 a0_0); have hcz17_1 := cz_ BK356.out 1 (.int .i64 a0_1); have hcz17_2 := cz_ BK356.out 2 (.string a0_2); have hfz17_0 := blk_frozen BK356.out 0; have hfz17_1 := blk_frozen BK356.out 1; have hfz17_2 := blk_frozen BK356.out 2) | ((with_reducible refine gate_callee (f := 67) rfl ?_); refine gl_ 5 Tryd.func67 #[.int .i64 a0_0] ?_; (with_reducible refine (impl_isRoot.calls a0_0 false _ A2.out ?side1).mono ?_); (case side1 => exact Glob.below HG.out (bel_)); rintro e w' ⟨rfl, ⟨nd, rfl⟩⟩; refine ⟨_, rfl, ?_⟩) | ((with_reducible refine gate_callee (f := 94) rfl ?_); refine gl_ 16 Tryd.func94 #[.int .i64 a0_0] ?_; (with_reducible refine (impl_isMade.calls a0_0 true _ A9.out ?side1).mono ?_); (case side1 => exact Glob.below HG.out (bel_)); rintro e w' ⟨rfl, ⟨nd, rfl⟩⟩; refine ⟨_, rfl, ?_⟩))
     go_ret
     exact ⟨fi_, bel_⟩
   ·rw [if_neg c11] at H
    have c11b0 : decide (1 ≤ a0_1) = false := decide_eq_false c11
    clear c11
    obtain rfl := Option.some.inj H
    go_enter Tryd.func66, Tryd.ntmps66
    go_wp2_with (first | ((with_reducible refine gate_dst (N := 1) rfl ?_); refine bx_ 1 (#[.int .i64 a0_0, .int .i64 a0_1, .string a0_2]) 37 ?_; intro gb356 hg w18 hbox hb; have n0_ := Aside0.mk (below_step (bel_) hb); have n1_ := Aside0.mk (hbox); have n2_ := Aside0.mk ((by rw [hg]; exact (below_size (bel_)) : w.heap.size ≤ gb356)); have n3_ := Aside0.mk ((by rw [hg]; exact (below_size (bel_)) : w.heap.size ≤ gb356)); clear HB; have HB := n0_; have BK356 := n1_; have GW356 := n2_; have GE356 := n3_; clear n0_ n1_ n2_ n3_; clear hb hbox hg; have hcz19_0 := cz_ BK356.out 0 (.int .i64 a0_0); have hcz19_1 := cz_ BK356.out 1 (.int .i64 a0_1); have hcz19_2 := cz_ BK356.out 2 (.string a0_2); have hfz19_0 := blk_frozen BK356.out 0; have hfz19_1 := blk_frozen BK356.out 1; have hfz19_2 := blk_frozen BK356.out 2) | ((with_reducible refine gate_callee (f := 67) rfl ?_); refine gl_ 5 Tryd.func67 #[.int .i64 a0_0] ?_; (with_reducible refine (impl_isRoot.calls a0_0 false _ A2.out ?side1).mono ?_); (case side1 => exact Glob.below HG.out (bel_)); rintro e w' ⟨rfl, ⟨nd, rfl⟩⟩; refine ⟨_, rfl, ?_⟩) | ((with_reducible refine gate_callee (f := 94) rfl ?_); refine gl_ 16 Tryd.func94 #[.int .i64 a0_0] ?_; (with_reducible refine (impl_isMade.calls a0_0 true _ A9.out ?side1).mono ?_); (case side1 => exact Glob.below HG.out (bel_)); rintro e w' ⟨rfl, ⟨nd, rfl⟩⟩; refine ⟨_, rfl, ?_⟩))
    go_ret
    exact ⟨fi_, bel_⟩
  ·replace c10 := Bool.eq_false_iff.mpr c10
   subst c10
   have H1 : (some false) = some r := by rw [if_neg (show ¬ (false = true) by decide)] at H; exact H
   clear H
   have H := H1
   clear H1
   obtain rfl := Option.some.inj H
   go_enter Tryd.func66, Tryd.ntmps66
   go_wp2_with (first | ((with_reducible refine gate_dst (N := 1) rfl ?_); refine bx_ 1 (#[.int .i64 a0_0, .int .i64 a0_1, .string a0_2]) 37 ?_; intro gb356 hg w20 hbox hb; have n0_ := Aside0.mk (below_step (bel_) hb); have n1_ := Aside0.mk (hbox); have n2_ := Aside0.mk ((by rw [hg]; exact (below_size (bel_)) : w.heap.size ≤ gb356)); have n3_ := Aside0.mk ((by rw [hg]; exact (below_size (bel_)) : w.heap.size ≤ gb356)); clear HB; have HB := n0_; have BK356 := n1_; have GW356 := n2_; have GE356 := n3_; clear n0_ n1_ n2_ n3_; clear hb hbox hg; have hcz21_0 := cz_ BK356.out 0 (.int .i64 a0_0); have hcz21_1 := cz_ BK356.out 1 (.int .i64 a0_1); have hcz21_2 := cz_ BK356.out 2 (.string a0_2); have hfz21_0 := blk_frozen BK356.out 0; have hfz21_1 := blk_frozen BK356.out 1; have hfz21_2 := blk_frozen BK356.out 2) | ((with_reducible refine gate_callee (f := 67) rfl ?_); refine gl_ 5 Tryd.func67 #[.int .i64 a0_0] ?_; (with_reducible refine (impl_isRoot.calls a0_0 false _ A2.out ?side1).mono ?_); (case side1 => exact Glob.below HG.out (bel_)); rintro e w' ⟨rfl, ⟨nd, rfl⟩⟩; refine ⟨_, rfl, ?_⟩) | ((with_reducible refine gate_callee (f := 94) rfl ?_); refine gl_ 16 Tryd.func94 #[.int .i64 a0_0] ?_; (with_reducible refine (impl_isMade.calls a0_0 false _ A9.out ?side1).mono ?_); (case side1 => exact Glob.below HG.out (bel_)); rintro e w' ⟨rfl, ⟨nd, rfl⟩⟩; refine ⟨_, rfl, ?_⟩))
   go_ret
   exact ⟨fi_, bel_⟩

def impl_placeOk.f (a0 : Int) (a1 : Int) : Option (Bool) := (impl_isMade.f a0).bind fun t362 => (if t362 = true then (if a1 = 0 then (some true) else ((impl_isMade.f a1).bind fun t363 => (some t363))) else ((impl_isRoot.f a0).bind fun t364 => (if t364 = true then (if a1 = 0 then (some true) else ((impl_isMade.f a1).bind fun t365 => (some t365))) else (some false))))
set_option maxHeartbeats 8000000 in
set_option maxRecDepth 100000 in
theorem impl_placeOk.calls (a0 : Int) (a1 : Int) (r : Bool) (w : World) (h : impl_placeOk.f a0 a1 = some r) (hG : Glob w) :
  Calls Tryd.prog 97 #[.int .i64 a0, .int .i64 a1] w fun e w' => e = .returned (.bool r) ∧ Drawn0 w w' := by
 have HG := Aside0.mk hG
 clear hG
 unfold impl_placeOk.f at h
 have H := h
 clear h
 replace H := Option.bind_eq_some_iff.mp H
 obtain ⟨t362, A30, H⟩ := H
 try dsimp only at H
 have A3 := Aside0.mk A30
 clear A30
 by_cases c4 : t362 = true
 ·subst c4
  have H1 : (if a1 = 0 then (some true) else ((impl_isMade.f a1).bind fun t363 => (some t363))) = some r := by rw [if_pos rfl] at H; exact H
  clear H
  have H := H1
  clear H1
  by_cases c5 : a1 = 0
  ·rw [if_pos c5] at H
   have c5b0 : (a1 == 0) = true := beq_iff_eq.mpr c5
   have c5b1 : (a1 != 0) = false := bne_eq_false_iff_eq.mpr c5
   clear c5
   obtain rfl := Option.some.inj H
   go_enter Tryd.func97, Tryd.ntmps97
   go_wp2_with (first | ((with_reducible refine gate_callee (f := 94) rfl ?_); refine gl_ 6 Tryd.func94 #[.int .i64 a0] ?_; (with_reducible refine (impl_isMade.calls a0 true _ A3.out ?side1).mono ?_); (case side1 => exact hg_); rintro e w' ⟨rfl, ⟨nd, rfl⟩⟩; refine ⟨_, rfl, ?_⟩))
   go_ret
   exact ⟨si_, by repeat (first | exact Drawn0.refl _ | apply Drawn0.step)⟩
  ·rw [if_neg c5] at H
   have c5b0 : (a1 == 0) = false := beq_eq_false_iff_ne.mpr c5
   have c5b1 : (a1 != 0) = true := bne_iff_ne.mpr c5
   replace H := Option.bind_eq_some_iff.mp H
   obtain ⟨t363, A60, H⟩ := H
   try dsimp only at H
   have A6 := Aside0.mk A60
   clear A60
   obtain rfl := Option.some.inj H
   go_enter Tryd.func97, Tryd.ntmps97
   go_wp2_with (first | ((with_reducible refine gate_callee (f := 94) rfl ?_); refine gl_ 6 Tryd.func94 #[.int .i64 a0] ?_; (with_reducible refine (impl_isMade.calls a0 true _ A3.out ?side1).mono ?_); (case side1 => exact hg_); rintro e w' ⟨rfl, ⟨nd, rfl⟩⟩; refine ⟨_, rfl, ?_⟩) | (go_at_call 94; (with_reducible refine (impl_isMade.calls a1 t363 _ A6.out ?side1).mono ?_); (case side1 => exact hg_); rintro e w' ⟨rfl, ⟨nd, rfl⟩⟩))
   go_ret
   exact ⟨si_, by repeat (first | exact Drawn0.refl _ | apply Drawn0.step)⟩
 ·replace c4 := Bool.eq_false_iff.mpr c4
  subst c4
  have H1 : ((impl_isRoot.f a0).bind fun t364 => (if t364 = true then (if a1 = 0 then (some true) else ((impl_isMade.f a1).bind fun t365 => (some t365))) else (some false))) = some r := by rw [if_neg (show ¬ (false = true) by decide)] at H; exact H
  clear H
  have H := H1
  clear H1
  replace H := Option.bind_eq_some_iff.mp H
  obtain ⟨t364, A70, H⟩ := H
  try dsimp only at H
  have A7 := Aside0.mk A70
  clear A70
  by_cases c8 : t364 = true
  ·subst c8
   have H1 : (if a1 = 0 then (some true) else ((impl_isMade.f a1).bind fun t365 => (some t365))) = some r := by rw [if_pos rfl] at H; exact H
   clear H
   have H := H1
   clear H1
   by_cases c9 : a1 = 0
   ·rw [if_pos c9] at H
    have c9b0 : (a1 == 0) = true := beq_iff_eq.mpr c9
    have c9b1 : (a1 != 0) = false := bne_eq_false_iff_eq.mpr c9
    clear c9
    obtain rfl := Option.some.inj H
    go_enter Tryd.func97, Tryd.ntmps97
    go_wp2_with (first | ((with_reducible refine gate_callee (f := 94) rfl ?_); refine gl_ 6 Tryd.func94 #[.int .i64 a0] ?_; (with_reducible refine (impl_isMade.calls a0 false _ A3.out ?side1).mono ?_); (case side1 => exact hg_); rintro e w' ⟨rfl, ⟨nd, rfl⟩⟩; refine ⟨_, rfl, ?_⟩) | (go_at_call 67; (with_reducible refine (impl_isRoot.calls a0 true _ A7.out ?side1).mono ?_); (case side1 => exact hg_); rintro e w' ⟨rfl, ⟨nd, rfl⟩⟩))
    go_ret
    exact ⟨si_, by repeat (first | exact Drawn0.refl _ | apply Drawn0.step)⟩
   ·rw [if_neg c9] at H
    have c9b0 : (a1 == 0) = false := beq_eq_false_iff_ne.mpr c9
    have c9b1 : (a1 != 0) = true := bne_iff_ne.mpr c9
    replace H := Option.bind_eq_some_iff.mp H
    obtain ⟨t365, A100, H⟩ := H
    try dsimp only at H
    have A10 := Aside0.mk A100
    clear A100
    obtain rfl := Option.some.inj H
    go_enter Tryd.func97, Tryd.ntmps97
    go_wp2_with (first | ((with_reducible refine gate_callee (f := 94) rfl ?_); refine gl_ 6 Tryd.func94 #[.int .i64 a0] ?_; (with_reducible refine (impl_isMade.calls a0 false _ A3.out ?side1).mono ?_); (case side1 => exact hg_); rintro e w' ⟨rfl, ⟨nd, rfl⟩⟩; refine ⟨_, rfl, ?_⟩) | (go_at_call 67; (with_reducible refine (impl_isRoot.calls a0 true _ A7.out ?side1).mono ?_); (case side1 => exact hg_); rintro e w' ⟨rfl, ⟨nd, rfl⟩⟩) | (go_at_call 94; (with_reducible refine (impl_isMade.calls a1 t365 _ A10.out ?side1).mono ?_); (case side1 => exact hg_); rintro e w' ⟨rfl, ⟨nd, rfl⟩⟩))
    go_ret
    exact ⟨si_, by repeat (first | exact Drawn0.refl _ | apply Drawn0.step)⟩
  ·replace c8 := Bool.eq_false_iff.mpr c8
   subst c8
   have H1 : (some false) = some r := by rw [if_neg (show ¬ (false = true) by decide)] at H; exact H
   clear H
   have H := H1
   clear H1
   obtain rfl := Option.some.inj H
   go_enter Tryd.func97, Tryd.ntmps97
   go_wp2_with (first | ((with_reducible refine gate_callee (f := 94) rfl ?_); refine gl_ 6 Tryd.func94 #[.int .i64 a0] ?_; (with_reducible refine (impl_isMade.calls a0 false _ A3.out ?side1).mono ?_); (case side1 => exact hg_); rintro e w' ⟨rfl, ⟨nd, rfl⟩⟩; refine ⟨_, rfl, ?_⟩) | (go_at_call 67; (with_reducible refine (impl_isRoot.calls a0 false _ A7.out ?side1).mono ?_); (case side1 => exact hg_); rintro e w' ⟨rfl, ⟨nd, rfl⟩⟩))
   go_ret
   exact ⟨si_, by repeat (first | exact Drawn0.refl _ | apply Drawn0.step)⟩










end Go.Proofs.YtlkheeegkifblaaDoor.P
namespace Go.Proofs.YtlkheeegkifblaaDoor.P
open Go.RowKit Go.Proofs.YtlkheeegkifblaaDoorW.PrintWords Go.Proofs.YtlkheeegkifblaaDoorW.PrintLast Go.Proofs.YtlkheeegkifblaaDoorW.PrintMore
theorem quiet_d {P : Program} {f : FuncId} {args : Array Value} {w : World} {d n : Nat} {v : Value} (h : Calls P f args (w.drewN (d + n)) fun e w' => e = .returned v ∧ Drawn0 (w.drewN (d + n)) w') :
  Calls P f args (w.drewN (d + n)) fun e w'' => e = .returned v ∧ ∃ m, w'' = w.drewN (d + m) :=
 h.mono fun _ _ ⟨he, ⟨m, hm⟩⟩ => ⟨he, n + m, by rw [hm, World.drewN_drewN, Nat.add_assoc]⟩
def impl_changeOf.f (k : Nat) (a0 a1 a2 a3 : Int) (a4 : ByteArray) : Option Bool :=
 (impl_isMade.f a1).bind fun m => if m = true then
  (if a0 = 1 then ((impl_placeOk.f a2 a3).bind fun p => if p = true then impl_textOk.f k a4 else some false)
  else if a0 = 2 then (if a2 = 0 then (if a3 = 0 then impl_textOk.f k a4 else some false) else some false)
  else if a0 = 3 then ((impl_placeOk.f a2 a3).bind fun p => if p = true then some (a4.toList.isEmpty) else some false)
  else some false) else some false
theorem impl_changeOf.mono (a0 a1 a2 a3 : Int) (a4 : ByteArray) (k : Nat) : LeO (impl_changeOf.f k a0 a1 a2 a3 a4) (impl_changeOf.f (k + 1) a0 a1 a2 a3 a4) := by
 unfold impl_changeOf.f
 repeat' first
   | (with_reducible exact impl_textOk.mono _ _)
   | (with_reducible exact LeO.refl _)
   | (with_reducible refine LeO.ite ?_ ?_)
   | (with_reducible refine LeO.bind ?_ (fun _ => ?_))
def ChV (a0 a1 a2 a3 : Int) (a4 : ByteArray) : Value :=
 if a0 = 1 then .iface 114 (.agg #[.int .i64 a1, .int .i64 a2, .int .i64 a3, .string a4])
 else if a0 = 2 then .iface 117 (.agg #[.int .i64 a1, .string a4])
 else .iface 119 (.agg #[.int .i64 a1, .int .i64 a2, .int .i64 a3])
def ChPost (w : World) (a0 a1 a2 a3 : Int) (a4 : ByteArray) (r : Bool) (e : Ending) (w' : World) : Prop :=
 ∃ v : Value, e = .returned (.tuple #[v, .bool r]) ∧ (r = true → v = ChV a0 a1 a2 a3 a4) ∧ Below w.heap.size w w'
theorem below_box0 (w : World) (o : Obj) : Below w.heap.size w (w.alloc o) := (Below.refl _ _).alloc (Nat.le_refl _) _
set_option maxHeartbeats 4000000 in
set_option maxRecDepth 100000 in
theorem changeOf_unmade (a0 a1 a2 a3 : Int) (a4 : ByteArray) (w : World) (hm : impl_isMade.f a1 = some false) (hG : Glob w) :
  Calls Tryd.prog 63 #[.agg #[.int .i64 a0, .int .i64 a1, .int .i64 a2, .int .i64 a3, .string a4]] w (ChPost w a0 a1 a2 a3 a4 false) := by
 have hGa : Glob (w.alloc (.cells #[.int .i64 a0, .int .i64 a1, .int .i64 a2, .int .i64 a3, .string a4] 27)) := hG.below (below_box0 w _)
 have HG := Aside0.mk hGa
 clear hGa hG
 have Hm := Aside0.mk hm
 clear hm
 go_enter Tryd.func63, Tryd.ntmps63
 go_wp2_with (go_at_call 94; refine (impl_isMade.calls a1 _ _ Hm.out HG.out).mono ?_; rintro e w' ⟨rfl, ⟨nd, rfl⟩⟩)
 go_ret2
 exact ⟨_, rfl, (fun h => by cases h), by (with_reducible repeat (first | exact below_box0 w _ | apply pw_below_drewN))⟩
set_option maxHeartbeats 4000000 in
set_option maxRecDepth 100000 in
theorem changeOf_make (k : Nat) (a0 a1 a2 a3 : Int) (a4 : ByteArray) (r : Bool) (w : World) (hm : impl_isMade.f a1 = some true) (hp : impl_placeOk.f a2 a3 = some true) (ht : impl_textOk.f k a4 = some r) (h0 : a0 = 1) (hG : Glob w) :
  Calls Tryd.prog 63 #[.agg #[.int .i64 a0, .int .i64 a1, .int .i64 a2, .int .i64 a3, .string a4]] w (ChPost w a0 a1 a2 a3 a4 r) := by
 have hGa : Glob (w.alloc (.cells #[.int .i64 a0, .int .i64 a1, .int .i64 a2, .int .i64 a3, .string a4] 27)) := hG.below (below_box0 w _)
 have HG := Aside0.mk hGa
 clear hGa hG
 subst h0
 have Hm := Aside0.mk hm
 have Hp := Aside0.mk hp
 have Ht := Aside0.mk ht
 clear hm hp ht
 go_enter Tryd.func63, Tryd.ntmps63
 go_wp2_with (go_at_call 94; refine (impl_isMade.calls a1 _ _ Hm.out HG.out).mono ?_; rintro e w' ⟨rfl, ⟨nd, rfl⟩⟩)
 go_quiet ((first | (go_at_call 97; refine quiet_d (impl_placeOk.calls a2 a3 true _ Hp.out (by (with_reducible repeat (first | exact HG.out | apply Glob.drewN | apply Glob.drew))))) | (go_at_call 98; refine quiet_d (impl_textOk.calls k a4 r _ Ht.out))))
 go_wp2
 go_ret2
 exact ⟨_, rfl, fun _ => rfl, by (with_reducible repeat (first | exact below_box0 w _ | apply pw_below_drewN))⟩
set_option maxHeartbeats 4000000 in
set_option maxRecDepth 100000 in
theorem changeOf_make_no (a0 a1 a2 a3 : Int) (a4 : ByteArray) (w : World) (hm : impl_isMade.f a1 = some true) (hp : impl_placeOk.f a2 a3 = some false) (h0 : a0 = 1) (hG : Glob w) :
  Calls Tryd.prog 63 #[.agg #[.int .i64 a0, .int .i64 a1, .int .i64 a2, .int .i64 a3, .string a4]] w (ChPost w a0 a1 a2 a3 a4 false) := by
 have hGa : Glob (w.alloc (.cells #[.int .i64 a0, .int .i64 a1, .int .i64 a2, .int .i64 a3, .string a4] 27)) := hG.below (below_box0 w _)
 have HG := Aside0.mk hGa
 clear hGa hG
 subst h0
 have Hm := Aside0.mk hm
 have Hp := Aside0.mk hp
 clear hm hp
 go_enter Tryd.func63, Tryd.ntmps63
 go_wp2_with (go_at_call 94; refine (impl_isMade.calls a1 _ _ Hm.out HG.out).mono ?_; rintro e w' ⟨rfl, ⟨nd, rfl⟩⟩)
 go_quiet ((go_at_call 97; refine quiet_d (impl_placeOk.calls a2 a3 false _ Hp.out (by (with_reducible repeat (first | exact HG.out | apply Glob.drewN | apply Glob.drew))))))
 go_wp2
 go_ret2
 exact ⟨_, rfl, (fun h => by cases h), by (with_reducible repeat (first | exact below_box0 w _ | apply pw_below_drewN))⟩
set_option maxHeartbeats 4000000 in
set_option maxRecDepth 100000 in
theorem changeOf_text (k : Nat) (a0 a1 a2 a3 : Int) (a4 : ByteArray) (r : Bool) (w : World) (hm : impl_isMade.f a1 = some true) (h2 : a2 = 0) (h3 : a3 = 0) (ht : impl_textOk.f k a4 = some r) (h0 : a0 = 2) (hG : Glob w) :
  Calls Tryd.prog 63 #[.agg #[.int .i64 a0, .int .i64 a1, .int .i64 a2, .int .i64 a3, .string a4]] w (ChPost w a0 a1 a2 a3 a4 r) := by
 have hGa : Glob (w.alloc (.cells #[.int .i64 a0, .int .i64 a1, .int .i64 a2, .int .i64 a3, .string a4] 27)) := hG.below (below_box0 w _)
 have HG := Aside0.mk hGa
 clear hGa hG
 subst h0 h2 h3
 have Hm := Aside0.mk hm
 have Ht := Aside0.mk ht
 clear hm ht
 go_enter Tryd.func63, Tryd.ntmps63
 go_wp2_with (go_at_call 94; refine (impl_isMade.calls a1 _ _ Hm.out HG.out).mono ?_; rintro e w' ⟨rfl, ⟨nd, rfl⟩⟩)
 go_quiet ((go_at_call 98; refine quiet_d (impl_textOk.calls k a4 r _ Ht.out)))
 go_wp2
 go_ret2
 exact ⟨_, rfl, fun _ => rfl, by (with_reducible repeat (first | exact below_box0 w _ | apply pw_below_drewN))⟩
set_option maxHeartbeats 4000000 in
set_option maxRecDepth 100000 in
theorem changeOf_text_no2 (a0 a1 a2 a3 : Int) (a4 : ByteArray) (w : World) (hm : impl_isMade.f a1 = some true) (h2 : a2 ≠ 0) (h0 : a0 = 2) (hG : Glob w) :
  Calls Tryd.prog 63 #[.agg #[.int .i64 a0, .int .i64 a1, .int .i64 a2, .int .i64 a3, .string a4]] w (ChPost w a0 a1 a2 a3 a4 false) := by
 have hGa : Glob (w.alloc (.cells #[.int .i64 a0, .int .i64 a1, .int .i64 a2, .int .i64 a3, .string a4] 27)) := hG.below (below_box0 w _)
 have HG := Aside0.mk hGa
 clear hGa hG
 subst h0
 have e2 : (a2 == 0) = false := beq_eq_false_iff_ne.2 h2
 clear h2
 have Hm := Aside0.mk hm
 clear hm
 go_enter Tryd.func63, Tryd.ntmps63
 go_wp2_with (go_at_call 94; refine (impl_isMade.calls a1 _ _ Hm.out HG.out).mono ?_; rintro e w' ⟨rfl, ⟨nd, rfl⟩⟩)
 go_quiet (fail)
 go_wp2
 go_ret2
 exact ⟨_, rfl, (fun h => by cases h), by (with_reducible repeat (first | exact below_box0 w _ | apply pw_below_drewN))⟩
set_option maxHeartbeats 4000000 in
set_option maxRecDepth 100000 in
theorem changeOf_text_no3 (a0 a1 a2 a3 : Int) (a4 : ByteArray) (w : World) (hm : impl_isMade.f a1 = some true) (h2 : a2 = 0) (h3 : a3 ≠ 0) (h0 : a0 = 2) (hG : Glob w) :
  Calls Tryd.prog 63 #[.agg #[.int .i64 a0, .int .i64 a1, .int .i64 a2, .int .i64 a3, .string a4]] w (ChPost w a0 a1 a2 a3 a4 false) := by
 have hGa : Glob (w.alloc (.cells #[.int .i64 a0, .int .i64 a1, .int .i64 a2, .int .i64 a3, .string a4] 27)) := hG.below (below_box0 w _)
 have HG := Aside0.mk hGa
 clear hGa hG
 subst h0 h2
 have e3 : (a3 == 0) = false := beq_eq_false_iff_ne.2 h3
 clear h3
 have Hm := Aside0.mk hm
 clear hm
 go_enter Tryd.func63, Tryd.ntmps63
 go_wp2_with (go_at_call 94; refine (impl_isMade.calls a1 _ _ Hm.out HG.out).mono ?_; rintro e w' ⟨rfl, ⟨nd, rfl⟩⟩)
 go_quiet (fail)
 go_wp2
 go_ret2
 exact ⟨_, rfl, (fun h => by cases h), by (with_reducible repeat (first | exact below_box0 w _ | apply pw_below_drewN))⟩
set_option maxHeartbeats 4000000 in
set_option maxRecDepth 100000 in
theorem changeOf_move (a0 a1 a2 a3 : Int) (a4 : ByteArray) (w : World) (hm : impl_isMade.f a1 = some true) (hp : impl_placeOk.f a2 a3 = some true) (h0 : a0 = 3) (hG : Glob w) :
  Calls Tryd.prog 63 #[.agg #[.int .i64 a0, .int .i64 a1, .int .i64 a2, .int .i64 a3, .string a4]] w (ChPost w a0 a1 a2 a3 a4 a4.toList.isEmpty) := by
 have hGa : Glob (w.alloc (.cells #[.int .i64 a0, .int .i64 a1, .int .i64 a2, .int .i64 a3, .string a4] 27)) := hG.below (below_box0 w _)
 have HG := Aside0.mk hGa
 clear hGa hG
 subst h0
 have Hm := Aside0.mk hm
 have Hp := Aside0.mk hp
 clear hm hp
 go_enter Tryd.func63, Tryd.ntmps63
 go_wp2_with (go_at_call 94; refine (impl_isMade.calls a1 _ _ Hm.out HG.out).mono ?_; rintro e w' ⟨rfl, ⟨nd, rfl⟩⟩)
 go_quiet ((go_at_call 97; refine quiet_d (impl_placeOk.calls a2 a3 true _ Hp.out (by (with_reducible repeat (first | exact HG.out | apply Glob.drewN | apply Glob.drew))))))
 go_wp2
 go_ret2
 exact ⟨_, rfl, fun _ => rfl, by (with_reducible repeat (first | exact below_box0 w _ | apply pw_below_drewN))⟩
set_option maxHeartbeats 4000000 in
set_option maxRecDepth 100000 in
theorem changeOf_move_no (a0 a1 a2 a3 : Int) (a4 : ByteArray) (w : World) (hm : impl_isMade.f a1 = some true) (hp : impl_placeOk.f a2 a3 = some false) (h0 : a0 = 3) (hG : Glob w) :
  Calls Tryd.prog 63 #[.agg #[.int .i64 a0, .int .i64 a1, .int .i64 a2, .int .i64 a3, .string a4]] w (ChPost w a0 a1 a2 a3 a4 false) := by
 have hGa : Glob (w.alloc (.cells #[.int .i64 a0, .int .i64 a1, .int .i64 a2, .int .i64 a3, .string a4] 27)) := hG.below (below_box0 w _)
 have HG := Aside0.mk hGa
 clear hGa hG
 subst h0
 have Hm := Aside0.mk hm
 have Hp := Aside0.mk hp
 clear hm hp
 go_enter Tryd.func63, Tryd.ntmps63
 go_wp2_with (go_at_call 94; refine (impl_isMade.calls a1 _ _ Hm.out HG.out).mono ?_; rintro e w' ⟨rfl, ⟨nd, rfl⟩⟩)
 go_quiet ((go_at_call 97; refine quiet_d (impl_placeOk.calls a2 a3 false _ Hp.out (by (with_reducible repeat (first | exact HG.out | apply Glob.drewN | apply Glob.drew))))))
 go_wp2
 go_ret2
 exact ⟨_, rfl, (fun h => by cases h), by (with_reducible repeat (first | exact below_box0 w _ | apply pw_below_drewN))⟩
set_option maxHeartbeats 4000000 in
set_option maxRecDepth 100000 in
theorem changeOf_kind (a0 a1 a2 a3 : Int) (a4 : ByteArray) (w : World) (hm : impl_isMade.f a1 = some true) (h1 : a0 ≠ 1) (h2 : a0 ≠ 2) (h3 : a0 ≠ 3) (hG : Glob w) :
  Calls Tryd.prog 63 #[.agg #[.int .i64 a0, .int .i64 a1, .int .i64 a2, .int .i64 a3, .string a4]] w (ChPost w a0 a1 a2 a3 a4 false) := by
 have hGa : Glob (w.alloc (.cells #[.int .i64 a0, .int .i64 a1, .int .i64 a2, .int .i64 a3, .string a4] 27)) := hG.below (below_box0 w _)
 have HG := Aside0.mk hGa
 clear hGa hG
 have e1 : (a0 == 1) = false := beq_eq_false_iff_ne.2 h1
 have e2 : (a0 == 2) = false := beq_eq_false_iff_ne.2 h2
 have e3 : (a0 == 3) = false := beq_eq_false_iff_ne.2 h3
 clear h1 h2 h3
 have Hm := Aside0.mk hm
 clear hm
 go_enter Tryd.func63, Tryd.ntmps63
 go_wp2_with (go_at_call 94; refine (impl_isMade.calls a1 _ _ Hm.out HG.out).mono ?_; rintro e w' ⟨rfl, ⟨nd, rfl⟩⟩)
 go_ret2
 exact ⟨_, rfl, (fun h => by cases h), by (with_reducible repeat (first | exact below_box0 w _ | apply pw_below_drewN))⟩
theorem impl_changeOf.calls (k : Nat) (a0 a1 a2 a3 : Int) (a4 : ByteArray) (r : Bool) (w : World) (h : impl_changeOf.f k a0 a1 a2 a3 a4 = some r) (hG : Glob w) :
  Calls Tryd.prog 63 #[.agg #[.int .i64 a0, .int .i64 a1, .int .i64 a2, .int .i64 a3, .string a4]] w (ChPost w a0 a1 a2 a3 a4 r) := by
 unfold impl_changeOf.f at h
 obtain ⟨m, hm, h⟩ := Option.bind_eq_some_iff.1 h
 cases m with
 | false =>
  simp only [Bool.false_eq_true, if_false, Option.some.injEq] at h
  subst h
  exact changeOf_unmade a0 a1 a2 a3 a4 w hm hG
 | true =>
  simp only [if_true] at h
  by_cases h1 : a0 = 1
  ·rw [if_pos h1] at h
   obtain ⟨p, hp, h⟩ := Option.bind_eq_some_iff.1 h
   cases p with
   | false =>
    simp only [Bool.false_eq_true, if_false, Option.some.injEq] at h
    subst h
    exact changeOf_make_no a0 a1 a2 a3 a4 w hm hp h1 hG
   | true =>
    simp only [if_true] at h
    exact changeOf_make k a0 a1 a2 a3 a4 r w hm hp h h1 hG
  ·rw [if_neg h1] at h
   by_cases h2 : a0 = 2
   ·rw [if_pos h2] at h
    by_cases g2 : a2 = 0
    ·rw [if_pos g2] at h
     by_cases g3 : a3 = 0
     ·rw [if_pos g3] at h
      exact changeOf_text k a0 a1 a2 a3 a4 r w hm g2 g3 h h2 hG
     ·rw [if_neg g3] at h
      simp only [Option.some.injEq] at h
      subst h
      exact changeOf_text_no3 a0 a1 a2 a3 a4 w hm g2 g3 h2 hG
    ·rw [if_neg g2] at h
     simp only [Option.some.injEq] at h
     subst h
     exact changeOf_text_no2 a0 a1 a2 a3 a4 w hm g2 h2 hG
   ·rw [if_neg h2] at h
    by_cases h3 : a0 = 3
    ·rw [if_pos h3] at h
     obtain ⟨p, hp, h⟩ := Option.bind_eq_some_iff.1 h
     cases p with
     | false =>
      simp only [Bool.false_eq_true, if_false, Option.some.injEq] at h
      subst h
      exact changeOf_move_no a0 a1 a2 a3 a4 w hm hp h3 hG
     | true =>
      simp only [if_true, Option.some.injEq] at h
      subst h
      exact changeOf_move a0 a1 a2 a3 a4 w hm hp h3 hG
    ·rw [if_neg h3] at h
     simp only [Option.some.injEq] at h
     subst h
     exact changeOf_kind a0 a1 a2 a3 a4 w hm h1 h2 h3 hG
def impl_OpOk.f (k : Nat) (a0 a1 a2 a3 : Int) (a4 : ByteArray) : Option Bool := impl_changeOf.f k a0 a1 a2 a3 a4
theorem impl_OpOk.mono (a0 a1 a2 a3 : Int) (a4 : ByteArray) (k : Nat) : LeO (impl_OpOk.f k a0 a1 a2 a3 a4) (impl_OpOk.f (k + 1) a0 a1 a2 a3 a4) := impl_changeOf.mono a0 a1 a2 a3 a4 k
set_option maxHeartbeats 4000000 in
theorem impl_OpOk.calls (k : Nat) (a0_0 a0_1 a0_2 a0_3 : Int) (a0_4 : ByteArray) (r : Bool) (w : World) (h : impl_OpOk.f k a0_0 a0_1 a0_2 a0_3 a0_4 = some r) (hG : Glob w) :
  Calls Tryd.prog 36 #[.agg #[.int .i64 a0_0, .int .i64 a0_1, .int .i64 a0_2, .int .i64 a0_3, .string a0_4]] w fun e w' => e = .returned (.bool r) ∧ Below w.heap.size w w' := by
 have hGa : Glob (w.alloc (.cells #[.int .i64 a0_0, .int .i64 a0_1, .int .i64 a0_2, .int .i64 a0_3, .string a0_4] 27)) := hG.below (below_box0 w _)
 have HG := Aside0.mk hGa
 have HH := Aside0.mk h
 clear hGa hG h
 have hu := Tryd.underlying27
 go_enter Tryd.func36, Tryd.ntmps36
 go_wp2_with (go_at_call 63; refine (impl_changeOf.calls k a0_0 a0_1 a0_2 a0_3 a0_4 r _ HH.out HG.out).mono ?_; rintro e w1 ⟨v, rfl, _, hb⟩; have HB := Aside0.mk hb; clear hb)
 go_ret
 exact ⟨rfl, (below_box0 w _).trans (HB.out.mono (by simp))⟩
end Go.Proofs.YtlkheeegkifblaaDoor.P
namespace Go.Proofs.YtlkheeegkifblaaDoor.PL
open Go.RowKit Go.Proofs.YtlkheeegkifblaaDoor.P Go.Proofs.YtlkheeegkifblaaDoorW.PrintWords Go.Proofs.YtlkheeegkifblaaDoorW.PrintLast
theorem evnow {α : Type} (a : α) : Ev (fun _ => some a) a := ⟨0, fun _ _ => rfl⟩
theorem ev_neg {α : Type} {c : Prop} [Decidable c] {f g : Nat → Option α} {r : α} (h : ¬ c) (k : Ev g r) : Ev (fun n => if c then f n else g n) r := Ev.congr (fun _ => if_neg h) k
theorem ev_pos {α : Type} {c : Prop} [Decidable c] {f g : Nat → Option α} {r : α} (h : c) (k : Ev f r) : Ev (fun n => if c then f n else g n) r := Ev.congr (fun _ => if_pos h) k
theorem wrapS (i : Int) (h0 : 0 ≤ i) (h : i ≤ 4611686018427387904) : wrap64 (i + 1) = i + 1 := by unfold wrap64; omega
theorem wrapT (i : Int) (h0 : 0 ≤ i) (h : i + 1 ≤ 9223372036854775807) : wrap64 (i + 1) = i + 1 := by unfold wrap64; omega
def I64 (a : Int) : Prop := -9223372036854775808 ≤ a ∧ a ≤ 9223372036854775807

def madeB (a : Int) : Bool := decide (ownI a ≠ 0) && decide (ownI a ≠ 1)
def rootB (a : Int) : Bool := decide (1 ≤ a) && decide (a ≤ 3)
theorem in_f (a b c : Int) : spec_l6In.f a b c = some (decide (b ≤ a) && decide (a ≤ c)) := by
 unfold spec_l6In.f
 by_cases h : a ≥ b
 ·rw [if_pos h]; simp [h]
 ·rw [if_neg h]; simp [show ¬ b ≤ a from h]
theorem ownI_out (a : Int) (h : a < 0 ∨ 37 ≤ a) : ownI a = 0 := by
 unfold ownI
 rw [if_neg (by omega)]
theorem small_made : ∀ n : Nat, n < 37 → (decide (1 ≤ Int.tdiv (n : Int) 10) && decide (Int.tdiv (n : Int) 10 ≤ 3)) = true → (decide (1 ≤ Int.tmod (n : Int) 10) && decide (Int.tmod (n : Int) 10 ≤ 6)) = madeB n := by decide
theorem small_unmade : ∀ n : Nat, n < 37 → (decide (1 ≤ Int.tdiv (n : Int) 10) && decide (Int.tdiv (n : Int) 10 ≤ 3)) = false → madeB n = false := by decide
theorem small_root : ∀ n : Nat, n < 37 → (decide (ownI n ≠ 0) && decide (ownI n - 1 = 0)) = rootB n := by decide
theorem tdiv_wrap (a : Int) (h : I64 a) : wrap64 (Int.tdiv a 10) = Int.tdiv a 10 := by
 obtain ⟨h1, h2⟩ := h
 have : Int.tdiv a 10 ≤ 9223372036854775807 ∧ -9223372036854775808 ≤ Int.tdiv a 10 := by
  rcases Int.le_total 0 a with h0 | h0
  ·rw [Int.tdiv_eq_ediv_of_nonneg h0]; omega
  ·have e : Int.tdiv a 10 = -(Int.tdiv (-a) 10) := by rw [Int.neg_tdiv, Int.neg_neg]
   rw [e, Int.tdiv_eq_ediv_of_nonneg (by omega)]; omega
 unfold wrap64; omega
theorem made_f (a : Int) (h : I64 a) : spec_l1Made.f a = some (madeB a) := by
 unfold spec_l1Made.f
 rw [in_f, in_f, tdiv_wrap a h]
 simp only [Option.bind_some]
 by_cases hs : 0 ≤ a ∧ a < 37
 ·obtain ⟨n, rfl⟩ : ∃ n : Nat, a = n := ⟨a.toNat, by omega⟩
  have hn : n < 37 := by omega
  cases hd : (decide (1 ≤ Int.tdiv (n : Int) 10) && decide (Int.tdiv (n : Int) 10 ≤ 3)) with
  | true => rw [if_pos rfl, small_made n hn hd]
  | false => rw [if_neg (by decide), small_unmade n hn hd]
 ·have ho : madeB a = false := by unfold madeB; rw [ownI_out a (by omega)]; rfl
  rw [ho]
  rcases Int.lt_or_le a 0 with h0 | h0
  ·have e : Int.tdiv a 10 = -(Int.tdiv (-a) 10) := by rw [Int.neg_tdiv, Int.neg_neg]
   have h1 : Int.tdiv a 10 ≤ 0 := by rw [e, Int.tdiv_eq_ediv_of_nonneg (by omega)]; omega
   have h2 : decide (1 ≤ Int.tdiv a 10) = false := decide_eq_false (by omega)
   rw [h2]
   simp
  ·have e1 := Int.tdiv_eq_ediv_of_nonneg (b := 10) h0
   have e2 : Int.tmod a 10 = a % 10 := Int.tmod_eq_emod_of_nonneg h0
   rw [e1, e2]
   by_cases h3 : a / 10 ≤ 3
   ·have h4 : decide (a % 10 ≤ 6) = false := decide_eq_false (by omega)
    rw [h4]
    simp
   ·have h4 : decide (a / 10 ≤ 3) = false := decide_eq_false h3
    rw [h4]
    simp
theorem isMade_f (a : Int) : impl_isMade.f a = some (madeB a) := by
 unfold impl_isMade.f impl_RowWho.f madeB
 simp only [Option.bind_some]
 by_cases h0 : ownI a = 0
 ·rw [if_pos h0]; simp [h0]
 ·rw [if_neg h0]
  by_cases h1 : ownI a = 1
  ·simp [h1]
  ·simp [h0, h1]
   omega
theorem isRoot_f (a : Int) : impl_isRoot.f a = some (rootB a) := by
 unfold impl_isRoot.f impl_RowWho.f
 simp only [Option.bind_some]
 by_cases hs : 0 ≤ a ∧ a < 37
 ·obtain ⟨n, rfl⟩ : ∃ n : Nat, a = n := ⟨a.toNat, by omega⟩
  have := small_root n (by omega)
  rw [← this]
  by_cases h0 : ownI (n : Int) = 0
  ·rw [if_pos h0]; simp [h0]
  ·rw [if_neg h0]
   by_cases h1 : ownI (n : Int) - 1 = 0 <;> simp [h0, h1]
 ·rw [if_pos (ownI_out a (by omega))]
  have : rootB a = false := by unfold rootB; simp; omega
  rw [this]
  simp
theorem root_f (a : Int) : spec_l1Root.f a = some (rootB a) := by
 unfold spec_l1Root.f
 rw [in_f]
 rfl
def idB (a : Int) : Bool := rootB a || madeB a
theorem id_f (a : Int) (h : I64 a) : spec_l3Id.f a = some (idB a) := by
 unfold spec_l3Id.f idB
 rw [root_f, made_f a h]
 simp only [Option.bind_some]
 cases rootB a <;> simp
def placeB (u a : Int) : Bool := idB u && (decide (a = 0) || madeB a)
theorem place_f (u a : Int) : impl_placeOk.f u a = some (placeB u a) := by
 unfold impl_placeOk.f placeB idB
 rw [isMade_f, isMade_f, isRoot_f]
 simp only [Option.bind_some]
 by_cases h : a = 0
 ·simp only [h, if_true]
  cases madeB u <;> cases rootB u <;> simp
 ·simp only [h, if_false]
  cases madeB u <;> cases rootB u <;> simp
def textFrom (s : ByteArray) (i : Nat) : Nat → Bool
 | 0 => true
 | n + 1 => decide (97 ≤ bt s i) && decide (bt s i ≤ 100) && textFrom s (i + 1) n
def textB (s : ByteArray) : Bool := textFrom s 0 s.size && decide (s.size ≤ 4)
theorem bt_range (s : ByteArray) (i : Int) : 0 ≤ bt s i ∧ bt s i ≤ 255 := by
 unfold bt
 split
 ·rename_i h
  have := (s[i.toNat]'h).toNat_lt
  omega
 ·omega
theorem text_l0 (s : ByteArray) (hs : s.size ≤ 9223372036854775807) : ∀ (n : Nat) (i : Nat), i + n = s.size → Ev (fun k => spec_l1Text.l0 k s i) (textFrom s i n && decide (s.size ≤ 4))
 | 0, i, h => by
  refine Ev.step (f := fun _ => some (decide ((s.size : Int) ≤ 4))) (fun k => ?_) ?_
  ·simp only [spec_l1Text.l0]; rw [if_neg (by omega)]
  ·have : decide ((s.size : Int) ≤ 4) = (textFrom s i 0 && decide (s.size ≤ 4)) := by simp [textFrom]; omega
   rw [this]; exact evnow _
 | n + 1, i, h => by
  have hw : wrap64 (bt s i) = bt s i := by have := bt_range s i; unfold wrap64; omega
  unfold textFrom
  cases ht : (decide (97 ≤ bt s i) && decide (bt s i ≤ 100)) with
  | true =>
   rw [Bool.true_and]
   refine Ev.step (fun k => ?_) (text_l0 s hs n (i + 1) (by omega))
   simp only [spec_l1Text.l0]
   rw [if_pos (by omega), if_pos (by omega), hw, in_f, ht, Option.bind_some, if_pos rfl, wrapT i (by omega) (by omega)]
   rfl
  | false =>
   rw [Bool.false_and, Bool.false_and]
   refine Ev.step (f := fun _ => some false) (fun k => ?_) (evnow _)
   simp only [spec_l1Text.l0]
   rw [if_pos (by omega), if_pos (by omega), hw, in_f, ht, Option.bind_some, if_neg (by decide)]
theorem text_f (s : ByteArray) (hs : s.size ≤ 9223372036854775807) : Ev (fun k => spec_l1Text.f k s) (textB s) := text_l0 s hs s.size 0 (by omega)
theorem itext_l0 (s : ByteArray) (hs : s.size ≤ 9223372036854775807) : ∀ (n : Nat) (i : Nat), i + n = s.size → Ev (fun k => impl_textOk.l0 k s i) (textFrom s i n)
 | 0, i, h => by
  refine Ev.step (f := fun _ => some true) (fun k => ?_) (evnow _)
  simp only [impl_textOk.l0]; rw [if_neg (by omega)]
 | n + 1, i, h => by
  unfold textFrom
  by_cases h1 : bt s i < 97
  ·have : decide (97 ≤ bt s i) = false := decide_eq_false (by omega)
   rw [this, Bool.false_and, Bool.false_and]
   refine Ev.step (f := fun _ => some false) (fun k => ?_) (evnow _)
   simp only [impl_textOk.l0]
   rw [if_pos (by omega), if_pos (by omega), if_pos h1]
  ·by_cases h2 : bt s i > 100
   ·have : decide (bt s i ≤ 100) = false := decide_eq_false (by omega)
    rw [this, Bool.and_false, Bool.false_and]
    refine Ev.step (f := fun _ => some false) (fun k => ?_) (evnow _)
    simp only [impl_textOk.l0]
    rw [if_pos (by omega), if_pos (by omega), if_neg h1, if_pos h2]
   ·have e1 : decide (97 ≤ bt s i) = true := decide_eq_true (by omega)
    have e2 : decide (bt s i ≤ 100) = true := decide_eq_true (by omega)
    rw [e1, e2, Bool.true_and, Bool.true_and]
    refine Ev.step (fun k => ?_) (itext_l0 s hs n (i + 1) (by omega))
    simp only [impl_textOk.l0]
    rw [if_pos (by omega), if_pos (by omega), if_neg h1, if_neg h2, wrapT i (by omega) (by omega)]
    rfl
theorem itext_f (s : ByteArray) (hs : s.size ≤ 9223372036854775807) : Ev (fun k => impl_textOk.f k s) (textB s) := by
 unfold impl_textOk.f textB
 by_cases h : (s.size : Int) > 4
 ·refine ev_pos h ?_
  have : decide (s.size ≤ 4) = false := decide_eq_false (by omega)
  rw [this, Bool.and_false]
  exact evnow _
 ·refine ev_neg h ?_
  have : decide (s.size ≤ 4) = true := decide_eq_true (by omega)
  rw [this, Bool.and_true]
  exact itext_l0 s hs s.size 0 (by omega)
theorem text_nil (s : ByteArray) (h : s.toList.isEmpty = true) : textB s = true := by
 have : s.size = 0 := by
  have h2 := List.isEmpty_iff.1 h
  have h3 : s.toList.length = s.size := by rw [Go.ByteArray.toList_eq]; exact Array.length_toList
  rw [← h3, h2]; rfl
 unfold textB
 rw [this]
 rfl
def opB (k i u a : Int) (s : ByteArray) : Bool :=
 madeB i && (if k = 1 then placeB u a && textB s else if k = 2 then decide (u = 0) && decide (a = 0) && textB s else if k = 3 then placeB u a && s.toList.isEmpty else false)
theorem opOk_f (k i u a : Int) (s : ByteArray) (hs : s.size ≤ 9223372036854775807) : Ev (fun n => impl_OpOk.f n k i u a s) (opB k i u a s) := by
 unfold impl_OpOk.f impl_changeOf.f opB
 rw [isMade_f]
 simp only [Option.bind_some]
 cases madeB i with
 | false => simp only [Bool.false_eq_true, if_false, Bool.false_and]; exact evnow _
 | true =>
  simp only [if_true, Bool.true_and, place_f, Option.bind_some]
  by_cases h1 : k = 1
  ·simp only [h1, if_true]
   cases placeB u a with
   | true => simp only [if_true, Bool.true_and]; exact itext_f s hs
   | false => simp only [Bool.false_eq_true, if_false, Bool.false_and]; exact evnow _
  ·simp only [h1, if_false]
   by_cases h2 : k = 2
   ·simp only [h2, if_true]
    by_cases h3 : u = 0
    ·by_cases h4 : a = 0
     ·simp only [h3, h4, if_true, decide_true, Bool.true_and]; exact itext_f s hs
     ·simp only [h3, h4, if_true, if_false, decide_true, decide_false, Bool.true_and, Bool.false_and]; exact evnow _
    ·simp only [h3, if_false, decide_false, Bool.false_and]; exact evnow _
   ·simp only [h2, if_false]
    by_cases h3 : k = 3
    ·simp only [h3, if_true]
     cases placeB u a with
     | true => simp only [if_true, Bool.true_and]; exact evnow _
     | false => simp only [Bool.false_eq_true, if_false, Bool.false_and]; exact evnow _
    ·simp only [h3, if_false]; exact evnow _
theorem sop_f (k i u a : Int) (s : ByteArray) (hi : I64 i) (hu : I64 u) (ha : I64 a) (hs : s.size ≤ 9223372036854775807) : Ev (fun n => spec_OpOk.f n k i u a s) (opB k i u a s) := by
 unfold spec_OpOk.f opB
 rw [made_f i hi]
 simp only [Option.bind_some]
 cases madeB i with
 | false =>
  simp only [Bool.false_eq_true, if_false, Bool.false_and]
  refine Ev.step (f := fun _ => some false) (fun n => ?_) (evnow _)
  simp only [spec_OpOk.j0, if_true]
 | true =>
  simp only [if_true, Bool.true_and]
  refine Ev.bind (text_f s hs) ?_
  have hp : (idB u && (decide (a = 0) || madeB a)) = placeB u a := rfl
  cases ht : textB s with
  | false =>
   have hne : s.toList.isEmpty = false := by
    cases he : s.toList.isEmpty with
    | false => rfl
    | true => rw [text_nil s he] at ht; cases ht
   refine Ev.step (f := fun _ => some false) (fun n => ?_) ?_
   ·simp only [spec_OpOk.j0, Bool.not_false, if_true]
   ·simp only [hne, Bool.and_false, ite_self]
    exact evnow _
  | true =>
   refine Ev.step (f := fun _ => some (if k = 1 then placeB u a && true else if k = 2 then decide (u = 0) && decide (a = 0) && true else if k = 3 then placeB u a && s.toList.isEmpty else false)) (fun n => ?_) (evnow _)
   simp only [spec_OpOk.j0, Bool.not_true, Bool.false_eq_true, if_false]
   rw [id_f u hu, made_f a ha]
   simp only [Option.bind_some, Bool.and_true]
   rw [← hp]
   have hnil : (s.toList == ([] : List UInt8)) = s.toList.isEmpty := by cases s.toList <;> rfl
   rw [hnil]
   by_cases h1 : k = 1
   ·simp only [h1, if_true]
    by_cases h4 : a = 0
    ·simp only [h4, if_true, decide_true, Bool.true_or, Bool.and_true]; cases idB u <;> simp
    ·simp only [h4, if_false, decide_false, Bool.false_or]; cases idB u <;> simp
   ·simp only [h1, if_false]
    by_cases h2 : k = 2
    ·simp only [h2, if_true]
     by_cases h3 : u = 0
     ·simp [h3]; by_cases h4 : a = 0 <;> simp [h4]
     ·simp [h3]
    ·simp only [h2, if_false]
     by_cases h3 : k = 3
     ·simp only [h3, if_true]
      by_cases h4 : a = 0
      ·simp only [h4, if_true, decide_true, Bool.true_or, Bool.and_true]; cases idB u <;> simp
      ·simp only [h4, if_false, decide_false, Bool.false_or]; cases idB u <;> cases madeB a <;> simp
     ·simp only [h3, if_false]
theorem made_small (a : Int) (h : madeB a = true) : 0 ≤ a ∧ a < 37 := by
 rcases Int.lt_or_le a 0 with h0 | h0
 ·unfold madeB at h; rw [ownI_out a (by omega)] at h; simp at h
 ·rcases Int.lt_or_le a 37 with h1 | h1
  ·exact ⟨h0, h1⟩
  ·unfold madeB at h; rw [ownI_out a (by omega)] at h; simp at h
theorem opB_made (k i u a : Int) (s : ByteArray) (h : opB k i u a s = true) : madeB i = true := by
 unfold opB at h
 simp only [Bool.and_eq_true] at h
 exact h.1
def rowB (r : S37) : Bool := if rootB r.f0 then decide (r.f1 = 0) && (r.f2.toList == ([] : List UInt8)) else madeB r.f0 && (decide (1 ≤ r.f1) && (decide (r.f1 ≤ 18) && textB r.f2))
theorem itext_any (s : ByteArray) : Ev (fun k => impl_textOk.f k s) (textB s) := by
 by_cases hs : s.size ≤ 9223372036854775807
 ·exact itext_f s hs
 ·have e : textB s = false := by unfold textB; simp; omega
  rw [e]
  refine Ev.congr (fun k => ?_) (evnow false)
  unfold impl_textOk.f
  exact if_pos (by omega)
theorem row_f (r : S37) : Ev (fun k => impl_RowOk.f k r.f0 r.f1 r.f2) (rowB r) := by
 unfold impl_RowOk.f rowB
 rw [isRoot_f, isMade_f]
 simp only [Option.bind_some]
 cases rootB r.f0 with
 | true =>
  simp only [if_true]
  by_cases h : r.f1 = 0
  ·simp only [h, if_true, decide_true, Bool.true_and]; exact evnow _
  ·simp only [h, if_false, decide_false, Bool.false_and]; exact evnow _
 | false =>
  cases madeB r.f0 with
  | false => simp only [Bool.false_eq_true, if_false, Bool.false_and]; exact evnow _
  | true =>
   simp only [Bool.false_eq_true, if_false, if_true, Bool.true_and]
   by_cases h1 : 1 ≤ r.f1
   ·refine ev_pos h1 ?_
    by_cases h2 : r.f1 ≤ 18
    ·refine ev_pos h2 ?_
     simp only [h1, h2, decide_true, Bool.true_and]
     exact Ev.bind (itext_any r.f2) (evnow _)
    ·refine ev_neg h2 ?_
     simp only [h1, h2, decide_true, decide_false, Bool.true_and, Bool.false_and]
     exact evnow _
   ·refine ev_neg h1 ?_
    simp only [h1, decide_false, Bool.false_and]
    exact evnow _
theorem srow_f (r : S37) (hi : I64 r.f0) (hs : r.f2.size ≤ 9223372036854775807) : Ev (fun k => spec_RowOk.f k r.f0 r.f1 r.f2) (rowB r) := by
 unfold spec_RowOk.f rowB
 rw [root_f, made_f _ hi, in_f]
 simp only [Option.bind_some]
 cases rootB r.f0 with
 | true =>
  simp only [if_true]
  by_cases h : r.f1 = 0
  ·simp only [h, if_true, decide_true, Bool.true_and]; exact evnow _
  ·simp only [h, if_false, decide_false, Bool.false_and]; exact evnow _
 | false =>
  cases madeB r.f0 with
  | false => simp only [Bool.false_eq_true, if_false, Bool.false_and]; exact evnow _
  | true =>
   simp only [Bool.false_eq_true, if_false, if_true, Bool.true_and]
   cases h : (decide (1 ≤ r.f1) && decide (r.f1 ≤ 18)) with
   | true =>
    simp only [Bool.and_eq_true] at h
    rw [h.1, h.2]
    simp only [if_true, Bool.true_and]
    exact Ev.bind (text_f r.f2 hs) (evnow _)
   | false =>
    rw [← Bool.and_assoc, h]
    simp only [Bool.false_eq_true, if_false, Bool.false_and]
    exact evnow _
end Go.Proofs.YtlkheeegkifblaaDoor.PL
namespace Go.Proofs.YtlkheeegkifblaaDoor.P
open Go.RowKit Go.Proofs.YtlkheeegkifblaaDoorW.PrintWords Go.Proofs.YtlkheeegkifblaaDoorW.PrintLast Go.Proofs.YtlkheeegkifblaaDoorW.PrintMore Go.Proofs.YtlkheeegkifblaaDoor.PL
def treeGo (seen : List Int) (roots depth : Int) : List S37 → Bool
 | [] => decide (roots = 3)
 | r :: rest => rowB r && (decide (r.f0 ∉ seen) && (decide (r.f1 ≤ depth + 1) &&
   (if rootB r.f0 then decide (r.f0 = roots + 1) && treeGo (r.f0 :: seen) (roots + 1) r.f1 rest else treeGo (r.f0 :: seen) roots r.f1 rest)))
def treeB (l : List S37) : Bool := treeGo [] 0 (-1) l
def impl_TreeOk.f (k : Nat) (l0 : List S37) : Option Bool := some (treeB l0)
theorem impl_TreeOk.mono (l0 : List S37) (k : Nat) : LeO (impl_TreeOk.f k l0) (impl_TreeOk.f (k + 1) l0) := LeO.refl _
def timesC (seen : List Int) : Array Value := ((List.range 37).map fun i : Nat => Value.int .i64 (if (i : Int) ∈ seen then 1 else 0)).toArray
theorem timesC_get (seen : List Int) (i : Nat) (hi : i < 37) : (timesC seen)[i]? = some (.int .i64 (if (i : Int) ∈ seen then 1 else 0)) := by
 simp [timesC, hi]
theorem timesC_set (seen : List Int) (i : Nat) (hi : i < 37) (hs : (i : Int) ∉ seen) : (timesC seen).setIfInBounds i (.int .i64 1) = timesC ((i : Int) :: seen) := by
 unfold timesC
 rw [List.setIfInBounds_toArray]
 congr 1
 apply List.ext_getElem (by simp)
 intro k h1 h2
 simp only [List.getElem_set, List.getElem_map, List.getElem_range, List.mem_cons]
 by_cases hk : i = k
 ·subst hk; simp
 ·have : ¬ ((k : Int) = (i : Int)) := fun e => hk (by omega)
  rw [if_neg hk]
  simp [this]
theorem rowB_id {r : S37} (h : rowB r = true) : 0 ≤ r.f0 ∧ r.f0 < 37 ∧ 0 ≤ r.f1 ∧ r.f1 ≤ 18 := by
 unfold rowB at h
 by_cases hr : rootB r.f0 = true
 ·rw [if_pos hr] at h
  unfold rootB at hr
  simp only [Bool.and_eq_true, decide_eq_true_eq] at hr h
  omega
 ·rw [if_neg hr] at h
  simp only [Bool.and_eq_true, decide_eq_true_eq] at h
  have := made_small _ h.1
  omega
def TreeRel (l0 : List S37) (r : Bool) (w : World) (ro dp i : Value) (wr : World) : Prop :=
 ∃ (j roots depth : Int) (seen : List Int), 0 ≤ j ∧ j ≤ l0.length ∧ i = .int .i64 j ∧ ro = .int .i64 roots ∧ dp = .int .i64 depth ∧ (0 ≤ roots ∧ roots ≤ 3) ∧ (-1 ≤ depth ∧ depth ≤ 18) ∧ Aside0 (treeGo seen roots depth (l0.drop j.toNat) = r) ∧
  Aside0 (wr.heap[w.heap.size]? = some (.cells (timesC seen) 66 (0, 0))) ∧ Aside0 (Below w.heap.size w wr)
set_option maxHeartbeats 4000000 in
set_option maxRecDepth 100000 in
theorem impl_TreeOk.calls (k : Nat) (A0 : Option Addr) (c0 : Nat) (l0 : List S37) (r : Bool) (w : World) (hr0 : Kd.C k37 w A0 l0.length l0) (hc0 : l0.length ≤ c0) (h : impl_TreeOk.f k l0 = some r) (hG : Glob w) :
  Calls Tryd.prog 25 #[.slice A0 l0.length c0] w fun e w' => e = .returned (.bool r) ∧ Below w.heap.size w w' := by
 have hlen := hr0.2.1
 have HR0 := Aside0.mk hr0
 have HG := Aside0.mk hG
 have HH := Aside0.mk (Option.some.inj h)
 clear hr0 hG h
 go_enter Tryd.func25, Tryd.ntmps25
 go_wp2
 go_loopw [4, 5, 10] (fun ro dp i wr => TreeRel l0 r w ro dp i wr) (fun _ _ i _ => l0.length - (intOf i).toNat)
 case atStart => exact ⟨0, 0, -1, [], Int.le_refl _, by omega, rfl, rfl, rfl, by omega, by omega, HH, ⟨heap_alloc_new w (.cells (timesC []) 66)⟩, ⟨below_box0 w _⟩⟩
 case round =>
  obtain ⟨j, roots, depth, seen, hj0, hj, rfl, rfl, rfl, hro, hdp, HGO, HT, HB⟩ := hrel
  clear HH
  by_cases hlt : j < l0.length
  ·have hd1 : decide (j < (l0.length : Int)) = true := decide_eq_true hlt
   obtain ⟨ad, e, hx0, hx1, hx2⟩ := at_T37 HR0.out j hj0 hlt
   cases e
   replace hx0 := (cb_ HB.out hx0 :)
   replace hx1 := (cb_ HB.out hx1 :)
   replace hx2 := (cb_ HB.out hx2 :)
   have hu := Tryd.underlying37
   have hxe : rd_T37 l0 j = l0[j.toNat]'(by omega) := by
    unfold rd_T37
    rw [List.getD_eq_getElem?_getD, List.getElem?_eq_getElem (by omega)]
    rfl
   have htd := List.drop_eq_getElem_cons (l := l0) (i := j.toNat) (by omega)
   rw [← hxe] at htd
   have hgo := HGO.out
   rw [htd] at hgo
   clear HGO hxe
   generalize rd_T37 l0 j = x at hx0 hx1 hx2 htd hgo
   rw [show j.toNat + 1 = (j + 1).toNat by omega] at htd hgo
   unfold treeGo at hgo
   obtain ⟨kr, hkr⟩ := row_f x
   have HKR := Aside0.mk (hkr kr (Nat.le_refl _))
   have p1 := eq_true hj0
   have q1 := eq_true hlt
   have HGO := Aside0.mk hgo
   have HTD := Aside0.mk htd
   have HJ := Aside0.mk (And.intro hj0 (And.intro hlt (And.intro hro hdp)))
   have HL := Aside0.mk (show w.heap.size < wr.heap.size from blk_lt HT.out)
   have HB1 := Aside0.mk (below_alloc HB.out (.cells #[.int .i64 x.f0, .int .i64 x.f1, .string x.f2] 37))
   have HT1 := Aside0.mk (blk_alloc HT.out (.cells #[.int .i64 x.f0, .int .i64 x.f1, .string x.f2] 37))
   clear hj0 hlt htd hgo hkr HB HT hro hdp
   by_cases hrow : rowB x = true
   ·have hid := rowB_id hrow
    rw [hrow] at HKR
    have hgo := HGO.out
    rw [hrow, Bool.true_and] at hgo
    clear HGO hrow
    obtain ⟨i, hi⟩ := Int.eq_ofNat_of_zero_le hid.1
    have hi37 : i < 37 := by omega
    have hne : w.heap.size ≠ wr.heap.size := by have := HL.out; omega
    have hne' : wr.heap.size ≠ w.heap.size := fun e => hne e.symm
    have i0 : 0 ≤ (i : Int) := by omega
    have i37 : (i : Int) < 37 := by omega
    have hf1 : 0 ≤ x.f1 := hid.2.2.1
    have hf18 : x.f1 ≤ 18 := hid.2.2.2
    have hdp0 : -1 ≤ depth := HJ.out.2.2.2.1
    have hdp1 : depth ≤ 18 := HJ.out.2.2.2.2
    rw [hi] at hgo HKR HB1 HT1 hx0
    have HXI := Aside0.mk hi
    clear hi hid
    by_cases hs : (i : Int) ∈ seen
    ·have HTG := Aside0.mk (show (timesC seen)[i]? = some (.int .i64 1) by rw [timesC_get seen i hi37, if_pos hs])
     have hr : r = false := by rw [← hgo, decide_eq_false (fun h => h hs)]; rfl
     clear hgo hs
     subst hr
     go_wp2_with (go_at_call 66; refine (impl_RowOk.calls kr (i : Int) x.f1 x.f2 true _ HKR.out (HG.out.below HB1.out)).mono ?_; rintro e W2 ⟨rfl, hb⟩; have HB2 := Aside0.mk (below_step HB1.out hb); have HT2 := Aside0.mk (blk_below HT1.out hb); have HX2 := Aside0.mk (blk_below (blk_new wr _) hb); clear hb; have d0 := (blk_cell HX2.out 0).trans rfl; have d1 := (blk_cell HX2.out 1).trans rfl; have t0 := (blk_cell HT2.out i).trans HTG.out; have tf := blk_frozen HT2.out i)
     go_ret
     exact ⟨rfl, HB2.out⟩
    ·have HTG := Aside0.mk (show (timesC seen)[i]? = some (.int .i64 0) by rw [timesC_get seen i hi37, if_neg hs])
     have HTS := Aside0.mk (timesC_set seen i hi37 hs)
     rw [decide_eq_true hs, Bool.true_and] at hgo
     clear hs
     by_cases hdep : x.f1 ≤ depth + 1
     ·have hdb : decide (depth + 1 < x.f1) = false := decide_eq_false (by omega)
      rw [decide_eq_true hdep, Bool.true_and] at hgo
      clear hdep
      by_cases hroot : rootB (i : Int) = true
      ·have HRF := Aside0.mk (isRoot_f (i : Int))
       rw [hroot] at HRF
       rw [if_pos hroot] at hgo
       have hr3 : 1 ≤ i ∧ i ≤ 3 := by unfold rootB at hroot; simp at hroot; omega
       have hro0 : 0 ≤ roots := HJ.out.2.2.1.1
       have hro3 : roots ≤ 3 := HJ.out.2.2.1.2
       clear hroot
       by_cases hn : (i : Int) = roots + 1
       ·have hb1 : ((i : Int) != roots + 1) = false := bne_eq_false_iff_eq.2 hn
        rw [decide_eq_true hn, Bool.true_and] at hgo
        have HN := Aside0.mk hn
        have HGO := Aside0.mk hgo
        clear hn hgo
        go_wp2_with (first | (go_at_call 66; refine (impl_RowOk.calls kr (i : Int) x.f1 x.f2 true _ HKR.out (HG.out.below HB1.out)).mono ?_; rintro e W2 ⟨rfl, hb⟩; have HB2 := Aside0.mk (below_step HB1.out hb); have HT2 := Aside0.mk (blk_below HT1.out hb); have HX2 := Aside0.mk (blk_below (blk_new wr _) hb); clear hb; have d0 := (blk_cell HX2.out 0).trans rfl; have d1 := (blk_cell HX2.out 1).trans rfl; have t0 := (blk_cell HT2.out i).trans HTG.out; have tf := blk_frozen HT2.out i) | (go_at_call 67; refine (impl_isRoot.calls (i : Int) true _ HRF.out (HG.out.below (below_set HB2.out (Nat.le_refl _)))).mono ?_; rintro e w' ⟨rfl, ⟨nd, rfl⟩⟩))
        have hjj := HJ.out
        have hww : wrap64 (j + 1) = j + 1 := by unfold wrap64; omega
        refine ⟨⟨j + 1, roots + 1, x.f1, (i : Int) :: seen, by omega, by omega, by first | rfl | rw [hww], rfl, rfl, by have := HN.out; omega, by omega, HGO, ⟨?_⟩, ⟨pw_below_drewN (below_set HB2.out (Nat.le_refl _)) _⟩⟩, ?_⟩
        ·have := blk_set HT2.out i (.int .i64 1)
         rw [HTS.out] at this
         exact this
        ·first | (show l0.length - (j + 1).toNat < l0.length - j.toNat; omega) | (rw [hww]; show l0.length - (j + 1).toNat < l0.length - j.toNat; omega)
       ·have hb1 : ((i : Int) != roots + 1) = true := bne_iff_ne.2 hn
        rw [decide_eq_false hn, Bool.false_and] at hgo
        subst hgo
        clear hn
        go_wp2_with (first | (go_at_call 66; refine (impl_RowOk.calls kr (i : Int) x.f1 x.f2 true _ HKR.out (HG.out.below HB1.out)).mono ?_; rintro e W2 ⟨rfl, hb⟩; have HB2 := Aside0.mk (below_step HB1.out hb); have HT2 := Aside0.mk (blk_below HT1.out hb); have HX2 := Aside0.mk (blk_below (blk_new wr _) hb); clear hb; have d0 := (blk_cell HX2.out 0).trans rfl; have d1 := (blk_cell HX2.out 1).trans rfl; have t0 := (blk_cell HT2.out i).trans HTG.out; have tf := blk_frozen HT2.out i) | (go_at_call 67; refine (impl_isRoot.calls (i : Int) true _ HRF.out (HG.out.below (below_set HB2.out (Nat.le_refl _)))).mono ?_; rintro e w' ⟨rfl, ⟨nd, rfl⟩⟩))
        go_ret
        exact ⟨rfl, pw_below_drewN (below_set HB2.out (Nat.le_refl _)) _⟩
      ·have hroot : rootB (i : Int) = false := by simpa using hroot
       have HRF := Aside0.mk (isRoot_f (i : Int))
       rw [hroot] at HRF
       rw [if_neg (by rw [hroot]; decide)] at hgo
       have HGO := Aside0.mk hgo
       clear hroot hgo
       go_wp2_with (first | (go_at_call 66; refine (impl_RowOk.calls kr (i : Int) x.f1 x.f2 true _ HKR.out (HG.out.below HB1.out)).mono ?_; rintro e W2 ⟨rfl, hb⟩; have HB2 := Aside0.mk (below_step HB1.out hb); have HT2 := Aside0.mk (blk_below HT1.out hb); have HX2 := Aside0.mk (blk_below (blk_new wr _) hb); clear hb; have d0 := (blk_cell HX2.out 0).trans rfl; have d1 := (blk_cell HX2.out 1).trans rfl; have t0 := (blk_cell HT2.out i).trans HTG.out; have tf := blk_frozen HT2.out i) | (go_at_call 67; refine (impl_isRoot.calls (i : Int) false _ HRF.out (HG.out.below (below_set HB2.out (Nat.le_refl _)))).mono ?_; rintro e w' ⟨rfl, ⟨nd, rfl⟩⟩))
       have hjj := HJ.out
       have hww : wrap64 (j + 1) = j + 1 := by unfold wrap64; omega
       refine ⟨⟨j + 1, roots, x.f1, (i : Int) :: seen, by omega, by omega, by first | rfl | rw [hww], rfl, rfl, by omega, by omega, HGO, ⟨?_⟩, ⟨pw_below_drewN (below_set HB2.out (Nat.le_refl _)) _⟩⟩, ?_⟩
       ·have := blk_set HT2.out i (.int .i64 1)
        rw [HTS.out] at this
        exact this
       ·first | (show l0.length - (j + 1).toNat < l0.length - j.toNat; omega) | (rw [hww]; show l0.length - (j + 1).toNat < l0.length - j.toNat; omega)
     ·have hdb : decide (depth + 1 < x.f1) = true := decide_eq_true (by omega)
      rw [decide_eq_false hdep, Bool.false_and] at hgo
      subst hgo
      clear hdep
      go_wp2_with (go_at_call 66; refine (impl_RowOk.calls kr (i : Int) x.f1 x.f2 true _ HKR.out (HG.out.below HB1.out)).mono ?_; rintro e W2 ⟨rfl, hb⟩; have HB2 := Aside0.mk (below_step HB1.out hb); have HT2 := Aside0.mk (blk_below HT1.out hb); have HX2 := Aside0.mk (blk_below (blk_new wr _) hb); clear hb; have d0 := (blk_cell HX2.out 0).trans rfl; have d1 := (blk_cell HX2.out 1).trans rfl; have t0 := (blk_cell HT2.out i).trans HTG.out; have tf := blk_frozen HT2.out i)
      go_ret
      exact ⟨rfl, HB2.out⟩
   ·have hrow : rowB x = false := by simpa using hrow
    rw [hrow] at HKR
    have hgo := HGO.out
    rw [hrow, Bool.false_and] at hgo
    subst hgo
    clear hrow HGO
    go_wp2_with (go_at_call 66; refine (impl_RowOk.calls kr x.f0 x.f1 x.f2 false _ HKR.out (HG.out.below HB1.out)).mono ?_; rintro e W2 ⟨rfl, hb⟩; have HB2 := Aside0.mk (below_step HB1.out hb); have HT2 := Aside0.mk (blk_below HT1.out hb); have HX2 := Aside0.mk (blk_below (blk_new wr _) hb); clear hb; have d0 := (blk_cell HX2.out 0).trans rfl; have d1 := (blk_cell HX2.out 1).trans rfl)
    go_ret
    exact ⟨rfl, HB2.out⟩
  ·have hd1 : decide (j < (l0.length : Int)) = false := decide_eq_false hlt
   have hgo := HGO.out
   rw [List.drop_eq_nil_of_le (by omega)] at hgo
   unfold treeGo at hgo
   have HGO2 := Aside0.mk hgo
   clear hgo HGO hlt
   by_cases h3 : roots = 3
   ·subst h3
    go_wp2
    go_ret
    exact ⟨by rw [← HGO2.out]; rfl, HB.out⟩
   ·have hb3 : (roots == 3) = false := beq_eq_false_iff_ne.2 h3
    have HGO3 := Aside0.mk (decide_eq_false h3)
    clear h3
    go_wp2
    go_ret
    exact ⟨by rw [← HGO2.out, HGO3.out]; rfl, HB.out⟩
end Go.Proofs.YtlkheeegkifblaaDoor.P
namespace Go.Proofs.YtlkheeegkifblaaDoor.P
open Go.RowKit Go.Proofs.YtlkheeegkifblaaDoorW.PrintWords Go.Proofs.YtlkheeegkifblaaDoorW.PrintLast Go.Proofs.YtlkheeegkifblaaDoorW.PrintMore Go.Proofs.YtlkheeegkifblaaDoor.PL Go.Proofs.YtlkheeegkifblaaDoor.FP
structure PlantOk (G : Fo) (A : Nat → Option Nat) (h : Nat → Nd) (la : Nat → Nat) (seen : List Int) (roots : Int) : Prop where
 rep : RepTop h G
 nd : G.ids.Nodup
 dom : ∀ x, A x ≠ none ↔ x ∈ G.ids
 seen : ∀ x : Int, x ∈ seen ↔ ∃ i ∈ G.ids, x = (i : Int)
 tops : ∃ n : Nat, roots = n ∧ G.tops = List.range' 1 n
 edge : ∀ d, d < dpth G → la d = sp d G
 stale : ∀ d, dpth G ≤ d → la d = 0 ∨ (la d ∈ G.ids ∧ (d = dpth G → (h (la d)).up ≠ sp (d - 1) G))
def upL (la : Nat → Nat) (e i : Nat) : Nat → Nat := fun d => if d = e then i else la d
theorem upN_out {h : Nat → Nd} {i j : Nat} {x : Nd} (e : j ≠ i) : upN h i x j = h j := if_neg e
theorem up_in {h : Nat → Nd} {G : Fo} (hr : RepTop h G) (hn : G.ids.Nodup) {x : Nat} (hx : x ∈ G.ids) : (h x).up = 0 ∨ (h x).up ∈ G.ids := by
 by_cases ht : x ∈ G.tops
 ·exact Or.inl (reptop_root hr ht)
 ·exact Or.inr (reptop_up hr hn hx ht).1
theorem plant_common {G : Fo} {A : Nat → Option Nat} {h h' : Nat → Nd} {la : Nat → Nat} {seen : List Int} {roots roots' : Int} (p : PlantOk G A h la seen roots) {i e b : Nat} {t : ByteArray} (hi0 : i ≠ 0) (hi : i ∉ G.ids) (he : e ≤ dpth G)
  (hrep : RepTop h' (snoc i t e G)) (hup : ∀ x ∈ G.ids, (h' x).up = (h x).up) (htops : ∃ n : Nat, roots' = n ∧ (snoc i t e G).tops = List.range' 1 n) :
  PlantOk (snoc i t e G) (upA A i b) h' (upL la e i) ((i : Int) :: seen) roots' where
 rep := hrep
 nd := by
  rw [snoc_ids]
  exact List.nodup_append.2 ⟨p.nd, by simp, fun x hx y hy e => by rw [List.mem_singleton.1 hy] at e; exact hi (e ▸ hx)⟩
 dom := fun x => by
  rw [snoc_ids]
  unfold upA
  by_cases hx : x = i
  ·simp [hx]
  ·simp only [if_neg hx, List.mem_append, List.mem_singleton, hx, or_false]
   exact p.dom x
 seen := fun x => by
  rw [snoc_ids]
  simp only [List.mem_cons, List.mem_append, List.not_mem_nil, or_false]
  constructor
  ·rintro (rfl | hx)
   ·exact ⟨i, Or.inr rfl, rfl⟩
   ·obtain ⟨j, hj, e⟩ := (p.seen x).1 hx
    exact ⟨j, Or.inl hj, e⟩
  ·rintro ⟨j, hj | rfl, e⟩
   ·exact Or.inr ((p.seen x).2 ⟨j, hj, e⟩)
   ·exact Or.inl e
 tops := htops
 edge := fun d hd => by
  rw [snoc_dpth i t G e he] at hd
  obtain ⟨h1, h2⟩ := snoc_sp i t G e he
  unfold upL
  by_cases hde : d = e
  ·rw [if_pos hde, hde, h1]
  ·rw [if_neg hde, h2 d (by omega)]
   exact p.edge d (by omega)
 stale := fun d hd => by
  rw [snoc_dpth i t G e he] at hd ⊢
  unfold upL
  rw [if_neg (by omega), snoc_ids]
  have key : la d ∈ G.ids → la d = 0 ∨ (la d ∈ G.ids ++ [i] ∧ (d = e + 1 → (h' (la d)).up ≠ sp (d - 1) (snoc i t e G))) := fun hm => by
   refine Or.inr ⟨List.mem_append_left _ hm, fun hde => ?_⟩
   subst hde
   rw [Nat.add_sub_cancel, (snoc_sp i t G e he).1, hup _ hm]
   rcases up_in p.rep p.nd hm with e1 | e1
   ·rw [e1]; exact fun e2 => hi0 e2.symm
   ·intro e2; exact hi (e2 ▸ e1)
  rcases Nat.lt_or_ge d (dpth G) with hdd | hdd
  ·exact key (by rw [p.edge d hdd]; exact sp_mem G d hdd)
  ·rcases p.stale d hdd with h1 | ⟨h1, _⟩
   ·exact Or.inl h1
   ·exact key h1
theorem plant_root {G : Fo} {A : Nat → Option Nat} {h : Nat → Nd} {la : Nat → Nat} {seen : List Int} {roots : Int} (p : PlantOk G A h la seen roots) {i b : Nat} {t : ByteArray} (hi0 : i ≠ 0) (hi : i ∉ G.ids) (hr : (i : Int) = roots + 1) :
  PlantOk (snoc i t 0 G) (upA A i b) (upN h i ⟨t, 0, 0, 0⟩) (upL la 0 i) ((i : Int) :: seen) (roots + 1) := by
 refine plant_common p hi0 hi (Nat.zero_le _) (reptop_snoc0 hi0 (if_pos rfl) G (p.rep.ext fun x hx => upN_out (fun e => hi (e ▸ hx)))) (fun x hx => by rw [upN_out (show x ≠ i from fun e => hi (e ▸ hx))]) ?_
 obtain ⟨n, hn, ht⟩ := p.tops
 refine ⟨n + 1, by omega, ?_⟩
 rw [snoc_tops i t G 0 (Nat.zero_le _), if_pos rfl, ht, List.range'_concat]
 have : i = 1 + 1 * n := by omega
 rw [this]
theorem plant_made {G : Fo} {A : Nat → Option Nat} {h : Nat → Nd} {la : Nat → Nat} {seen : List Int} {roots : Int} (p : PlantOk G A h la seen roots) {i e b : Nat} {t : ByteArray} (hi0 : i ≠ 0) (hi : i ∉ G.ids) (he : e + 1 ≤ dpth G) :
  PlantOk (snoc i t (e + 1) G) (upA A i b) (attachH (upN h i ⟨t, 0, 0, 0⟩) i (sp e G) (if e + 1 < dpth G then sp (e + 1) G else 0)) (upL la (e + 1) i) ((i : Int) :: seen) roots := by
 have hext : RepTop (upN h i ⟨t, 0, 0, 0⟩) G := p.rep.ext fun x hx => upN_out (fun e => hi (e ▸ hx))
 have hfree : Free (upN h i ⟨t, 0, 0, 0⟩) i t .nil := ⟨hi0, by rw [show upN h i ⟨t, 0, 0, 0⟩ i = ⟨t, 0, 0, 0⟩ from if_pos rfl], by rw [show upN h i ⟨t, 0, 0, 0⟩ i = ⟨t, 0, 0, 0⟩ from if_pos rfl]; rfl, trivial, by simp [Fo.ids]⟩
 have hup := sp_mem G e (by omega)
 have hupi : sp e G ≠ i := fun e2 => hi (e2 ▸ hup)
 have htops : ∃ n : Nat, roots = n ∧ (snoc i t (e + 1) G).tops = List.range' 1 n := by
  obtain ⟨n, hn, ht⟩ := p.tops
  exact ⟨n, hn, by rw [snoc_tops i t G (e + 1) he, if_neg (by omega), ht]⟩
 by_cases hlt : e + 1 < dpth G
 ·rw [if_pos hlt]
  have hm := sp_mem G (e + 1) hlt
  have hmi : sp (e + 1) G ≠ i := fun e2 => hi (e2 ▸ hm)
  have hm0 : sp (e + 1) G ≠ 0 := p.rep.ne0 _ hm
  have hat := attachH_pos (upN h i ⟨t, 0, 0, 0⟩) i (sp e G) (sp (e + 1) G) hm0
  refine plant_common p hi0 hi he ?_ (fun x hx => ?_) htops
  ·rw [snoc_after i t G (e + 1) p.nd hlt]
   exact reptop_insAfter hfree hm0 (by rw [upN_out hmi]; exact reptop_sp G e p.rep hlt) hext p.nd hi (sp_not_top G e p.nd hlt) (by simp [Fo.ids]) hmi (fun j hj => by simp [Fo.ids] at hj)
  ·have hxi : x ≠ i := fun e2 => hi (e2 ▸ hx)
   rw [hat x]
   by_cases hxa : x = sp (e + 1) G
   ·subst hxa; rw [if_pos rfl, upN_out hmi]
   ·rw [if_neg hxa, if_neg hxi, upN_out hxi]
 ·rw [if_neg hlt]
  have hat := attachH_zero (upN h i ⟨t, 0, 0, 0⟩) i (sp e G)
  refine plant_common p hi0 hi he ?_ (fun x hx => ?_) htops
  ·rw [snoc_first i t G e p.nd (by omega)]
   exact reptop_insFirst hfree hext p.nd hi (by simp [Fo.ids]) hupi (fun j hj => by simp [Fo.ids] at hj)
  ·have hxi : x ≠ i := fun e2 => hi (e2 ▸ hx)
   rw [hat x]
   by_cases hxa : x = sp e G
   ·subst hxa; rw [if_pos rfl, upN_out hupi]
   ·rw [if_neg hxa, if_neg hxi, upN_out hxi]
def lastC (A : Nat → Option Nat) (la : Nat → Nat) : Array Value := ((List.range 19).map fun d : Nat => Value.pointer (pa (A (la d)))).toArray
theorem lastC_get (A : Nat → Option Nat) (la : Nat → Nat) (d : Nat) (hd : d < 19) : (lastC A la)[d]? = some (.pointer (pa (A (la d)))) := by simp [lastC, hd]
theorem lastC_set (A : Nat → Option Nat) (la : Nat → Nat) (e i b : Nat) (he : e < 19) (hla : ∀ d, la d ≠ i) : (lastC A la).setIfInBounds e (.pointer (some ⟨b, 0, none⟩)) = lastC (upA A i b) (upL la e i) := by
 unfold lastC
 rw [List.setIfInBounds_toArray]
 congr 1
 apply List.ext_getElem (by simp)
 intro k h1 h2
 simp only [List.getElem_set, List.getElem_map, List.getElem_range, upA, upL]
 by_cases hk : e = k
 ·subst hk; simp; rfl
 ·have : ¬ (k = e) := fun e2 => hk e2.symm
  simp [hk, this, hla k]
def PlantRel (l0 : List S37) (w : World) (Fb Lb : Nat) (i : Value) (wr : World) : Prop :=
 ∃ (j : Nat) (G : Fo) (A : Nat → Option Nat) (h : Nat → Nd) (la : Nat → Nat) (seen : List Int) (roots : Int), j ≤ l0.length ∧ i = .int .i64 (j : Int) ∧ Aside0 (Mem wr w.heap.size Fb A h) ∧ Aside0 (wr.heap[Lb]? = some (.cells (lastC A la) 111 (0, 0))) ∧
  Aside0 (PlantOk G A h la seen roots) ∧ Aside0 (G.fl 0 = l0.take j) ∧ Aside0 (treeGo seen roots ((dpth G : Int) - 1) (l0.drop j) = true) ∧ Aside0 (Below w.heap.size w wr)
def Planted (l0 : List S37) (w : World) (e : Ending) (w' : World) : Prop :=
 ∃ (Fb : Nat) (G : Fo) (A : Nat → Option Nat) (h : Nat → Nd), e = .returned (.tuple #[.pointer (some ⟨Fb, 0, none⟩), .bool true]) ∧ Mem w' w.heap.size Fb A h ∧ RepTop h G ∧ G.ids.Nodup ∧ (∀ x, A x ≠ none ↔ x ∈ G.ids) ∧ G.tops = [1, 2, 3] ∧ G.fl 0 = l0 ∧ Below w.heap.size w w'
theorem neZ (b : Addr) (w : World) : (binOp .neq 70 (.pointer none) (.pointer (some b))).run Tryd.prog w = .ok (.bool true) w := by
 have h : ∀ d : Nat, (Op.equalIn (d + 1) 70 (.pointer none) (.pointer (some b))).run Tryd.prog w = .ok false w := fun d => by
  simp [Op.equalIn, run_underlying Tryd.underlying70]
 have h2 : (Op.equal 70 (.pointer none) (.pointer (some b))).run Tryd.prog w = .ok false w := by simp [Op.equal, Op.maxDepth, h 9999]
 simp only [binOp]; simp [h2]
theorem Mem.far {w : World} {n0 F : Nat} {A : Nat → Option Nat} {h : Nat → Nd} (m : Mem w n0 F A h) {p : Addr} (hF : F ≠ p.block) (hA : ∀ i, A i ≠ some p.block) (v : Value) : Mem (w.setCell p v) n0 F A h :=
 { m with tab := blk_far m.tab hF v, nod := fun i b e => blk_far (m.nod i b e) (fun e2 => hA i (e2 ▸ e)) v }
theorem Mem.no_last {w : World} {n0 F : Nat} {A : Nat → Option Nat} {h : Nat → Nd} (m : Mem w n0 F A h) {L : Nat} {cs : Array Value} (hL : w.heap[L]? = some (.cells cs 111 (0, 0))) (y : Nat) : A y ≠ some L := fun hy => by
 have h1 := m.nod y L hy
 rw [hL] at h1
 injection h1 with h1
 injection h1 with _ h2
 exact absurd h2 (by decide)
theorem plant_next {l0 : List S37} {w wr : World} {F L g i e j : Nat} {x : S37} {G : Fo} {A : Nat → Option Nat} {h' : Nat → Nd} {la : Nat → Nat} {seen : List Int} {roots' : Int}
  (hx : x.f0 = (i : Int) ∧ x.f1 = (e : Int)) (he : e ≤ dpth G) (he18 : e < 19) (hlt : j < l0.length) (hla : ∀ d, la d ≠ i) (hLF : F ≠ L) (hwL : w.heap.size ≤ L)
  (m : Mem wr w.heap.size F (upA A i (g + 1)) h') (hL : wr.heap[L]? = some (.cells (lastC A la) 111 (0, 0)))
  (p : PlantOk (snoc i x.f2 e G) (upA A i (g + 1)) h' (upL la e i) ((i : Int) :: seen) roots')
  (hfl : G.fl 0 = l0.take j) (htk : l0.take (j + 1) = l0.take j ++ [x])
  (hgo : treeGo ((i : Int) :: seen) roots' (e : Int) (l0.drop (j + 1)) = true) (hb : Below w.heap.size w wr) :
  PlantRel l0 w F L (.int .i64 ((j + 1 : Nat) : Int)) (wr.setCell ⟨L, e, none⟩ (.pointer (some ⟨g + 1, 0, none⟩))) := by
 refine ⟨j + 1, snoc i x.f2 e G, upA A i (g + 1), h', upL la e i, (i : Int) :: seen, roots', hlt, rfl, ⟨m.far hLF (fun y => m.no_last hL y) _⟩, ⟨?_⟩, ⟨p⟩, ⟨?_⟩, ⟨?_⟩, ⟨hb.setCell hwL _⟩⟩
 ·have := blk_set hL e (.pointer (some ⟨g + 1, 0, none⟩))
  rw [lastC_set A la e i (g + 1) he18 hla] at this
  exact this
 ·rw [snoc_fl i x.f2 G e 0 he, hfl, htk]
  obtain ⟨x0, x1, x2⟩ := x
  obtain ⟨e0, e1⟩ := hx
  simp only at e0 e1
  subst e0 e1
  simp
 ·rw [snoc_dpth i x.f2 G e he, show (((e + 1 : Nat) : Int) - 1) = (e : Int) by omega]
  exact hgo
set_option maxHeartbeats 4000000 in
set_option maxRecDepth 100000 in
theorem plant_no (A0 : Option Addr) (c0 : Nat) (l0 : List S37) (w : World) (hr0 : Kd.C k37 w A0 l0.length l0) (hc0 : l0.length ≤ c0) (h : treeB l0 = false) (hG : Glob w) :
  Calls Tryd.prog 60 #[.slice A0 l0.length c0] w fun e w' => e = .returned (.tuple #[.pointer none, .bool false]) ∧ Below w.heap.size w w' := by
 have HC := Aside0.mk (impl_TreeOk.calls 0 A0 c0 l0 false w hr0 hc0 (by unfold impl_TreeOk.f; rw [h]) hG)
 clear hr0 hG h
 go_enter Tryd.func60, Tryd.ntmps60
 go_wp2_with (go_at_call 25; refine (HC.out).mono ?_; clear HC; rintro e w1 ⟨rfl, hb⟩; have HB := Aside0.mk hb; clear hb)
 go_ret2
 exact ⟨rfl, HB.out⟩
theorem mem_none {w : World} {n0 F : Nat} (h : n0 ≤ F) (ht : w.heap[F]? = some (.cells (tabC fun _ => none) 110 (0, 0))) (hh : Nat → Nd) : Mem w n0 F (fun _ => none) hh where
 z := rfl
 rng := fun _ _ e => by cases e
 inj := fun _ _ _ e => by cases e
 ne := fun _ _ e => by cases e
 lo := fun _ _ e => by cases e
 loF := h
 tab := ht
 nod := fun _ _ e => by cases e
 cu := fun _ e => absurd rfl e
 cf := fun _ e => absurd rfl e
 cn := fun _ e => absurd rfl e
theorem plant_none (hh : Nat → Nd) : PlantOk .nil (fun _ => none) hh (fun _ => 0) [] 0 where
 rep := trivial
 nd := List.nodup_nil
 dom := fun x => by simp [Fo.ids]
 seen := fun x => by simp [Fo.ids]
 tops := ⟨0, rfl, rfl⟩
 edge := fun d hd => by simp [dpth] at hd
 stale := fun d _ => Or.inl rfl
set_option maxHeartbeats 8000000 in
set_option maxRecDepth 100000 in
theorem plant_yes (A0 : Option Addr) (c0 : Nat) (l0 : List S37) (w : World) (hr0 : Kd.C k37 w A0 l0.length l0) (hc0 : l0.length ≤ c0) (h : treeB l0 = true) (hG : Glob w) :
  Calls Tryd.prog 60 #[.slice A0 l0.length c0] w (Planted l0 w) := by
 have hlen := hr0.2.1
 have HC := Aside0.mk (impl_TreeOk.calls 0 A0 c0 l0 true w hr0 hc0 (by unfold impl_TreeOk.f; rw [h]) hG)
 have HR0 := Aside0.mk hr0
 have HH := Aside0.mk h
 clear hr0 hG h
 go_enter Tryd.func60, Tryd.ntmps60
 go_wp2_with (go_at_call 25; refine (HC.out).mono ?_; clear HC; rintro e w1 ⟨rfl, hb⟩; have HB := Aside0.mk hb; clear hb)
 have hb1 := HB.out.size
 go_loopw [18] (fun i wr => PlantRel l0 w w1.heap.size (w1.heap.size + 1) i wr) (fun i _ => l0.length - (intOf i).toNat)
 case atStart =>
  refine ⟨0, .nil, fun _ => none, fun _ => ⟨ByteArray.empty, 0, 0, 0⟩, fun _ => 0, [], 0, Nat.zero_le _, rfl, ⟨?_⟩, ⟨?_⟩, ⟨?_⟩, ⟨rfl⟩, ⟨HH.out⟩, ⟨below_alloc (below_alloc HB.out _) _⟩⟩
  ·exact mem_none hb1 (blk_alloc (heap_alloc_new w1 (.cells (tabC fun _ => none) 110)) _) _
  ·have := heap_alloc_new (w1.alloc (.cells (tabC fun _ => none) 110)) (.cells (lastC (fun _ => none) (fun _ => 0)) 111)
   rw [World.size_alloc] at this
   exact this
  ·exact plant_none _
 case round =>
  obtain ⟨j, G, A, h, la, seen, roots, hj, rfl, HM, HL, HP, HF, HGO, HBr⟩ := hrel
  clear HH
  by_cases hlt : j < l0.length
  ·have hd1 : decide ((j : Int) < (l0.length : Int)) = true := decide_eq_true (by omega)
   have hd2 : decide (j < l0.length) = true := decide_eq_true hlt
   obtain ⟨ad, e0, hx0, hx1, hx2⟩ := at_T37 HR0.out (j : Int) (by omega) (by omega)
   cases e0
   replace hx0 := (HBr.out.cell (World.block_lt_of_cell? w _ hx0)).trans hx0
   replace hx1 := (HBr.out.cell (World.block_lt_of_cell? w _ hx1)).trans hx1
   replace hx2 := (HBr.out.cell (World.block_lt_of_cell? w _ hx2)).trans hx2
   simp only [Int.toNat_natCast] at hx0 hx1 hx2
   have hu := Tryd.underlying37
   have hxe : rd_T37 l0 (j : Int) = l0[j]'hlt := by
    unfold rd_T37
    rw [List.getD_eq_getElem?_getD, show ((j : Int)).toNat = j from rfl, List.getElem?_eq_getElem hlt]
    rfl
   have htd := List.drop_eq_getElem_cons (l := l0) (i := j) hlt
   have htk := List.take_succ_eq_append_getElem (l := l0) (i := j) hlt
   rw [← hxe] at htd htk
   have hgo := HGO.out
   rw [htd] at hgo
   clear HGO hxe
   generalize rd_T37 l0 (j : Int) = x at hx0 hx1 hx2 htd htk hgo
   unfold treeGo at hgo
   simp only [Bool.and_eq_true, decide_eq_true_eq] at hgo
   obtain ⟨hrow, hns, hdep, hrest⟩ := hgo
   obtain ⟨b0, b37, d0, d18⟩ := rowB_id hrow
   obtain ⟨i, hi⟩ := Int.eq_ofNat_of_zero_le b0
   obtain ⟨e, he⟩ := Int.eq_ofNat_of_zero_le d0
   have hiG : i ∉ G.ids := fun hc => hns ((HP.out.seen x.f0).2 ⟨i, hc, hi⟩)
   have heG : e ≤ dpth G := by omega
   have hi37 : i < 37 := by omega
   have hi0 : i ≠ 0 := by
    intro e0
    subst e0
    unfold rowB at hrow
    rw [hi] at hrow
    revert hrow
    have r0 : rootB (0 : Int) = false := by decide
    have m0 : madeB (0 : Int) = false := by decide
    simp [r0, m0]
   have hAi : A i = none := by
    rcases Option.eq_none_or_eq_some (A i) with h1 | ⟨c, h1⟩
    ·exact h1
    ·exact absurd ((HP.out.dom i).1 (by rw [h1]; simp)) hiG
   have hne3 : ∀ y, A y ≠ none → (h y).up ≠ i ∧ (h y).first ≠ i ∧ (h y).next ≠ i := fun y hy =>
    ⟨fun e2 => (HM.out.cu y hy).elim (fun e3 => hi0 (e2 ▸ e3)) (fun e3 => e3 (e2 ▸ hAi)), fun e2 => (HM.out.cf y hy).elim (fun e3 => hi0 (e2 ▸ e3)) (fun e3 => e3 (e2 ▸ hAi)), fun e2 => (HM.out.cn y hy).elim (fun e3 => hi0 (e2 ▸ e3)) (fun e3 => e3 (e2 ▸ hAi))⟩
   -- the memory behind the new node
   obtain ⟨g, hg⟩ : ∃ g, g = wr.heap.size := ⟨_, rfl⟩
   obtain ⟨W1, hW1⟩ : ∃ W1, W1 = (wr.alloc (.cells #[.int .i64 (i : Int), .int .i64 (e : Int), .string x.f2] 37)).alloc (.cells #[.int .i64 (i : Int), .string x.f2, .pointer none, .pointer none, .pointer none] 85) := ⟨_, rfl⟩
   have nG : W1.heap[g]? = some (.cells #[.int .i64 (i : Int), .int .i64 (e : Int), .string x.f2] 37 (0, 0)) := by rw [hW1, hg]; exact blk_alloc (blk_new wr _) _
   have nB : W1.heap[g + 1]? = some (.cells #[.int .i64 (i : Int), .string x.f2, .pointer none, .pointer none, .pointer none] 85 (0, 0)) := by
    have := blk_new (wr.alloc (.cells #[.int .i64 (i : Int), .int .i64 (e : Int), .string x.f2] 37)) (.cells #[.int .i64 (i : Int), .string x.f2, .pointer none, .pointer none, .pointer none] 85)
    rw [World.size_alloc] at this
    rw [hW1, hg]; exact this
   have mW1 : Mem W1 w.heap.size w1.heap.size A h := by rw [hW1]; exact (HM.out.alloc _).alloc _
   have lW1 : W1.heap[w1.heap.size + 1]? = some (.cells (lastC A la) 111 (0, 0)) := by rw [hW1]; exact blk_alloc (blk_alloc HL.out _) _
   have bW1 : Below w.heap.size w W1 := by rw [hW1]; exact below_alloc (below_alloc HBr.out _) _
   have hltF := HM.out.ltF
   have hltL := blk_lt HL.out
   have hbA : ∀ y, A y ≠ some (g + 1) := fun y hy => by have := HM.out.lt hy; omega
   have hgA : ∀ y, A y ≠ some g := fun y hy => by have := HM.out.lt hy; omega
   have mem2 := mW1.add hi0 hi37 hAi hne3 (b := g + 1) (t := x.f2) hbA (by omega) (by omega) nB
   have nG2 := blk_far (p := ⟨w1.heap.size, i, none⟩) nG (show g ≠ w1.heap.size by omega) (.pointer (some ⟨g + 1, 0, none⟩))
   have nB2 := blk_far (p := ⟨w1.heap.size, i, none⟩) nB (show g + 1 ≠ w1.heap.size by omega) (.pointer (some ⟨g + 1, 0, none⟩))
   have lW2 := blk_far (p := ⟨w1.heap.size, i, none⟩) lW1 (show w1.heap.size + 1 ≠ w1.heap.size by omega) (.pointer (some ⟨g + 1, 0, none⟩))
   have bW2 : Below w.heap.size w (W1.setCell ⟨w1.heap.size, i, none⟩ (.pointer (some ⟨g + 1, 0, none⟩))) := bW1.setCell (p := ⟨w1.heap.size, i, none⟩) hb1 _
   have cT := mW1.cF i hi37
   have fT := mW1.fzF i
   have HMEM := Aside0.mk mem2
   have HNG := Aside0.mk nG2
   have HNB := Aside0.mk nB2
   have HLW := Aside0.mk lW2
   have HBW := Aside0.mk bW2
   have HHB := Aside0.mk hbA
   have HGA := Aside0.mk hgA
   have q0 := (blk_cell nG 0).trans rfl
   have q1 := (blk_cell nG 1).trans rfl
   have q2 := (blk_cell nG 2).trans rfl
   have hla : ∀ d, la d ≠ i := fun d e2 => by
    rcases Nat.lt_or_ge d (dpth G) with hdd | hdd
    ·exact hiG (e2 ▸ (HP.out.edge d hdd ▸ sp_mem G d hdd))
    ·rcases HP.out.stale d hdd with h1 | ⟨h1, _⟩
     ·exact hi0 (e2 ▸ h1)
     ·exact hiG (e2 ▸ h1)
   obtain ⟨W2, hW2⟩ : ∃ W2, W2 = (W1.setCell ⟨w1.heap.size, i, none⟩ (.pointer (some ⟨g + 1, 0, none⟩))).drew := ⟨_, rfl⟩
   have mem3 : Mem W2 w.heap.size w1.heap.size (upA A i (g + 1)) (upN h i ⟨x.f2, 0, 0, 0⟩) := by rw [hW2]; exact mem2.drew
   have nG3 : W2.heap[g]? = some (.cells #[.int .i64 (i : Int), .int .i64 (e : Int), .string x.f2] 37 (0, 0)) := by rw [hW2]; exact nG2
   have lW3 : W2.heap[w1.heap.size + 1]? = some (.cells (lastC A la) 111 (0, 0)) := by rw [hW2]; exact lW2
   have bW3 : Below w.heap.size w W2 := by rw [hW2]; exact bW2.drew
   have HMEM := Aside0.mk mem3
   have HNG := Aside0.mk nG3
   have HLW := Aside0.mk lW3
   have HBW := Aside0.mk bW3
   have HLA := Aside0.mk hla
   have r1 := (blk_cell nG3 1).trans rfl
   have zL := blk_frozen lW3 e
   have HE := Aside0.mk (And.intro hi he)
   have HI := Aside0.mk (And.intro hi0 (And.intro hiG heG))
   have HW2 := Aside0.mk hW2
   have hx0' : x.f0 = (i : Int) := hi
   have hx1' : x.f1 = (e : Int) := he
   rw [hx0'] at hx0
   rw [hx1'] at hx1
   have ne1 : g ≠ w1.heap.size := by omega
   have ne2 : g ≠ w1.heap.size + 1 := by omega
   have ne3 : w1.heap.size ≠ g := fun e => ne1 e.symm
   have ne4 : w1.heap.size + 1 ≠ g := fun e => ne2 e.symm
   have i37 : (i : Int) < 37 := by omega
   have i0' : 0 ≤ (i : Int) := by omega
   have e0' : 0 ≤ (e : Int) := by omega
   have e18 : (e : Int) ≤ 18 := by omega
   have e19 : (e : Int) < 19 := by omega
   have HW1 := Aside0.mk hW1
   have HG := Aside0.mk hg
   rw [hx0', hx1'] at hrest
   have HREST := Aside0.mk hrest
   have HROW := Aside0.mk hrow
   have HTD := Aside0.mk (And.intro htd htk)
   have HJ := Aside0.mk (And.intro hlt hlen)
   have HGA := Aside0.mk hgA
   have ce := (blk_cell lW3 e).trans (lastC_get A la e (by omega))
   clear hrest hdep hns b0 b37 d0 d18 hi he hiG heG hi37 hi0 hAi hne3 hx0' hx1' nG nB mW1 lW1 bW1 hltF hltL hbA hgA mem2 nG2 nB2 lW2 bW2 htd htk HM HL HBr hW1 hg hj mem3 nG3 lW3 bW3 hla hW2
   have HROW := Aside0.mk hrow
   clear hrow
   go_wp2
   rw [← HG.out, ← HW1.out]
   go_region
   rw [← HW2.out]
   clear q0 q1 q2 cT fT hx0 hx1 hx2
   rcases Nat.eq_zero_or_pos e with e00 | epos
   ·
    have hd3 : decide ((0 : Int) < (e : Int)) = false := decide_eq_false (by omega)
    have hd4 : decide (0 < e) = false := decide_eq_false (by omega)
    have HR : Aside0 (rootB (i : Int) = true) := ⟨by
     by_cases hrt : rootB x.f0 = true
     ·rw [← HE.out.1]; exact hrt
     ·exfalso
      have hrow := HROW.out
      unfold rowB at hrow
      rw [if_neg hrt] at hrow
      simp only [Bool.and_eq_true, decide_eq_true_eq] at hrow
      have := HE.out.2
      omega⟩
    have HE0 := Aside0.mk e00
    clear e00
    go_wp2
    have hrest := HREST.out
    rw [if_pos HR.out, Bool.and_eq_true, decide_eq_true_eq] at hrest
    refine ⟨?_, ?_⟩
    ·have hp : PlantOk (snoc i x.f2 e G) (upA A i (g + 1)) (upN h i ⟨x.f2, 0, 0, 0⟩) (upL la e i) ((i : Int) :: seen) (roots + 1) := by
      rw [show e = 0 from HE0.out]
      exact plant_root (b := g + 1) (t := x.f2) HP.out HI.out.1 HI.out.2.1 hrest.1
     exact plant_next HE.out HI.out.2.2 (by omega) HJ.out.1 HLA.out (by omega) (by omega) HMEM.out HLW.out hp HF.out HTD.out.2 hrest.2 HBW.out
    ·show l0.length - (j + 1) < l0.length - j
     omega
   ·have hd3 : decide ((0 : Int) < (e : Int)) = true := decide_eq_true (by omega)
    have hd4 : decide (0 < e) = true := decide_eq_true (by omega)
    have hu1 : la (e - 1) = sp (e - 1) G := HP.out.edge (e - 1) (by have := HI.out.2.2; omega)
    have hum : sp (e - 1) G ∈ G.ids := sp_mem G (e - 1) (by have := HI.out.2.2; omega)
    obtain ⟨u, hue⟩ : ∃ u, u = sp (e - 1) G := ⟨_, rfl⟩
    rw [← hue] at hu1 hum
    obtain ⟨bu, hbu⟩ := Option.ne_none_iff_exists'.1 ((HP.out.dom u).2 hum)
    have hui : u ≠ i := fun e2 => HI.out.2.1 (e2 ▸ hum)
    have cu := (blk_cell HLW.out (e - 1)).trans (lastC_get A la (e - 1) (by omega))
    rw [hu1, hbu, pa_some] at cu
    have hA'u : upA A i (g + 1) u = some bu := by unfold upA; rw [if_neg hui, hbu]
    have hA'i : upA A i (g + 1) i = some (g + 1) := if_pos rfl
    have hnr : rootB (i : Int) = false := by
     by_cases hrt : rootB x.f0 = true
     ·exfalso
      have hrow := HROW.out
      unfold rowB at hrow
      rw [if_pos hrt] at hrow
      simp only [Bool.and_eq_true, decide_eq_true_eq] at hrow
      have := HE.out.2
      have := hrow.1
      omega
     ·rw [← HE.out.1]; simpa using hrt
    have hrest := HREST.out
    rw [if_neg (by rw [hnr]; decide)] at hrest
    have HREST2 := Aside0.mk hrest
    have hp := plant_made (b := g + 1) (t := x.f2) (e := e - 1) HP.out HI.out.1 HI.out.2.1 (by have := HI.out.2.2; omega)
    rw [show e - 1 + 1 = e by omega, ← hue] at hp
    have HPM := Aside0.mk hp
    have HAU := Aside0.mk hA'u
    have HAI := Aside0.mk hA'i
    have e191 : ((e - 1 : Nat) : Int) < 19 := by omega
    have HGB : Aside0 (∀ y, upA A i (g + 1) y ≠ some g) := ⟨fun y hy => by
     unfold upA at hy
     split at hy
     ·have := Option.some.inj hy; omega
     ·exact HGA.out y hy⟩
    clear hrest hp hbu hnr hA'u hA'i hum hu1
    by_cases hlt2 : e < dpth G
    ·
     have hm : sp e G ∈ G.ids := sp_mem G e hlt2
     obtain ⟨a, hae⟩ : ∃ a, a = sp e G := ⟨_, rfl⟩
     have hla1 : la e = a := (HP.out.edge e hlt2).trans hae.symm
     rw [← hae] at hm
     obtain ⟨ba, hba⟩ := Option.ne_none_iff_exists'.1 ((HP.out.dom a).2 hm)
     have hai : a ≠ i := fun e2 => HI.out.2.1 (e2 ▸ hm)
     have hA'a : upA A i (g + 1) a = some ba := by unfold upA; rw [if_neg hai, hba]
     have hau : (upN h i ⟨x.f2, 0, 0, 0⟩ a).up = u := by
      rw [upN_out hai, hae, hue]
      have := reptop_sp G (e - 1) HP.out.rep (by omega)
      rw [show e - 1 + 1 = e by omega] at this
      exact this
     rw [hla1, hba, pa_some] at ce
     have c2 := HMEM.out.c2 hA'a
     rw [hau, HAU.out, pa_some] at c2
     have hN := neS ⟨bu, 0, none⟩ W2
     have HPM2 := HPM.out
     rw [if_pos hlt2, ← hae] at HPM2
     have HPM3 := Aside0.mk HPM2
     have HAT := Aside0.mk (attach_behind HMEM.out HAI.out HAU.out hA'a hai)
     clear HPM2 hm hba hA'a hau hlt2 hla1
     go_wp2_with (go_at_call 96; refine (HAT.out).mono ?_; clear HAT; rintro en W3 ⟨⟨v, rfl⟩, hm3, hb3, hk3⟩; have hL3 := (hk3 (w1.heap.size + 1) (fun y => HMEM.out.no_last HLW.out y)).trans HLW.out; have hG3 := (hk3 g HGB.out).trans HNG.out; have hz3 := blk_frozen hL3 e; have ce3 := (blk_cell hL3 e).trans (lastC_get A la e (by omega)); have r3 := (blk_cell hG3 1).trans rfl; have HM3 := Aside0.mk hm3; have HB3 := Aside0.mk hb3; have HL3 := Aside0.mk hL3; clear hm3 hb3 hk3 hL3 hG3)
     refine ⟨plant_next HE.out HI.out.2.2 (by omega) HJ.out.1 HLA.out (by omega) (by omega) HM3.out HL3.out HPM3.out HF.out HTD.out.2 HREST2.out (HBW.out.trans HB3.out), ?_⟩
     show l0.length - (j + 1) < l0.length - j
     omega
    ·have HAT := Aside0.mk (attach_first HMEM.out HAI.out HAU.out hui)
     have HPM2 := HPM.out
     rw [if_neg hlt2] at HPM2
     have HPM3 := Aside0.mk HPM2
     have hst := HP.out.stale e (by omega)
     clear HPM2
     by_cases ha0 : la e = 0
     ·rw [ha0, show A 0 = none from Option.not_isSome_iff_eq_none.1 (fun hs => by
       obtain ⟨c, hc⟩ := Option.isSome_iff_exists.1 hs
       exact HP.out.rep.ne0 0 ((HP.out.dom 0).1 (by rw [hc]; simp)) rfl), pa_none] at ce
      clear hst hlt2 ha0
      go_wp2_with (go_at_call 96; refine (HAT.out).mono ?_; clear HAT; rintro en W3 ⟨⟨v, rfl⟩, hm3, hb3, hk3⟩; have hL3 := (hk3 (w1.heap.size + 1) (fun y => HMEM.out.no_last HLW.out y)).trans HLW.out; have hG3 := (hk3 g HGB.out).trans HNG.out; have hz3 := blk_frozen hL3 e; have ce3 := (blk_cell hL3 e).trans (lastC_get A la e (by omega)); have r3 := (blk_cell hG3 1).trans rfl; have HM3 := Aside0.mk hm3; have HB3 := Aside0.mk hb3; have HL3 := Aside0.mk hL3; clear hm3 hb3 hk3 hL3 hG3)
      refine ⟨plant_next HE.out HI.out.2.2 (by omega) HJ.out.1 HLA.out (by omega) (by omega) HM3.out HL3.out HPM3.out HF.out HTD.out.2 HREST2.out (HBW.out.trans HB3.out), ?_⟩
      show l0.length - (j + 1) < l0.length - j
      omega
     ·obtain ⟨hm, hne⟩ := hst.resolve_left ha0
      have hne := hne (by have := HI.out.2.2; omega)
      rw [← hue] at hne
      obtain ⟨a, hae⟩ : ∃ a, a = la e := ⟨_, rfl⟩
      rw [← hae] at hm hne ha0 ce
      obtain ⟨ba, hba⟩ := Option.ne_none_iff_exists'.1 ((HP.out.dom a).2 hm)
      have hai : a ≠ i := fun e2 => HI.out.2.1 (e2 ▸ hm)
      have hA'a : upA A i (g + 1) a = some ba := by unfold upA; rw [if_neg hai, hba]
      have hau : (upN h i ⟨x.f2, 0, 0, 0⟩ a).up = (h a).up := by rw [upN_out hai]
      rw [hba, pa_some] at ce
      have c2 := HMEM.out.c2 hA'a
      rw [hau] at c2
      have hcu := HMEM.out.cu a (by rw [hA'a]; simp)
      rw [hau] at hcu
      obtain ⟨q, hq⟩ : ∃ q, q = (h a).up := ⟨_, rfl⟩
      rw [← hq] at c2 hcu hne
      by_cases hq0 : q = 0
      ·rw [hq0, HMEM.out.z, pa_none] at c2
       have hN := neZ ⟨bu, 0, none⟩ W2
       clear hm hba hA'a hau hlt2 hst ha0 hae hcu hq hne hq0
       go_wp2_with (go_at_call 96; refine (HAT.out).mono ?_; clear HAT; rintro en W3 ⟨⟨v, rfl⟩, hm3, hb3, hk3⟩; have hL3 := (hk3 (w1.heap.size + 1) (fun y => HMEM.out.no_last HLW.out y)).trans HLW.out; have hG3 := (hk3 g HGB.out).trans HNG.out; have hz3 := blk_frozen hL3 e; have ce3 := (blk_cell hL3 e).trans (lastC_get A la e (by omega)); have r3 := (blk_cell hG3 1).trans rfl; have HM3 := Aside0.mk hm3; have HB3 := Aside0.mk hb3; have HL3 := Aside0.mk hL3; clear hm3 hb3 hk3 hL3 hG3)
       refine ⟨plant_next HE.out HI.out.2.2 (by omega) HJ.out.1 HLA.out (by omega) (by omega) HM3.out HL3.out HPM3.out HF.out HTD.out.2 HREST2.out (HBW.out.trans HB3.out), ?_⟩
       show l0.length - (j + 1) < l0.length - j
       omega
      ·obtain ⟨bq, hbq⟩ := Option.ne_none_iff_exists'.1 (hcu.resolve_left hq0)
       rw [hbq, pa_some] at c2
       have hN := HMEM.out.nen hbq HAU.out hne
       clear hm hba hA'a hau hlt2 hst ha0 hae hcu hq hne hq0 hbq
       go_wp2_with (go_at_call 96; refine (HAT.out).mono ?_; clear HAT; rintro en W3 ⟨⟨v, rfl⟩, hm3, hb3, hk3⟩; have hL3 := (hk3 (w1.heap.size + 1) (fun y => HMEM.out.no_last HLW.out y)).trans HLW.out; have hG3 := (hk3 g HGB.out).trans HNG.out; have hz3 := blk_frozen hL3 e; have ce3 := (blk_cell hL3 e).trans (lastC_get A la e (by omega)); have r3 := (blk_cell hG3 1).trans rfl; have HM3 := Aside0.mk hm3; have HB3 := Aside0.mk hb3; have HL3 := Aside0.mk hL3; clear hm3 hb3 hk3 hL3 hG3)
       refine ⟨plant_next HE.out HI.out.2.2 (by omega) HJ.out.1 HLA.out (by omega) (by omega) HM3.out HL3.out HPM3.out HF.out HTD.out.2 HREST2.out (HBW.out.trans HB3.out), ?_⟩
       show l0.length - (j + 1) < l0.length - j
       omega
  ·have hd1 : decide ((j : Int) < (l0.length : Int)) = false := decide_eq_false (by omega)
   have hd2 : decide (j < l0.length) = false := decide_eq_false hlt
   have hjl : j = l0.length := by omega
   have hgo := HGO.out
   rw [List.drop_eq_nil_of_le (by omega)] at hgo
   have h3 : roots = 3 := by simpa [treeGo] using hgo
   have HF2 := Aside0.mk (show G.fl 0 = l0 by rw [HF.out, hjl, List.take_length])
   have HT2 := Aside0.mk (show G.tops = [1, 2, 3] by
    obtain ⟨n, hn, ht⟩ := HP.out.tops
    rw [ht, show n = 3 by omega]; rfl)
   clear hgo h3 hjl HF HGO hlt
   go_wp2
   go_ret2
   exact ⟨_, G, A, h, rfl, HM.out, HP.out.rep, HP.out.nd, HP.out.dom, HT2.out, HF2.out, HBr.out⟩
def fnd (A : Nat → Option Nat) (x : Int) : Nat := if (findA A x).isSome then x.toNat else 0
theorem fnd_eq {w : World} {n0 F : Nat} {A : Nat → Option Nat} {h : Nat → Nd} (m : Mem w n0 F A h) (x : Int) : findA A x = A (fnd A x) := by
 unfold fnd
 cases hf : findA A x with
 | none => simp [m.z]
 | some b =>
  simp only [Option.isSome_some, if_true]
  unfold findA at hf
  split at hf
  ·exact hf.symm
  ·cases hf
theorem fnd_ok {w : World} {n0 F : Nat} {A : Nat → Option Nat} {h : Nat → Nd} (m : Mem w n0 F A h) (x : Int) : fnd A x = 0 ∨ A (fnd A x) ≠ none := by
 by_cases h0 : (findA A x).isSome
 ·exact Or.inr (by rw [← fnd_eq m x]; exact Option.isSome_iff_ne_none.1 h0)
 ·exact Or.inl (by unfold fnd; rw [if_neg h0])
theorem fnd_zero {w : World} {n0 F : Nat} {A : Nat → Option Nat} {h : Nat → Nd} (m : Mem w n0 F A h) (x : Int) (e : fnd A x = 0) : findA A x = none := by rw [fnd_eq m x, e, m.z]
theorem fnd_int {w : World} {n0 F : Nat} {A : Nat → Option Nat} {h : Nat → Nd} (m : Mem w n0 F A h) (x : Int) (e : fnd A x ≠ 0) : (fnd A x : Int) = x := by
 have h1 : (findA A x).isSome := by
  by_cases h0 : (findA A x).isSome
  ·exact h0
  ·exact absurd (by unfold fnd; rw [if_neg h0]) e
 have h2 : fnd A x = x.toNat := by unfold fnd; rw [if_pos h1]
 have h3 : 0 ≤ x := by
  unfold findA at h1
  split at h1
  ·omega
  ·cases h1
 rw [h2]; omega
def nearN (A : Nat → Option Nat) (h : Nat → Nd) (id up at_ : Int) : Nat × Nat :=
 if fnd A up = 0 then (fnd A 3, 0)
 else if fnd A at_ = 0 then (fnd A up, 0)
 else if (h (fnd A at_)).up ≠ fnd A up then (fnd A up, 0)
 else if at_ = id then (fnd A up, 0)
 else (fnd A up, fnd A at_)
set_option maxHeartbeats 2000000 in
set_option maxRecDepth 100000 in
theorem near_any {w : World} {n0 F : Nat} {A : Nat → Option Nat} {h : Nat → Nd} (m : Mem w n0 F A h) (id up at_ : Int) :
  Calls Tryd.prog 110 #[.pointer (some ⟨F, 0, none⟩), .int .i64 id, .int .i64 up, .int .i64 at_] w fun e w' => e = .returned (.tuple #[.pointer (pa (A (nearN A h id up at_).1)), .pointer (pa (A (nearN A h id up at_).2))]) ∧ w' = w := by
 have F1 := Aside0.mk (find_any m up)
 have F2 := Aside0.mk (find_any m at_)
 have F3 := Aside0.mk (find_any m 3)
 have z := m.z
 by_cases h1 : fnd A up = 0
 ·have hn : nearN A h id up at_ = (fnd A 3, 0) := by unfold nearN; rw [if_pos h1]
  rw [hn, z, ← fnd_eq m 3, pa_none]
  rw [fnd_zero m up h1, pa_none] at F1
  clear m h1 hn z
  go_enter Tryd.func110, Tryd.ntmps110
  go_wp2_with (go_at_call 61; first | (refine (F1.out).mono ?_; clear F1; rintro en w1 ⟨rfl, rfl⟩) | (refine (F3.out).mono ?_; clear F3; rintro en w1 ⟨rfl, rfl⟩))
  go_ret2
  exact ⟨rfl, rfl⟩
 ·obtain ⟨b1, hb1⟩ := Option.ne_none_iff_exists'.1 ((fnd_ok m up).resolve_left h1)
  rw [fnd_eq m up, hb1, pa_some] at F1
  by_cases h2 : fnd A at_ = 0
  ·have hn : nearN A h id up at_ = (fnd A up, 0) := by unfold nearN; rw [if_neg h1, if_pos h2]
   rw [hn, z, hb1, pa_none, pa_some]
   rw [fnd_zero m at_ h2, pa_none] at F2
   clear m h1 h2 hn z F3 hb1
   go_enter Tryd.func110, Tryd.ntmps110
   go_wp2_with (go_at_call 61; first | (refine (F1.out).mono ?_; clear F1; rintro en w1 ⟨rfl, rfl⟩) | (refine (F2.out).mono ?_; clear F2; rintro en w1 ⟨rfl, rfl⟩))
   go_ret2
   exact ⟨rfl, rfl⟩
  ·obtain ⟨b2, hb2⟩ := Option.ne_none_iff_exists'.1 ((fnd_ok m at_).resolve_left h2)
   rw [fnd_eq m at_, hb2, pa_some] at F2
   have c2 := m.c2 hb2
   have c0 := m.c0 hb2
   have hi2 := fnd_int m at_ h2
   rw [hi2] at c0
   by_cases h3 : (h (fnd A at_)).up ≠ fnd A up
   ·have hn : nearN A h id up at_ = (fnd A up, 0) := by unfold nearN; rw [if_neg h1, if_neg h2, if_pos h3]
    rw [hn, z, hb1, pa_none, pa_some]
    obtain ⟨q, hq⟩ : ∃ q, q = (h (fnd A at_)).up := ⟨_, rfl⟩
    have hcu := m.cu (fnd A at_) (by rw [hb2]; simp)
    rw [← hq] at c2 h3 hcu
    by_cases hq0 : q = 0
    ·rw [hq0, z, pa_none] at c2
     have hN := neZ ⟨b1, 0, none⟩ w
     clear m h1 h2 hn z F3 hb1 hb2 h3 hq hq0 hcu hi2
     go_enter Tryd.func110, Tryd.ntmps110
     go_wp2_with (go_at_call 61; first | (refine (F1.out).mono ?_; clear F1; rintro en w1 ⟨rfl, rfl⟩) | (refine (F2.out).mono ?_; clear F2; rintro en w1 ⟨rfl, rfl⟩))
     go_ret2
     exact ⟨rfl, rfl⟩
    ·obtain ⟨bq, hbq⟩ := Option.ne_none_iff_exists'.1 (hcu.resolve_left hq0)
     rw [hbq, pa_some] at c2
     have hN := m.nen hbq hb1 h3
     clear m h1 h2 hn z F3 hb1 hb2 h3 hq hq0 hcu hbq hi2
     go_enter Tryd.func110, Tryd.ntmps110
     go_wp2_with (go_at_call 61; first | (refine (F1.out).mono ?_; clear F1; rintro en w1 ⟨rfl, rfl⟩) | (refine (F2.out).mono ?_; clear F2; rintro en w1 ⟨rfl, rfl⟩))
     go_ret2
     exact ⟨rfl, rfl⟩
   ·have h3' : (h (fnd A at_)).up = fnd A up := Decidable.of_not_not h3
    rw [h3', hb1, pa_some] at c2
    have hN := neS ⟨b1, 0, none⟩ w
    by_cases h4 : at_ = id
    ·have hn : nearN A h id up at_ = (fnd A up, 0) := by unfold nearN; rw [if_neg h1, if_neg h2, if_neg h3, if_pos h4]
     rw [hn, z, hb1, pa_none, pa_some]
     subst h4
     have hd : (at_ == at_) = true := beq_self_eq_true at_
     clear m h1 h2 hn z F3 hb1 hb2 h3 h3' hi2
     go_enter Tryd.func110, Tryd.ntmps110
     go_wp2_with (go_at_call 61; first | (refine (F1.out).mono ?_; clear F1; rintro en w1 ⟨rfl, rfl⟩) | (refine (F2.out).mono ?_; clear F2; rintro en w1 ⟨rfl, rfl⟩))
     go_ret2
     exact ⟨rfl, rfl⟩
    ·have hn : nearN A h id up at_ = (fnd A up, fnd A at_) := by unfold nearN; rw [if_neg h1, if_neg h2, if_neg h3, if_neg h4]
     rw [hn, hb1, hb2, pa_some, pa_some]
     have hd : (at_ == id) = false := beq_eq_false_iff_ne.2 h4
     clear m h1 h2 hn z F3 hb1 hb2 h3 h3' h4 hi2
     go_enter Tryd.func110, Tryd.ntmps110
     go_wp2_with (go_at_call 61; first | (refine (F1.out).mono ?_; clear F1; rintro en w1 ⟨rfl, rfl⟩) | (refine (F2.out).mono ?_; clear F2; rintro en w1 ⟨rfl, rfl⟩))
     go_ret2
     exact ⟨rfl, rfl⟩
theorem as_hit {P : Program} {t xT : TypeId} {fs : Array Field} (hu : P.underlying t = some (.struct fs)) (v : Value) (w : World) : (Instr.typeAssert (.iface t v) xT t true).run P w = .ok (.tuple #[v, .bool true]) w := by
 simp [Instr.typeAssert, run_underlying hu]
theorem as_miss {P : Program} {t t' xT : TypeId} {fs : Array Field} {z : Value} (hu : P.underlying t' = some (.struct fs)) (hz : (P.info? t').map (·.zero) = some (some z)) (hne : t ≠ t') (v : Value) (w : World) : (Instr.typeAssert (.iface t v) xT t' true).run P w = .ok (.tuple #[z, .bool false]) w := by
 obtain ⟨j, hj, hz'⟩ := Option.map_eq_some_iff.1 hz
 simp [Instr.typeAssert, run_underlying hu, typeInfo, zeroValue, hj, hz', hne]
@[go_sem]
theorem as_mm (v : Value) (w : World) : (Instr.typeAssert (.iface 114 v) 74 114 true).run Tryd.prog w = .ok (.tuple #[v, .bool true]) w := as_hit Tryd.underlying114 v w
@[go_sem]
theorem as_tt (v : Value) (w : World) : (Instr.typeAssert (.iface 117 v) 74 117 true).run Tryd.prog w = .ok (.tuple #[v, .bool true]) w := as_hit Tryd.underlying117 v w
@[go_sem]
theorem as_vv (v : Value) (w : World) : (Instr.typeAssert (.iface 119 v) 74 119 true).run Tryd.prog w = .ok (.tuple #[v, .bool true]) w := as_hit Tryd.underlying119 v w
def zM : Value := .agg #[.int .i64 0, .int .i64 0, .int .i64 0, .string ByteArray.empty]
def zT : Value := .agg #[.int .i64 0, .string ByteArray.empty]
def zV : Value := .agg #[.int .i64 0, .int .i64 0, .int .i64 0]
@[go_sem]
theorem as_tm (v : Value) (w : World) : (Instr.typeAssert (.iface 117 v) 74 114 true).run Tryd.prog w = .ok (.tuple #[zM, .bool false]) w := as_miss Tryd.underlying114 (by kernel_rfl) (by decide) v w
@[go_sem]
theorem as_vm (v : Value) (w : World) : (Instr.typeAssert (.iface 119 v) 74 114 true).run Tryd.prog w = .ok (.tuple #[zM, .bool false]) w := as_miss Tryd.underlying114 (by kernel_rfl) (by decide) v w
@[go_sem]
theorem as_mt (v : Value) (w : World) : (Instr.typeAssert (.iface 114 v) 74 117 true).run Tryd.prog w = .ok (.tuple #[zT, .bool false]) w := as_miss Tryd.underlying117 (by kernel_rfl) (by decide) v w
@[go_sem]
theorem as_vt (v : Value) (w : World) : (Instr.typeAssert (.iface 119 v) 74 117 true).run Tryd.prog w = .ok (.tuple #[zT, .bool false]) w := as_miss Tryd.underlying117 (by kernel_rfl) (by decide) v w
@[go_sem]
theorem as_mv (v : Value) (w : World) : (Instr.typeAssert (.iface 114 v) 74 119 true).run Tryd.prog w = .ok (.tuple #[zV, .bool false]) w := as_miss Tryd.underlying119 (by kernel_rfl) (by decide) v w
@[go_sem]
theorem as_tv (v : Value) (w : World) : (Instr.typeAssert (.iface 117 v) 74 119 true).run Tryd.prog w = .ok (.tuple #[zV, .bool false]) w := as_miss Tryd.underlying119 (by kernel_rfl) (by decide) v w
def whereR (A : Nat → Option Nat) (p : Nat × Nat) (ok : Bool) : Ending := .returned (.tuple #[.pointer (pa (A p.1)), .pointer (pa (A p.2)), .bool ok])
def WherePost (w : World) (A : Nat → Option Nat) (p : Nat × Nat) (ok : Bool) (e : Ending) (w' : World) : Prop := e = whereR A p ok ∧ Below w.heap.size w w'
set_option maxHeartbeats 1000000 in
set_option maxRecDepth 100000 in
theorem where_make {w : World} {n0 F : Nat} {A : Nat → Option Nat} {h : Nat → Nd} (m : Mem w n0 F A h) (id up at_ : Int) (s : ByteArray) :
  Calls Tryd.prog 89 #[.pointer (some ⟨F, 0, none⟩), .iface 114 (.agg #[.int .i64 id, .int .i64 up, .int .i64 at_, .string s])] w (WherePost w A (if fnd A id = 0 then nearN A h id up at_ else (0, 0)) (decide (fnd A id = 0))) := by
 have z := m.z
 have HM := Aside0.mk m
 by_cases h1 : fnd A id = 0
 ·have F1 := Aside0.mk (fnd_zero m id h1)
  rw [if_pos h1, decide_eq_true h1]
  obtain ⟨p, hp⟩ : ∃ p, p = nearN A h id up at_ := ⟨_, rfl⟩
  rw [← hp]
  have HP := Aside0.mk hp
  clear m h1 z hp
  go_enter Tryd.func89, Tryd.ntmps89
  go_wp2_with (first | (go_at_call 61; with_reducible refine (find_any (HM.out.alloc _) id).mono ?_; rw [F1.out, pa_none]; rintro en w1 ⟨rfl, rfl⟩) | (go_at_call 110; with_reducible refine (near_any (HM.out.alloc _) id up at_).mono ?_; rw [← HP.out]; rintro en w1 ⟨rfl, rfl⟩))
  go_ret3
  exact ⟨rfl, below_box0 w _⟩
 ·obtain ⟨b1, hb1⟩ := Option.ne_none_iff_exists'.1 ((fnd_ok m id).resolve_left h1)
  have F1 := Aside0.mk ((fnd_eq m id).trans hb1)
  rw [if_neg h1, decide_eq_false h1]
  have HZ := Aside0.mk z
  clear m h1 z hb1
  go_enter Tryd.func89, Tryd.ntmps89
  go_wp2_with (first | (go_at_call 61; with_reducible refine (find_any (HM.out.alloc _) id).mono ?_; rw [F1.out, pa_some]; rintro en w1 ⟨rfl, rfl⟩))
  go_ret3
  exact ⟨by unfold whereR; rw [HZ.out, pa_none]; rfl, below_box0 w _⟩
set_option maxHeartbeats 1000000 in
set_option maxRecDepth 100000 in
theorem where_text {w : World} {n0 F : Nat} {A : Nat → Option Nat} {h : Nat → Nd} (m : Mem w n0 F A h) (id : Int) (s : ByteArray) :
  Calls Tryd.prog 89 #[.pointer (some ⟨F, 0, none⟩), .iface 117 (.agg #[.int .i64 id, .string s])] w (WherePost w A (0, 0) false) := by
 have HZ := Aside0.mk m.z
 clear m
 go_enter Tryd.func89, Tryd.ntmps89
 go_wp2
 go_ret3
 exact ⟨by unfold whereR; rw [HZ.out, pa_none]; rfl, Below.refl _ _⟩
set_option maxHeartbeats 1000000 in
set_option maxRecDepth 100000 in
theorem where_move {w : World} {n0 F : Nat} {A : Nat → Option Nat} {h : Nat → Nd} (m : Mem w n0 F A h) (id up at_ : Int) (k : Nat) (r : Bool) (hr : fnd A id ≠ 0 → withinF h (fnd A id) k (fnd A up) = some r) :
  Calls Tryd.prog 89 #[.pointer (some ⟨F, 0, none⟩), .iface 119 (.agg #[.int .i64 id, .int .i64 up, .int .i64 at_])] w (WherePost w A (if fnd A id = 0 then (0, 0) else if r = true then (0, 0) else nearN A h id up at_) (decide (fnd A id ≠ 0) && !r)) := by
 have z := m.z
 have HM := Aside0.mk m
 by_cases h1 : fnd A id = 0
 ·have F1 := Aside0.mk (fnd_zero m id h1)
  rw [if_pos h1, decide_eq_false (fun e => e h1), Bool.false_and]
  have HZ := Aside0.mk z
  clear m h1 z hr
  go_enter Tryd.func89, Tryd.ntmps89
  go_wp2_with (first | (go_at_call 61; with_reducible refine (find_any (HM.out.alloc _) id).mono ?_; rw [F1.out, pa_none]; rintro en w1 ⟨rfl, rfl⟩))
  go_ret3
  exact ⟨by unfold whereR; rw [HZ.out, pa_none]; rfl, below_box0 w _⟩
 ·obtain ⟨b1, hb1⟩ := Option.ne_none_iff_exists'.1 ((fnd_ok m id).resolve_left h1)
  have F1 := Aside0.mk ((fnd_eq m id).trans hb1)
  have F2 := Aside0.mk (fnd_eq m up)
  have HR := Aside0.mk (hr h1)
  have HK := Aside0.mk (fnd_ok m up)
  have HB1 := Aside0.mk hb1
  rw [if_neg h1, decide_eq_true h1, Bool.true_and]
  have HZ := Aside0.mk z
  obtain ⟨c, hc⟩ : ∃ c, c = pa (findA A id) := ⟨_, rfl⟩
  obtain ⟨u, hu⟩ : ∃ u, u = fnd A id := ⟨_, rfl⟩
  obtain ⟨x, hx⟩ : ∃ x, x = fnd A up := ⟨_, rfl⟩
  rw [← hu] at HR HB1
  rw [← hx] at HR HK F2
  clear m h1 z hb1 hr hc hu hx
  cases r with
  | true =>
   rw [if_pos rfl]
   go_enter Tryd.func89, Tryd.ntmps89
   go_wp2_with (first | (go_at_call 61; with_reducible refine (find_any (HM.out.alloc _) id).mono ?_; rw [F1.out, pa_some]; rintro en w1 ⟨rfl, rfl⟩) | (go_at_call 61; with_reducible refine (find_any (HM.out.alloc _) up).mono ?_; rw [F2.out]; rintro en w1 ⟨rfl, rfl⟩) | (go_at_call 62; with_reducible refine (within_any (HM.out.alloc _) x u HK.out HB1.out k true HR.out).mono ?_; rintro en w1 ⟨rfl, rfl⟩))
   go_ret3
   exact ⟨by unfold whereR; rw [HZ.out, pa_none]; rfl, below_box0 w _⟩
  | false =>
   rw [if_neg (by decide)]
   obtain ⟨p, hp⟩ : ∃ p, p = nearN A h id up at_ := ⟨_, rfl⟩
   rw [← hp]
   have HP := Aside0.mk hp
   clear hp
   go_enter Tryd.func89, Tryd.ntmps89
   go_wp2_with (first | (go_at_call 61; with_reducible refine (find_any (HM.out.alloc _) id).mono ?_; rw [F1.out, pa_some]; rintro en w1 ⟨rfl, rfl⟩) | (go_at_call 61; with_reducible refine (find_any (HM.out.alloc _) up).mono ?_; rw [F2.out]; rintro en w1 ⟨rfl, rfl⟩) | (go_at_call 62; with_reducible refine (within_any (HM.out.alloc _) x u HK.out HB1.out k false HR.out).mono ?_; rintro en w1 ⟨rfl, rfl⟩) | (go_at_call 110; with_reducible refine (near_any (HM.out.alloc _) id up at_).mono ?_; rw [← HP.out]; rintro en w1 ⟨rfl, rfl⟩))
   go_ret3
   exact ⟨rfl, below_box0 w _⟩
structure At (w : World) (n0 F : Nat) (A : Nat → Option Nat) (h : Nat → Nd) (G : Fo) : Prop where
 m : Mem w n0 F A h
 rep : RepTop h G
 nd : G.ids.Nodup
 dom : ∀ x, A x ≠ none ↔ x ∈ G.ids
 tops : G.tops = [1, 2, 3]
theorem At.kept {w w' : World} {n0 F : Nat} {A : Nat → Option Nat} {h : Nat → Nd} {G : Fo} (t : At w n0 F A h G) (m : Mem w' n0 F A h) : At w' n0 F A h G := ⟨m, t.rep, t.nd, t.dom, t.tops⟩
theorem At.fnd {w : World} {n0 F : Nat} {A : Nat → Option Nat} {h : Nat → Nd} {G : Fo} (t : At w n0 F A h G) (x : Int) : fnd A x = fndF G x := by
 unfold P.fnd fndF findA
 by_cases hx : 0 ≤ x ∧ x.toNat ∈ G.ids
 ·obtain ⟨b, hb⟩ := Option.ne_none_iff_exists'.1 ((t.dom x.toNat).2 hx.2)
  have := t.m.rng _ b hb
  rw [if_pos hx, if_pos (show 0 ≤ x ∧ x < 37 by omega), hb]
  rfl
 ·rw [if_neg hx]
  by_cases h1 : 0 ≤ x ∧ x < 37
  ·rw [if_pos h1]
   have : A x.toNat = none := Decidable.byContradiction fun g => hx ⟨h1.1, (t.dom _).1 g⟩
   rw [this]; rfl
  ·rw [if_neg h1]; rfl
theorem At.ok {w : World} {n0 F : Nat} {A : Nat → Option Nat} {h : Nat → Nd} {G : Fo} (t : At w n0 F A h G) {x : Nat} (hx : x ∈ G.ids) : ∃ b, A x = some b := Option.ne_none_iff_exists'.1 ((t.dom x).2 hx)
theorem At.three {w : World} {n0 F : Nat} {A : Nat → Option Nat} {h : Nat → Nd} {G : Fo} (t : At w n0 F A h G) : 3 ∈ G.tops := by rw [t.tops]; simp
theorem At.near {w : World} {n0 F : Nat} {A : Nat → Option Nat} {h : Nat → Nd} {G : Fo} (t : At w n0 F A h G) (id up at_ : Int) : nearN A h id up at_ = nearF G id up at_ := by
 unfold nearN nearF
 rw [t.fnd up, t.fnd at_, t.fnd 3]
 by_cases h1 : fndF G up = 0
 ·rw [if_pos h1, if_pos h1]
  have h3 : fndF G 3 = 3 := by
   unfold fndF
   rw [if_pos ⟨by omega, show (3 : Int).toNat ∈ G.ids from tops_ids t.three⟩]; rfl
  rw [h3]
 ·rw [if_neg h1, if_neg h1]
  by_cases h2 : fndF G at_ = 0
  ·rw [if_pos h2, if_pos h2]
  ·rw [if_neg h2, if_neg h2, reptop_par t.rep t.nd (fndF_mem h2).1]
theorem attach_any {w : World} {n0 F : Nat} {A : Nat → Option Nat} {h : Nat → Nd} (m : Mem w n0 F A h) {i u a bi bu : Nat} (hi : A i = some bi) (hu : A u = some bu) (hui : u ≠ i) (ha : a = 0 ∨ A a ≠ none) (hai : a ≠ i) :
  Calls Tryd.prog 96 #[.pointer (some ⟨bi, 0, none⟩), .pointer (some ⟨bu, 0, none⟩), .pointer (pa (A a))] w fun e w' => (∃ v, e = .returned v) ∧ Mem w' n0 F A (attachH h i u a) ∧ Below n0 w w' := by
 by_cases h0 : a = 0
 ·rw [h0, m.z, pa_none]
  exact (attach_first m hi hu hui).mono fun e w' ⟨a1, a2, a3, _⟩ => ⟨a1, a2, a3⟩
 ·obtain ⟨ba, hba⟩ := Option.ne_none_iff_exists'.1 (ha.resolve_left h0)
  rw [hba, pa_some]
  exact (attach_behind m hi hu hba hai).mono fun e w' ⟨a1, a2, a3, _⟩ => ⟨a1, a2, a3⟩
def ApplyPost (w : World) (n0 F : Nat) (G : Fo) (e : Ending) (w' : World) : Prop := (∃ v, e = .returned v) ∧ (∃ A h, At w' n0 F A h G) ∧ Below n0 w w'
set_option maxHeartbeats 1000000 in
set_option maxRecDepth 100000 in
theorem apply_text_no {w : World} {n0 F : Nat} {A : Nat → Option Nat} {h : Nat → Nd} {G : Fo} (t : At w n0 F A h G) (hn0 : n0 ≤ w.heap.size) (id : Int) (s : ByteArray) (h1 : fndF G id = 0) :
  Calls Tryd.prog 64 #[.pointer (some ⟨F, 0, none⟩), .iface 117 (.agg #[.int .i64 id, .string s])] w (ApplyPost w n0 F G) := by
 have F1 := Aside0.mk (fnd_zero t.m id ((t.fnd id).trans h1))
 have HT := Aside0.mk t
 have HN := Aside0.mk hn0
 clear t h1 hn0
 go_enter Tryd.func64, Tryd.ntmps64
 go_wp2_with (go_at_call 61; (with_reducible refine (find_any (HT.out.m.alloc _) id).mono ?_); rw [F1.out, pa_none]; rintro en w1 ⟨rfl, rfl⟩)
 go_end0
 exact ⟨⟨_, rfl⟩, ⟨A, h, HT.out.kept (HT.out.m.alloc _)⟩, (below_box0 w _).mono HN.out⟩
set_option maxHeartbeats 1000000 in
set_option maxRecDepth 100000 in
theorem apply_text_yes {w : World} {n0 F : Nat} {A : Nat → Option Nat} {h : Nat → Nd} {G : Fo} (t : At w n0 F A h G) (hn0 : n0 ≤ w.heap.size) (id : Int) (s : ByteArray) (i : Nat) (hi : fndF G id = i) (h1 : i ≠ 0) :
  Calls Tryd.prog 64 #[.pointer (some ⟨F, 0, none⟩), .iface 117 (.agg #[.int .i64 id, .string s])] w (ApplyPost w n0 F (setF i s G)) := by
 obtain ⟨b, hb⟩ := t.ok (hi ▸ (fndF_mem (hi ▸ h1)).1)
 have F1 : Aside0 (findA A id = some b) := ⟨(fnd_eq t.m id).trans (by rw [t.fnd id, hi]; exact hb)⟩
 have m1 := t.m.alloc (.cells #[.int .i64 id, .string s] 117)
 have c1 := m1.c1 hb
 have z1 := m1.fz hb 1
 have HB := Aside0.mk hb
 have HT := Aside0.mk t
 have HN := Aside0.mk hn0
 have HM := Aside0.mk m1
 clear t h1 hn0 hb hi m1
 go_enter Tryd.func64, Tryd.ntmps64
 go_wp2_with (go_at_call 61; (with_reducible refine (find_any (HT.out.m.alloc _) id).mono ?_); rw [F1.out, pa_some]; rintro en w1 ⟨rfl, rfl⟩)
 go_end0
 refine ⟨⟨_, rfl⟩, ⟨A, _, HM.out.setT HB.out s, reptop_setF HT.out.rep, by rw [setF_ids]; exact HT.out.nd, fun x => by rw [setF_ids]; exact HT.out.dom x, by rw [setF_tops]; exact HT.out.tops⟩, ?_⟩
 exact ((below_box0 w _).mono HN.out).setCell (p := ⟨b, 1, none⟩) (HT.out.m.lo i b HB.out) _
set_option maxHeartbeats 1000000 in
set_option maxRecDepth 100000 in
theorem apply_make_no {w : World} {n0 F : Nat} {A : Nat → Option Nat} {h : Nat → Nd} {G : Fo} (t : At w n0 F A h G) (hn0 : n0 ≤ w.heap.size) (id up at_ : Int) (s : ByteArray) (h1 : fndF G id ≠ 0) :
  Calls Tryd.prog 64 #[.pointer (some ⟨F, 0, none⟩), .iface 114 (.agg #[.int .i64 id, .int .i64 up, .int .i64 at_, .string s])] w (ApplyPost w n0 F G) := by
 have hz : whereR A (0, 0) false = .returned (.tuple #[.pointer none, .pointer none, .bool false]) := by unfold whereR; rw [t.m.z]; rfl
 have HW := Aside0.mk (where_make (t.m.alloc (.cells #[.int .i64 id, .int .i64 up, .int .i64 at_, .string s] 114)) id up at_ s)
 rw [t.fnd id, if_neg h1, decide_eq_false h1] at HW
 have HT := Aside0.mk t
 have HN := Aside0.mk hn0
 have HZ := Aside0.mk hz
 clear t h1 hn0 hz
 go_enter Tryd.func64, Tryd.ntmps64
 go_wp2_with (go_at_call 89; (with_reducible refine (HW.out).mono ?_); rintro en w1 ⟨he, hb⟩; rw [HZ.out] at he; subst he; have HB := Aside0.mk hb; clear hb)
 go_end0
 exact ⟨⟨_, rfl⟩, ⟨A, h, HT.out.kept ((HT.out.m.alloc _).below HB.out)⟩, ((below_box0 w _).mono HN.out).trans (HB.out.mono (by have := HN.out; simp; omega))⟩
theorem At.within {w : World} {n0 F : Nat} {A : Nat → Option Nat} {h : Nat → Nd} {G : Fo} (t : At w n0 F A h G) (u : Nat) {x : Nat} (hx : x = 0 ∨ x ∈ G.ids) : ∃ k, withinF h u k x = some (decide (under u x G)) := by
 rcases hx with rfl | hx
 ·refine ⟨1, ?_⟩
  have : ¬ under u 0 G := by
   rintro ⟨h1, h2 | h2⟩
   ·exact t.rep.ne0 u h1 h2.symm
   ·exact t.rep.ne0 0 (sub_ids u h2) rfl
  rw [withinF, if_pos rfl, decide_eq_false this]
 ·obtain ⟨c, hc⟩ := within_top (u := u) t.rep t.nd hx
  by_cases hu : under u x G
  ·exact ⟨c + 0, by rw [(hc 0).1 hu, decide_eq_true hu]⟩
  ·exact ⟨c + 0 + 1, by rw [(hc 0).2 hu, decide_eq_false hu]⟩
theorem fndF_ok (G : Fo) (x : Int) : fndF G x = 0 ∨ fndF G x ∈ G.ids := by
 by_cases h : fndF G x = 0
 ·exact Or.inl h
 ·exact Or.inr (fndF_mem h).1
theorem At.where_move {w : World} {n0 F : Nat} {A : Nat → Option Nat} {h : Nat → Nd} {G : Fo} (t : At w n0 F A h G) (id up at_ : Int) :
  Calls Tryd.prog 89 #[.pointer (some ⟨F, 0, none⟩), .iface 119 (.agg #[.int .i64 id, .int .i64 up, .int .i64 at_])] w (WherePost w A (if fndF G id = 0 then (0, 0) else if under (fndF G id) (fndF G up) G then (0, 0) else nearF G id up at_) (decide (fndF G id ≠ 0 ∧ ¬ under (fndF G id) (fndF G up) G))) := by
 obtain ⟨k, hk⟩ := t.within (fndF G id) (fndF_ok G up)
 have := P.where_move t.m id up at_ k (decide (under (fndF G id) (fndF G up) G)) (fun _ => by rw [t.fnd id, t.fnd up]; exact hk)
 rw [t.fnd id, t.near] at this
 by_cases h1 : fndF G id = 0
 ·simpa [h1] using this
 ·by_cases h2 : under (fndF G id) (fndF G up) G
  ·simpa [h1, h2] using this
  ·simpa [h1, h2] using this
set_option maxHeartbeats 1000000 in
set_option maxRecDepth 100000 in
theorem apply_move_no {w : World} {n0 F : Nat} {A : Nat → Option Nat} {h : Nat → Nd} {G : Fo} (t : At w n0 F A h G) (hn0 : n0 ≤ w.heap.size) (id up at_ : Int) (h1 : ¬ (fndF G id ≠ 0 ∧ ¬ under (fndF G id) (fndF G up) G)) :
  Calls Tryd.prog 64 #[.pointer (some ⟨F, 0, none⟩), .iface 119 (.agg #[.int .i64 id, .int .i64 up, .int .i64 at_])] w (ApplyPost w n0 F G) := by
 have hz : whereR A (0, 0) false = .returned (.tuple #[.pointer none, .pointer none, .bool false]) := by unfold whereR; rw [t.m.z]; rfl
 have hw := (t.kept (t.m.alloc (.cells #[.int .i64 id, .int .i64 up, .int .i64 at_] 119))).where_move id up at_
 rw [decide_eq_false h1] at hw
 have e : (if fndF G id = 0 then ((0, 0) : Nat × Nat) else if under (fndF G id) (fndF G up) G then (0, 0) else nearF G id up at_) = (0, 0) := by
  by_cases h2 : fndF G id = 0
  ·rw [if_pos h2]
  ·rw [if_neg h2, if_pos]
   exact Decidable.byContradiction fun g => h1 ⟨h2, g⟩
 rw [e] at hw
 have HW := Aside0.mk hw
 have HT := Aside0.mk t
 have HN := Aside0.mk hn0
 have HZ := Aside0.mk hz
 clear t h1 hn0 hz hw e
 go_enter Tryd.func64, Tryd.ntmps64
 go_wp2_with (go_at_call 89; (with_reducible refine (HW.out).mono ?_); rintro en w1 ⟨he, hb⟩; rw [HZ.out] at he; subst he; have HB := Aside0.mk hb; clear hb)
 go_end0
 exact ⟨⟨_, rfl⟩, ⟨A, h, HT.out.kept ((HT.out.m.alloc _).below HB.out)⟩, ((below_box0 w _).mono HN.out).trans (HB.out.mono (by have := HN.out; simp; omega))⟩
set_option maxHeartbeats 1000000 in
set_option maxRecDepth 100000 in
theorem apply_make_yes {w : World} {n0 F : Nat} {A : Nat → Option Nat} {h : Nat → Nd} {G : Fo} (t : At w n0 F A h G) (hn0 : n0 ≤ w.heap.size) (i : Nat) (up at_ : Int) (s : ByteArray) (h1 : fndF G (i : Int) = 0) (hi0 : i ≠ 0) (hi37 : i < 37) :
  Calls Tryd.prog 64 #[.pointer (some ⟨F, 0, none⟩), .iface 114 (.agg #[.int .i64 (i : Int), .int .i64 up, .int .i64 at_, .string s])] w (ApplyPost w n0 F (putF G (nearF G (i : Int) up at_) i s .nil)) := by
 have hp := near_ok (G := G) (tops_ids t.three) (i : Int) up at_
 obtain ⟨p, hpe⟩ : ∃ p, p = nearF G (i : Int) up at_ := ⟨_, rfl⟩
 have hw := where_make (t.m.alloc (.cells #[.int .i64 (i : Int), .int .i64 up, .int .i64 at_, .string s] 114)) (i : Int) up at_ s
 rw [t.fnd, if_pos h1, decide_eq_true h1, t.near, ← hpe] at hw
 rw [← hpe] at hp ⊢
 have hiG : i ∉ G.ids := fun g => by
  unfold fndF at h1
  rw [if_pos ⟨by omega, show (i : Int).toNat ∈ G.ids from g⟩] at h1
  exact hi0 h1
 obtain ⟨bu, hbu⟩ := t.ok hp.up
 have hz : whereR A p true = .returned (.tuple #[.pointer (some ⟨bu, 0, none⟩), .pointer (pa (A p.2)), .bool true]) := by unfold whereR; rw [hbu]; rfl
 have hAi : A i = none := Decidable.byContradiction fun g => hiG ((t.dom i).1 g)
 have hui : p.1 ≠ i := fun g => hiG (g ▸ hp.up)
 have hai : p.2 ≠ i := fun g => by
  rcases hp.at_ with h0 | ⟨h0, _⟩
  ·exact hi0 (g ▸ h0)
  ·exact hiG (g ▸ h0)
 have HU := Aside0.mk hui
 have HA := Aside0.mk hai
 have HW := Aside0.mk hw
 have HT := Aside0.mk t
 have HN := Aside0.mk hn0
 have HZ := Aside0.mk hz
 have HI := Aside0.mk (And.intro hi0 (And.intro hi37 (And.intro hiG hAi)))
 have HBU := Aside0.mk hbu
 have HP := Aside0.mk hp
 have i37 : (i : Int) < 37 := by omega
 have i0' : 0 ≤ (i : Int) := by omega
 clear t h1 hn0 hz hw hp hbu hui hai hiG hAi hi0 hi37 hpe
 go_enter Tryd.func64, Tryd.ntmps64
 go_wp2_with (go_at_call 89; (with_reducible refine (HW.out).mono ?_); rintro en W2 ⟨he, hb⟩; rw [HZ.out] at he; subst he; have HB := Aside0.mk hb; have HX := Aside0.mk (blk_below (blk_new w _) hb); clear hb; have d0 := (blk_cell HX.out 0).trans rfl; have d3 := (blk_cell HX.out 3).trans rfl)
 obtain ⟨g, hg⟩ : ∃ g, g = W2.heap.size := ⟨_, rfl⟩
 obtain ⟨W3, hW3⟩ : ∃ W3, W3 = W2.alloc (.cells #[.int .i64 (i : Int), .string s, .pointer none, .pointer none, .pointer none] 85) := ⟨_, rfl⟩
 rw [← hg, ← hW3]
 have nB : W3.heap[g]? = some (.cells #[.int .i64 (i : Int), .string s, .pointer none, .pointer none, .pointer none] 85 (0, 0)) := by rw [hW3, hg]; exact blk_new W2 _
 have X3 : W3.heap[w.heap.size]? = some (.cells #[.int .i64 (i : Int), .int .i64 up, .int .i64 at_, .string s] 114 (0, 0)) := by rw [hW3]; exact blk_alloc HX.out _
 have M2 := (HT.out.m.alloc (.cells #[.int .i64 (i : Int), .int .i64 up, .int .i64 at_, .string s] 114)).below HB.out
 have M3 : Mem W3 n0 F A h := by rw [hW3]; exact M2.alloc _
 have hsz := HB.out.size
 rw [World.size_alloc] at hsz
 have hltF := M2.ltF
 have hgA : ∀ y, A y ≠ some g := fun y hy => by have := M2.lt hy; omega
 have hne3 : ∀ y, A y ≠ none → (h y).up ≠ i ∧ (h y).first ≠ i ∧ (h y).next ≠ i := fun y hy =>
  ⟨fun e2 => (M2.cu y hy).elim (fun e3 => HI.out.1 (e2 ▸ e3)) (fun e3 => e3 (e2 ▸ HI.out.2.2.2)), fun e2 => (M2.cf y hy).elim (fun e3 => HI.out.1 (e2 ▸ e3)) (fun e3 => e3 (e2 ▸ HI.out.2.2.2)), fun e2 => (M2.cn y hy).elim (fun e3 => HI.out.1 (e2 ▸ e3)) (fun e3 => e3 (e2 ▸ HI.out.2.2.2))⟩
 have m4 := M3.add HI.out.1 HI.out.2.1 HI.out.2.2.2 hne3 (b := g) (t := s) hgA (by omega) (by have := HN.out; omega) nB
 obtain ⟨W4, hW4⟩ : ∃ W4, W4 = (W3.setCell ⟨F, i, none⟩ (.pointer (some ⟨g, 0, none⟩))).drew := ⟨_, rfl⟩
 have m5 : Mem W4 n0 F (upA A i g) (upN h i ⟨s, 0, 0, 0⟩) := by rw [hW4]; exact m4.drew
 have b4 : Below n0 w W4 := by
  rw [hW4, hW3]
  exact (((((below_box0 w _).mono HN.out).trans (HB.out.mono (by have := HN.out; simp; omega))).alloc (by have := HN.out; omega) _).setCell (p := ⟨F, i, none⟩) HT.out.m.loF _).drew
 have cT := M3.cF i HI.out.2.1
 have fT := M3.fzF i
 have q0 := (blk_cell X3 0).trans rfl
 have ne1 : w.heap.size ≠ F := by have := HT.out.m.ltF; omega
 have ne2 : F ≠ w.heap.size := fun e => ne1 e.symm
 have HW4 := Aside0.mk hW4
 have HAT := Aside0.mk (attach_any m5 (i := i) (u := p.1) (a := p.2) (bi := g) (bu := bu) (if_pos rfl) ((if_neg HU.out).trans HBU.out) HU.out (by
  rcases HP.out.at_ with h0 | ⟨h0, _⟩
  ·exact Or.inl h0
  ·right; rw [show upA A i g p.2 = A p.2 from if_neg HA.out]; exact (HT.out.dom _).2 h0) HA.out)
 rw [show upA A i g p.2 = A p.2 from if_neg HA.out] at HAT
 have HB4 := Aside0.mk b4
 clear nB X3 M2 M3 hsz hltF hgA hne3 m4 m5 b4 hW4 hW3 hg d0 d3
 go_region
 rw [← HW4.out]
 clear cT fT q0
 go_wp2_with (go_at_call 96; (with_reducible refine (HAT.out).mono ?_); rintro en W5 ⟨⟨v, rfl⟩, hm, hb⟩; have HM5 := Aside0.mk hm; have HB5 := Aside0.mk hb; clear hm hb)
 go_end0
 have t := HT.out
 obtain ⟨hi0, hi37, hiG, hAi⟩ := HI.out
 have hfree : Free (upN h i ⟨s, 0, 0, 0⟩) i s .nil := ⟨hi0, by rw [show upN h i ⟨s, 0, 0, 0⟩ i = ⟨s, 0, 0, 0⟩ from if_pos rfl], by rw [show upN h i ⟨s, 0, 0, 0⟩ i = ⟨s, 0, 0, 0⟩ from if_pos rfl]; rfl, trivial, by simp [Fo.ids]⟩
 have hext : RepTop (upN h i ⟨s, 0, 0, 0⟩) G := t.rep.ext fun x hx => upN_out (fun e => hiG (e ▸ hx))
 have hat : p.2 = 0 ∨ (p.2 ∈ G.ids ∧ p.2 ∉ G.tops) := by
  rcases HP.out.at_ with h0 | ⟨h0, h2, _⟩
  ·exact Or.inl h0
  ·exact Or.inr ⟨h0, par_top h t.rep t.nd h0 (by rw [h2]; exact t.rep.ne0 _ HP.out.up)⟩
 have hrep := putF_rep (p := p) hfree hext t.nd hiG (by simp [Fo.ids]) HP.out.up (by
  rcases HP.out.at_ with h0 | ⟨h0, h2, _⟩
  ·exact Or.inl h0
  ·right
   refine ⟨h0, ?_, (hat.resolve_left (t.rep.ne0 _ h0)).2⟩
   rw [upN_out HA.out, reptop_par t.rep t.nd h0, h2])
 have hids := putF_ids (p := p) (i := i) (t := s) (s := .nil) t.nd HP.out.up (hat.imp id And.left)
 simp only [Fo.ids, List.nil_append] at hids
 refine ⟨⟨_, rfl⟩, ⟨_, _, HM5.out, hrep, ?_, fun x => ?_, ?_⟩, HB4.out.trans HB5.out⟩
 ·exact hids.nodup_iff.2 (List.nodup_cons.2 ⟨hiG, t.nd⟩)
 ·rw [hids.mem_iff, List.mem_cons]
  unfold upA
  by_cases hx : x = i
  ·simp [hx]
  ·rw [if_neg hx]
   simp only [hx, false_or]
   exact t.dom x
 ·rw [putF_tops (hat.imp id And.right)]; exact t.tops
theorem sibT_ne {x : Nat} (hx0 : x ≠ 0) : ∀ {F : Fo}, F.ids.Nodup → x ∈ F.ids → x ∉ F.tops → sibT x F ≠ x
 | .nil, _, hx, _ => by simp [Fo.ids] at hx
 | .nd j u k n, hn, hx, ht => by
  obtain ⟨n1, n2, n3, n4, n5⟩ := nodup_nd hn
  simp only [Fo.ids, Fo.tops, List.mem_cons, List.mem_append, not_or] at hx ht
  unfold sibT
  by_cases hk : x ∈ k.ids
  ·rw [if_pos hk]; exact sib_ne hx0 n3 hk (fun e => hx0 e.symm)
  ·rw [if_neg hk]; exact sibT_ne hx0 n4 (by rcases hx with g | g | g; exact absurd g ht.1; exact absurd g hk; exact g) ht.2
theorem At.detach {w : World} {n0 F : Nat} {A : Nat → Option Nat} {h : Nat → Nd} {G : Fo} (t : At w n0 F A h G) {i b : Nat} (hi : A i = some b) (hit : i ∉ G.tops) :
  Calls Tryd.prog 99 #[.pointer (some ⟨b, 0, none⟩)] w fun e W' => (∃ v, e = .returned v) ∧ Mem W' n0 F A (detachH h i (sibT i G)) ∧ Below n0 w W' := by
 have hG : i ∈ G.ids := (t.dom i).1 (by rw [hi]; simp)
 obtain ⟨u1, u2⟩ := reptop_up t.rep t.nd hG hit
 obtain ⟨r1, r2⟩ := reptop_sub t.rep t.nd u1
 obtain ⟨s1, s2⟩ := sibT_pv t.rep t.nd hG hit
 obtain ⟨bu, hbu⟩ := t.ok u1
 have hsA : ∀ x ∈ (sub (h i).up G).ids, A x ≠ none := fun x hx => (t.dom x).2 (sub_ids _ hx)
 have hL := nlist_of t.m r1 hsA
 rw [← r2] at hL
 rw [s1]
 refine detach_any t.m hi hbu rfl u2 (sub (h i).up G).tops (fun x hx => hsA x (tops_ids hx)) hL fun h0 => ?_
 rw [← s1] at h0 ⊢
 exact ⟨(t.dom _).2 ((sibT_mem i G).resolve_left h0), sibT_ne (t.rep.ne0 i hG) t.nd hG hit⟩
set_option maxHeartbeats 1000000 in
set_option maxRecDepth 100000 in
theorem apply_move_yes {w : World} {n0 F : Nat} {A : Nat → Option Nat} {h : Nat → Nd} {G : Fo} (t : At w n0 F A h G) (hn0 : n0 ≤ w.heap.size) (i : Nat) (up at_ : Int) (h1 : fndF G (i : Int) = i) (hi0 : i ≠ 0) (hit : i ∉ G.tops) (hu : ¬ under i (fndF G up) G) :
  Calls Tryd.prog 64 #[.pointer (some ⟨F, 0, none⟩), .iface 119 (.agg #[.int .i64 (i : Int), .int .i64 up, .int .i64 at_])] w (ApplyPost w n0 F (putF (del i G) (nearF G (i : Int) up at_) i (txtF i G) (sub i G))) := by
 have hiG : i ∈ G.ids := by have := (fndF_mem (G := G) (x := (i : Int)) (by rw [h1]; exact hi0)).1; rwa [h1] at this
 have hp := near_del t.rep t.nd t.three hiG hit (id := (i : Int)) (up := up) (at_ := at_) rfl hu
 obtain ⟨p, hpe⟩ : ∃ p, p = nearF G (i : Int) up at_ := ⟨_, rfl⟩
 have hw := (t.kept (t.m.alloc (.cells #[.int .i64 (i : Int), .int .i64 up, .int .i64 at_] 119))).where_move (i : Int) up at_
 rw [h1, if_neg hi0, if_neg hu, decide_eq_true ⟨hi0, hu⟩, ← hpe] at hw
 rw [← hpe] at hp ⊢
 have hdelG : ∀ {y}, y ∈ (del i G).ids → y ∈ G.ids := fun {y} hy => (ids_del i G t.nd hiG).mem_iff.2 (List.mem_cons_of_mem _ (List.mem_append_right _ hy))
 obtain ⟨bu, hbu⟩ := t.ok (hdelG hp.1)
 obtain ⟨bi, hbi⟩ := t.ok hiG
 have hz : whereR A p true = .returned (.tuple #[.pointer (some ⟨bu, 0, none⟩), .pointer (pa (A p.2)), .bool true]) := by unfold whereR; rw [hbu]; rfl
 have hnd := (ids_del i G t.nd hiG).nodup_iff.1 t.nd
 have hidel : i ∉ (del i G).ids := fun g => (List.nodup_cons.1 hnd).1 (List.mem_append_right _ g)
 have hui : p.1 ≠ i := fun g => hidel (g ▸ hp.1)
 have hai : p.2 ≠ i := fun g => by
  rcases hp.2 with h0 | ⟨h0, _⟩
  ·exact hi0 (g ▸ h0)
  ·exact hidel (g ▸ h0)
 have F1 : Aside0 (findA A (i : Int) = some bi) := ⟨(fnd_eq t.m _).trans (by rw [t.fnd, h1]; exact hbi)⟩
 have HD : Aside0 (∀ W, Mem W n0 F A h → Calls Tryd.prog 99 #[.pointer (some ⟨bi, 0, none⟩)] W fun e W' => (∃ v, e = .returned v) ∧ Mem W' n0 F A (detachH h i (sibT i G)) ∧ Below n0 W W') := ⟨fun W m => (t.kept m).detach hbi hit⟩
 have HAT : Aside0 (∀ W, Mem W n0 F A (detachH h i (sibT i G)) → Calls Tryd.prog 96 #[.pointer (some ⟨bi, 0, none⟩), .pointer (some ⟨bu, 0, none⟩), .pointer (pa (A p.2))] W fun e W' => (∃ v, e = .returned v) ∧ Mem W' n0 F A (attachH (detachH h i (sibT i G)) i p.1 p.2) ∧ Below n0 W W') := ⟨fun W m => attach_any m hbi hbu hui (by
  rcases hp.2 with h0 | ⟨h0, _⟩
  ·exact Or.inl h0
  ·exact Or.inr ((t.dom _).2 (hdelG h0))) hai⟩
 have HW := Aside0.mk hw
 have HT := Aside0.mk t
 have HN := Aside0.mk hn0
 have HZ := Aside0.mk hz
 have HI := Aside0.mk (And.intro hi0 (And.intro hit hiG))
 have HP := Aside0.mk hp
 have HND := Aside0.mk hnd
 have HA := Aside0.mk (And.intro hai hidel)
 clear t h1 hn0 hz hw hp hbu hbi hui hai hiG hi0 hit hpe hnd hidel hu
 go_enter Tryd.func64, Tryd.ntmps64
 go_wp2_with (first
  | (go_at_call 89; (with_reducible refine (HW.out).mono ?_); rintro en W2 ⟨he, hb⟩; rw [HZ.out] at he; subst he; have HB := Aside0.mk hb; have HX := Aside0.mk (blk_below (blk_new w _) hb); have HM2 := Aside0.mk ((HT.out.m.alloc _).below hb); clear hb; have d0 := (blk_cell HX.out 0).trans rfl)
  | (go_at_call 61; (with_reducible refine (find_any HM2.out (i : Int)).mono ?_); rw [F1.out, pa_some]; rintro en W3 ⟨rfl, rfl⟩)
  | (go_at_call 99; (with_reducible refine (HD.out _ HM2.out).mono ?_); rintro en W4 ⟨⟨v4, rfl⟩, hm, hb⟩; have HM4 := Aside0.mk hm; have HB4 := Aside0.mk hb; clear hm hb)
  | (go_at_call 96; (with_reducible refine (HAT.out _ HM4.out).mono ?_); rintro en W5 ⟨⟨v5, rfl⟩, hm, hb⟩; have HM5 := Aside0.mk hm; have HB5 := Aside0.mk hb; clear hm hb))
 go_end0
 have t := HT.out
 obtain ⟨hi0, hit, hiG⟩ := HI.out
 obtain ⟨hai, hidel⟩ := HA.out
 have hp := HP.out
 have hnd := HND.out
 obtain ⟨n1, n2⟩ := List.nodup_cons.1 hnd
 obtain ⟨n3, n4, n5⟩ := List.nodup_append.1 n2
 have hfree : Free (detachH h i (sibT i G)) i (txtF i G) (sub i G) := by
  rw [← reptop_txt t.rep t.nd hiG]
  exact freeT_detach t.rep t.nd hiG hit (sibT_out t.rep t.nd hiG hit) (upT_out t.rep t.nd hiG hit)
 have hdel := reptop_del t.rep t.nd hiG hit
 have hdis : ∀ j ∈ (sub i G).ids, j ∉ (del i G).ids := fun j hj hk => n5 j hj j hk rfl
 have hup2 : ∀ y, y ≠ i → (detachH h i (sibT i G) y).up = (h y).up := fun y hy => by
  by_cases h0 : sibT i G = 0
  ·rw [h0, detachH_zero h i hy]; split <;> rfl
  ·rw [detachH_pos h i _ h0 hy]; split <;> rfl
 have hrep := putF_rep (p := p) hfree hdel n4 hidel hdis hp.1 (hp.2.imp id fun ⟨a1, a2, a3, _⟩ => ⟨a1, by rw [hup2 _ hai]; exact a2, a3⟩)
 have hids := putF_ids (p := p) (i := i) (t := txtF i G) (s := sub i G) n4 hp.1 (hp.2.imp id And.left)
 have hall := (ids_del i G t.nd hiG).trans hids.symm
 refine ⟨⟨_, rfl⟩, ⟨_, _, HM5.out, hrep, hall.nodup_iff.1 t.nd, fun x => by rw [← hall.mem_iff]; exact t.dom x, ?_⟩, ?_⟩
 ·rw [putF_tops (hp.2.imp id fun ⟨_, _, a3, _⟩ => a3), tops_del i G hit]; exact t.tops
 ·exact ((((below_box0 w _).mono HN.out).trans (HB.out.mono (by have := HN.out; simp; omega))).trans HB4.out).trans HB5.out
end Go.Proofs.YtlkheeegkifblaaDoor.P
namespace Go.Proofs.YtlkheeegkifblaaDoor.FP
open Go.Proofs.YtlkheeegkifblaaDoor.P
def toFo (l : List S37) : Fo := l.foldl (fun G x => snoc x.f0.toNat x.f2 x.f1.toNat G) .nil
theorem fl_deep : ∀ (F : Fo) (d : Nat) {x : S37}, x ∈ F.fl d → (d : Int) ≤ x.f1
 | .nil, d, x, h => by simp [Fo.fl] at h
 | .nd i t k n, d, x, h => by
  simp only [Fo.fl, List.mem_cons, List.mem_append] at h
  rcases h with rfl | h | h
  ·exact Int.le_refl _
  ·have := fl_deep k (d + 1) h; omega
  ·exact fl_deep n d h
theorem fl_head (F : Fo) (d : Nat) : F.fl d = [] ∨ ∃ x r, F.fl d = x :: r ∧ x.f1 = (d : Int) := by
 cases F with
 | nil => exact Or.inl rfl
 | nd i t k n => exact Or.inr ⟨_, _, rfl, rfl⟩
theorem split_deep {d : Nat} : ∀ {a a' b b' : List S37}, (∀ x ∈ a, (d : Int) < x.f1) → (∀ x ∈ a', (d : Int) < x.f1) → (b = [] ∨ ∃ x r, b = x :: r ∧ x.f1 = (d : Int)) → (b' = [] ∨ ∃ x r, b' = x :: r ∧ x.f1 = (d : Int)) → a ++ b = a' ++ b' → a = a' ∧ b = b'
 | [], [], b, b', _, _, _, _, e => ⟨rfl, e⟩
 | [], y :: a', b, b', _, h2, h3, _, e => by
  exfalso
  rcases h3 with rfl | ⟨x, r, rfl, hx⟩
  ·simp at e
  ·simp only [List.nil_append, List.cons_append, List.cons.injEq] at e
   have := h2 y List.mem_cons_self
   rw [← e.1] at this
   omega
 | y :: a, [], b, b', h1, _, _, h4, e => by
  exfalso
  rcases h4 with rfl | ⟨x, r, rfl, hx⟩
  ·simp at e
  ·simp only [List.nil_append, List.cons_append, List.cons.injEq] at e
   have := h1 y List.mem_cons_self
   rw [e.1] at this
   omega
 | y :: a, y' :: a', b, b', h1, h2, h3, h4, e => by
  simp only [List.cons_append, List.cons.injEq] at e
  obtain ⟨e1, e2⟩ := split_deep (fun x hx => h1 x (List.mem_cons_of_mem _ hx)) (fun x hx => h2 x (List.mem_cons_of_mem _ hx)) h3 h4 e.2
  exact ⟨by rw [e.1, e1], e2⟩
theorem fl_inj : ∀ (F G : Fo) (d : Nat), F.fl d = G.fl d → F = G
 | .nil, .nil, _, _ => rfl
 | .nil, .nd _ _ _ _, _, h => by simp [Fo.fl] at h
 | .nd _ _ _ _, .nil, _, h => by simp [Fo.fl] at h
 | .nd i t k n, .nd i' t' k' n', d, h => by
  simp only [Fo.fl, List.cons.injEq, S37.mk.injEq] at h
  obtain ⟨⟨h1, _, h2⟩, h3⟩ := h
  obtain ⟨e1, e2⟩ := split_deep (d := d) (fun x hx => by have := fl_deep k (d + 1) hx; omega) (fun x hx => by have := fl_deep k' (d + 1) hx; omega) (fl_head n d) (fl_head n' d) h3
  rw [fl_inj k k' (d + 1) e1, fl_inj n n' d e2, h2, show i = i' by omega]
theorem fold_fl : ∀ (l : List S37) (G : Fo) (seen : List Int) (roots : Int), treeGo seen roots ((dpth G : Int) - 1) l = true → (l.foldl (fun G x => snoc x.f0.toNat x.f2 x.f1.toNat G) G).fl 0 = G.fl 0 ++ l
 | [], G, _, _, _ => by simp
 | x :: l, G, seen, roots, h => by
  unfold treeGo at h
  simp only [Bool.and_eq_true, decide_eq_true_eq] at h
  obtain ⟨hrow, _, hdep, hrest⟩ := h
  obtain ⟨b0, b37, d0, d18⟩ := rowB_id hrow
  have he : x.f1.toNat ≤ dpth G := by omega
  have hd : ((dpth (snoc x.f0.toNat x.f2 x.f1.toNat G) : Int) - 1) = x.f1 := by rw [snoc_dpth _ _ G _ he]; omega
  have hrest2 : ∃ s r, treeGo s r x.f1 l = true := by
   split at hrest
   ·simp only [Bool.and_eq_true] at hrest; exact ⟨_, _, hrest.2⟩
   ·exact ⟨_, _, hrest⟩
  obtain ⟨s, r, hr⟩ := hrest2
  rw [List.foldl_cons, fold_fl l _ s r (by rw [hd]; exact hr), snoc_fl _ _ G _ 0 he, List.append_assoc, Nat.zero_add]
  congr 1
  obtain ⟨x0, x1, x2⟩ := x
  simp only [List.singleton_append, List.cons.injEq, and_true]
  simp only at b0 d0
  congr 1
  ·omega
  ·omega
theorem toFo_fl {l : List S37} (h : treeB l = true) : (toFo l).fl 0 = l := by
 have := fold_fl l .nil [] 0 h
 exact this
theorem toFo_of {l : List S37} {G : Fo} (h : treeB l = true) (hG : G.fl 0 = l) : toFo l = G := fl_inj _ _ 0 ((toFo_fl h).trans hG.symm)
theorem nodup_len : ∀ (n : Nat) (l : List Nat), l.Nodup → (∀ x ∈ l, x < n) → l.length ≤ n
 | 0, [], _, _ => Nat.le_refl _
 | 0, x :: l, _, h => absurd (h x List.mem_cons_self) (Nat.not_lt_zero _)
 | n + 1, l, hn, h => by
  have e1 := nodup_len n (l.erase n) (hn.erase n) fun x hx => by
   have h1 := (hn.mem_erase_iff).1 hx
   have := h x h1.2
   omega
  have := List.length_erase (a := n) (l := l)
  split at this <;> omega
end Go.Proofs.YtlkheeegkifblaaDoor.FP
namespace Go.Proofs.YtlkheeegkifblaaDoor.P
open Go.RowKit Go.Shelf Go.Proofs.YtlkheeegkifblaaDoorW.PrintWords Go.Proofs.YtlkheeegkifblaaDoorW.PrintLast Go.Proofs.YtlkheeegkifblaaDoorW.PrintMore Go.Proofs.YtlkheeegkifblaaDoor.FP
attribute [local go_sem] Oper.semAt_some

theorem roomN {F : Fence} (hd : F.depth = none) (k : Nat) : F.room k := fun d h => by rw [hd] at h; cases h
theorem callsIn_any {F : Fence} (hd : F.depth = none) {m m' : Nat} {P : Program} {f : FuncId} {args : Array Value} {w : World} {R : Ending → World → Prop} (h : CallsIn F m P f args w R) : CallsIn F m' P f args w R :=
 ⟨h.1, fun cs _ => h.2 cs (roomN hd _)⟩
theorem roundIn_any {F : Fence} (hd : F.depth = none) {m m' : Nat} {P : Program} {l : Nat} {f : FuncId} {tmps : Array Value} {assign body : Code} {w : World} {R : Ending → World → Prop}
  (h : RoundIn F m P l f tmps assign body w R) : RoundIn F m' P l f tmps assign body w R := ⟨h.1, fun c cs _ => h.2 c cs (roomN hd _)⟩
theorem KeepsFrom.mono {B B' : Nat} {W W' : World} (h : KeepsFrom B W W') (hB : B ≤ B') : KeepsFrom B' W W' := ⟨h.size, fun k o hk => h.same k o (Nat.le_trans hB hk)⟩
def Stb {β : Type} (B0 : Nat) (J : β → World → Prop) : Prop :=
 ∀ s V W row, J s V → V.grownBy W row → (∀ r, row = some r → B0 ≤ r ∧ ∃ o : Obj, V.heap[r]? = some o ∧ (o.isCells = false ∨ ∃ v, o = .cells #[v] 4 (0, 0))) → J s W
theorem Stb.own {β : Type} {B0 B : Nat} {J : β → World → Prop} (h : Stb B0 J) (hB : B0 ≤ B) : OwnFrom B J := fun s V W row hs hg hr => h s V W row hs hg fun r e => by
 obtain ⟨h1, o, h2, h3⟩ := hr r e
 exact ⟨Nat.le_trans hB h1, o, h2, Or.inl h3⟩
theorem Stb.alloc {β : Type} {B0 : Nat} {J : β → World → Prop} (h : Stb B0 J) {s : β} {V : World} (o : Obj) (hs : J s V) : J s (V.alloc o) := h s V _ none hs (World.grownBy_alloc V o none) (fun r e => by cases e)
theorem Stb.put {β : Type} {B0 : Nat} {J : β → World → Prop} (h : Stb B0 J) {s : β} {V : World} {l : Nat} {o : Obj} (o' : Obj) (hs : J s V) (hl : V.heap[l]? = some o) (ho : o.isCells = false) (hB : B0 ≤ l) : J s (V.putObj l o') :=
 h s V _ (some l) hs (grownBy_putObj' V l o') (fun r e => by cases e; exact ⟨hB, o, hl, Or.inl ho⟩)
theorem Stb.box {β : Type} {B0 : Nat} {J : β → World → Prop} (h : Stb B0 J) {s : β} {V : World} {l : Nat} {v : Value} (v' : Value) (hs : J s V) (hl : Boxed V l 4 v) (hB : B0 ≤ l) : J s (V.setCell ⟨l, 0, none⟩ v') :=
 h s V _ (some l) hs (grownBy_setCell' V l v') (fun r e => by cases e; exact ⟨hB, _, hl, Or.inr ⟨v, rfl⟩⟩)
structure YE (A : Nat → Option Nat) where
 val : Nat
 dep : Int
 ok : A val ≠ none
 d0 : 0 ≤ dep ∧ dep ≤ 1000
def YE.pr {A : Nat → Option Nat} (e : YE A) : Nat × Int := (e.val, e.dep)
theorem YE.inj {A : Nat → Option Nat} : ∀ {e e' : YE A}, e.pr = e'.pr → e = e'
 | ⟨v, d, _, _⟩, ⟨v', d', _, _⟩, h => by
  have h1 : v = v' := congrArg Prod.fst h
  have h2 : d = d' := congrArg Prod.snd h
  subst h1; subst h2; rfl
theorem YE.inj_map {A : Nat → Option Nat} : ∀ {l l' : List (YE A)}, l.map YE.pr = l'.map YE.pr → l = l'
 | [], [], _ => rfl
 | [], _ :: _, h => by cases h
 | _ :: _, [], h => by cases h
 | e :: l, e' :: l', h => by
  rw [List.map_cons, List.map_cons] at h
  rw [YE.inj (List.cons.inj h).1, YE.inj_map (List.cons.inj h).2]
def mkYE (A : Nat → Option Nat) : (l : List (Nat × Int)) → (∀ p ∈ l, A p.1 ≠ none ∧ 0 ≤ p.2 ∧ p.2 ≤ 1000) → List (YE A)
 | [], _ => []
 | p :: l, h => ⟨p.1, p.2, (h p List.mem_cons_self).1, (h p List.mem_cons_self).2⟩ :: mkYE A l fun q hq => h q (List.mem_cons_of_mem _ hq)
theorem mkYE_pr (A : Nat → Option Nat) : ∀ (l : List (Nat × Int)) (h : ∀ p ∈ l, A p.1 ≠ none ∧ 0 ≤ p.2 ∧ p.2 ≤ 1000), (mkYE A l h).map YE.pr = l
 | [], _ => rfl
 | p :: l, h => by
  unfold mkYE
  rw [List.map_cons, mkYE_pr A l]
  rfl
def pre1 (d : Int) : Fo → List (Nat × Int)
 | .nil => []
 | .nd i _ k n => (i, d) :: (pre1 (d + 1) k ++ pre1 d n)
theorem pre1_len : ∀ (F : Fo) (d : Int), (pre1 d F).length = F.ids.length
 | .nil, d => rfl
 | .nd i t k n, d => by simp [pre1, Fo.ids, pre1_len k, pre1_len n]
theorem pre1_mem : ∀ {F : Fo} {d : Int} {p : Nat × Int}, p ∈ pre1 d F → p.1 ∈ F.ids ∧ d ≤ p.2 ∧ p.2 < d + F.ids.length
 | .nil, d, p, h => by cases h
 | .nd i t k n, d, p, h => by
  simp only [pre1, List.mem_cons, List.mem_append] at h
  simp only [Fo.ids, List.mem_cons, List.mem_append, List.length_cons, List.length_append]
  rcases h with rfl | h | h
  ·exact ⟨Or.inl rfl, by simp, by simp; omega⟩
  ·obtain ⟨h1, h2, h3⟩ := pre1_mem h
   exact ⟨Or.inr (Or.inl h1), by omega, by omega⟩
  ·obtain ⟨h1, h2, h3⟩ := pre1_mem h
   exact ⟨Or.inr (Or.inr h1), by omega, by omega⟩
def kf (x : Nat) : Fo → Fo
 | .nil => .nil
 | .nd j _ k n => if j = x then k else kf x n
theorem kf_spec {h : Nat → Nd} {x : Nat} : ∀ {F : Fo} {up : Nat}, Rep h up F → F.ids.Nodup → x ∈ F.tops → Rep h x (kf x F) ∧ (h x).first = (kf x F).hd ∧ (∀ y ∈ (kf x F).ids, y ∈ F.ids) ∧ (kf x F).ids.length < F.ids.length ∧ (kf x F).ids.Nodup
 | .nil, _, _, _, hx => by cases hx
 | .nd j t k n, up, ⟨h1, h2, h3, h4⟩, hn, hx => by
  obtain ⟨n1, n2, n3, n4, n5⟩ := nodup_nd hn
  unfold kf
  by_cases e : j = x
  ·subst e
   rw [if_pos rfl]
   exact ⟨h3, by rw [h2], fun y hy => by simp [Fo.ids, hy], by simp [Fo.ids]; omega, n3⟩
  ·rw [if_neg e]
   have hx' : x ∈ n.tops := by
    simp only [Fo.tops, List.mem_cons] at hx
    exact hx.resolve_left fun e' => e e'.symm
   obtain ⟨g1, g2, g3, g4, g5⟩ := kf_spec h4 n4 hx'
   exact ⟨g1, g2, fun y hy => by simp [Fo.ids, g3 y hy], by simp [Fo.ids]; omega, g5⟩
theorem flatMap_congr' {α β : Type} {f g : α → List β} : ∀ {l : List α}, (∀ x ∈ l, f x = g x) → l.flatMap f = l.flatMap g
 | [], _ => rfl
 | x :: l, h => by rw [List.flatMap_cons, List.flatMap_cons, h x List.mem_cons_self, flatMap_congr' fun y hy => h y (List.mem_cons_of_mem _ hy)]
theorem pre1_kids : ∀ (F : Fo) (d : Int), F.ids.Nodup → pre1 d F = F.tops.flatMap fun x => (x, d) :: pre1 (d + 1) (kf x F)
 | .nil, d, _ => rfl
 | .nd j t k n, d, hn => by
  obtain ⟨n1, n2, n3, n4, n5⟩ := nodup_nd hn
  simp only [Fo.tops, List.flatMap_cons, pre1]
  rw [pre1_kids n d n4]
  have e1 : kf j (Fo.nd j t k n) = k := by unfold kf; exact if_pos rfl
  rw [e1, List.cons_append]
  congr 2
  refine flatMap_congr' fun x hx => ?_
  have e2 : kf x (Fo.nd j t k n) = kf x n := by
   have : j ≠ x := fun e => n2 (tops_ids (e ▸ hx))
   show (if j = x then k else kf x n) = kf x n
   exact if_neg this
  rw [e2]
theorem map_flatMap' {α β γ : Type} (f : α → List β) (g : β → γ) : ∀ (l : List α), (l.flatMap f).map g = l.flatMap fun x => (f x).map g
 | [] => rfl
 | x :: l => by rw [List.flatMap_cons, List.flatMap_cons, List.map_append, map_flatMap' f g l]
theorem flatMap_map' {α β γ : Type} (f : β → List γ) (g : α → β) : ∀ (l : List α), (l.map g).flatMap f = l.flatMap fun x => f (g x)
 | [] => rfl
 | x :: l => by rw [List.map_cons, List.flatMap_cons, List.flatMap_cons, flatMap_map' f g l]
theorem flatMap_len {α β : Type} (f : α → List β) (c : Nat) : ∀ (l : List α), (∀ x ∈ l, (f x).length ≤ c) → (l.flatMap f).length ≤ c * l.length
 | [], _ => by simp
 | x :: l, h => by
  rw [List.flatMap_cons, List.length_append, List.length_cons, Nat.mul_add]
  have h1 := h x List.mem_cons_self
  have h2 := flatMap_len f c l fun y hy => h y (List.mem_cons_of_mem _ hy)
  omega
theorem tops_len : ∀ (F : Fo), F.tops.length ≤ F.ids.length
 | .nil => Nat.le_refl _
 | .nd i t k n => by
  have := tops_len n
  simp only [Fo.tops, Fo.ids, List.length_cons, List.length_append]
  omega
attribute [local go_sem] Oper.semAt_some

def KB (V W : World) : Prop := ∀ (b : Nat) (t : TypeId) (v : Value), (t = 3 ∨ t = 131 ∨ t = 4 ∨ t = 70 ∨ t = 67) → Boxed V b t v → Boxed W b t v
theorem KB.refl (W : World) : KB W W := fun _ _ _ _ h => h
theorem KB.trans {U V W : World} (h : KB U V) (k : KB V W) : KB U W := fun b t v ht hb => k b t v ht (h b t v ht hb)
theorem KB.grown {V W : World} {row : Option Nat} (hg : V.grownBy W row) (hr : ∀ r, row = some r → ∃ o : Obj, V.heap[r]? = some o ∧ o.isCells = false) : KB V W := fun b t v _ hb => hb.kept hg fun e => by
 obtain ⟨o, h1, h2⟩ := hr b e.symm
 have h3 : V.heap[b]? = some (.cells #[v] t (0, 0)) := hb
 rw [h3] at h1
 rw [← Option.some.inj h1] at h2
 cases h2
theorem KB.alloc {U V : World} (h : KB U V) (o : Obj) : KB U (V.alloc o) := h.trans (KB.grown (World.grownBy_alloc V o none) (fun r e => by cases e))
structure Stp (w0 : World) (B0 : Nat) (V W : World) : Prop where
 below : Below w0.heap.size V W
 from_ : KeepsFrom B0 V W
 kb : KB V W
theorem Stp.refl (w0 : World) (B0 : Nat) (W : World) : Stp w0 B0 W W := ⟨Below.refl _ _, KeepsFrom.refl _ _, KB.refl _⟩
theorem Stp.trans {w0 : World} {B0 : Nat} {U V W : World} (h : Stp w0 B0 U V) (k : Stp w0 B0 V W) : Stp w0 B0 U W := ⟨h.below.trans k.below, h.from_.trans k.from_, h.kb.trans k.kb⟩
theorem Stp.alloc {w0 : World} {B0 : Nat} {U V : World} (h : Stp w0 B0 U V) (hB : w0.heap.size ≤ V.heap.size) (o : Obj) : Stp w0 B0 U (V.alloc o) := ⟨h.below.alloc hB _, h.from_.trans ((KeepsOthers.alloc _ _).from _), h.kb.alloc o⟩
theorem ownFrom_stp {β : Type} {B B0 : Nat} {w0 U : World} (h1 : w0.heap.size ≤ U.heap.size) (h2 : U.heap.size ≤ B) : OwnFrom B (fun (_ : β) W => Stp w0 B0 U W) := fun s V W row hs hg hr =>
 ⟨ownFrom_below (n₀ := w0.heap.size) (β := Unit) h1 (Nat.le_trans h1 h2) () V W row hs.below hg hr, ownFrom_keepsFrom (β := Unit) (B := B0) h2 () V W row hs.from_ hg hr, hs.kb.trans (KB.grown hg fun r e => (hr r e).2)⟩
def WalkI {A : Nat → Option Nat} {Q : Nat → Prop} (J : List (YE A) → World → Prop) (pre : List (YE A)) (ys : KA Q → List (YE A)) (w0 W0 : World) (B0 g l : Nat) (d : Int) (ks : List (KA Q)) (W : World) : Prop :=
 J (pre ++ ks.flatMap ys) W ∧ (Boxed W g 3 (.int .i64 d) ∧ Boxed W (g + 1) 131 (.func (.yield l) #[] #[]) ∧ Boxed W (g + 1 + 1) 4 (.bool false)) ∧ Stp w0 B0 W0 W
theorem walkI_own {A : Nat → Option Nat} {Q : Nat → Prop} {J : List (YE A) → World → Prop} {pre : List (YE A)} {ys : KA Q → List (YE A)} {w0 W0 : World} {B0 g l B : Nat} {d : Int} (hJ : Stb B0 J) (hB : B0 ≤ B) (h1 : w0.heap.size ≤ W0.heap.size) (h2 : W0.heap.size ≤ B) :
    OwnFrom B (WalkI (Q := Q) J pre ys w0 W0 B0 g l d) := fun s V W row hs hg hr =>
  ⟨hJ.own hB (pre ++ s.flatMap ys) V W row hs.1 hg hr,
   ⟨boxed_own g _ (fun (_ : Unit) => _) () V W row hs.2.1.1 hg (fun r e => (hr r e).2), boxed_own (g + 1) _ (fun (_ : Unit) => _) () V W row hs.2.1.2.1 hg (fun r e => (hr r e).2), boxed_own (g + 1 + 1) _ (fun (_ : Unit) => _) () V W row hs.2.1.2.2 hg (fun r e => (hr r e).2)⟩,
   ownFrom_stp (β := Unit) h1 h2 () V W row hs.2.2 hg hr⟩
theorem KB.far {U V : World} (h : KB U V) {g : Nat} (hg : U.heap.size ≤ g) (v : Value) : KB U (V.setCell ⟨g, 0, none⟩ v) := fun b t u ht hb => (h b t u ht hb).other (fun e => by have := hb.lt; omega) v
theorem KeepsFrom.far {B : Nat} {U V : World} (h : KeepsFrom B U V) {D : Nat} (hD : U.heap.size ≤ D) {o : Obj} (hK : V.heap[D]? = some o) (ho : o.isCells = false) (o' : Obj) : KeepsFrom B U (V.putObj D o') :=
 ownFrom_keepsFrom (β := Unit) (B' := U.heap.size) (Nat.le_refl _) () V _ (some D) h (grownBy_putObj' V D o') (fun r e => by cases e; exact ⟨hD, o, hK, ho⟩)
def WalkPost {A : Nat → Option Nat} (J : List (YE A) → World → Prop) (w0 : World) (B0 : Nat) (l : List (YE A)) (W : World) (e : Ending) (W' : World) : Prop := e = .returned (.bool true) ∧ J l W' ∧ Stp w0 B0 W W'
set_option maxRecDepth 100000 in
set_option maxHeartbeats 4000000 in
theorem wlk_in_ (F : Fence) (hd : F.depth = none) (h81 : F.fn 118) (h56 : F.fn 77) (h76 : F.fn 105) (hro : F.round = none) (l N B0 : Nat) {w0 : World} {n0 Fb : Nat} {A : Nat → Option Nat} {h : Nat → Nd} (m : Mem w0 n0 Fb A h)
  (J : List (YE A) → World → Prop) (hJ : Stb B0 J)
  (hY : ∀ (q : Nat) (pre : List (YE A)) (x : YE A) (W : World), J pre W → Below w0.heap.size w0 W → pre.length < N → YieldAt F q Tryd.prog l #[.pointer (pa (A x.val)), .int .i64 x.dep] W (WalkPost J w0 B0 (pre ++ [x]) W)) :
  ∀ (s : Nat) (k : Fo), k.ids.length < s → ∀ (q i : Nat) (d : Int) (es pre : List (YE A)) (W : World), Rep h i k → k.ids.Nodup → (∀ x ∈ k.ids, A x ≠ none) → A i ≠ none → (h i).first = k.hd → es.map YE.pr = (i, d) :: pre1 (d + 1) k → J pre W → Below w0.heap.size w0 W → B0 ≤ W.heap.size →
   pre.length + 1400 * (k.ids.length + 1) ≤ N → k.ids.length ≤ 36 → 0 ≤ d → d + k.ids.length ≤ 900 →
   CallsIn F q Tryd.prog 118 #[.pointer (pa (A i)), .int .i64 d, .func (.yield l) #[] #[]] W (WalkPost J w0 B0 (pre ++ es) W) := by
 intro s
 induction s with
 | zero => intro k hk; omega
 | succ s ih =>
  intro k hks q i d es pre W hR hnd hAk hAi hfirst hes hJ0 hB hB0 hN h36 hd0 hd1
  obtain ⟨b, hb⟩ := Option.ne_none_iff_exists'.1 hAi
  -- what is handed on
  obtain ⟨e0, rest, rfl⟩ : ∃ e0 rest, es = e0 :: rest := by
   cases es with
   | nil => cases hes
   | cons e0 rest => exact ⟨e0, rest, rfl⟩
  rw [List.map_cons] at hes
  obtain ⟨he0, hrest⟩ := List.cons.inj hes
  have hv : e0.val = i := congrArg Prod.fst he0
  have hdp : e0.dep = d := congrArg Prod.snd he0
  obtain ⟨ks, hks2⟩ := attach_val (Q := fun y => y ∈ k.tops) (l := k.tops) fun x hx => hx
  have hok : ∀ x : KA (fun y => y ∈ k.tops), ∀ p ∈ (x.val, d + 1) :: pre1 (d + 1 + 1) (kf x.val k), A p.1 ≠ none ∧ 0 ≤ p.2 ∧ p.2 ≤ 1000 := fun x p hp => by
   obtain ⟨g1, g2, g3, g4, g5⟩ := kf_spec hR hnd x.ok
   rcases List.mem_cons.1 hp with rfl | hp
   ·exact ⟨hAk _ (tops_ids x.ok), by simp; omega, by simp; omega⟩
   ·obtain ⟨a1, a2, a3⟩ := pre1_mem hp
    exact ⟨hAk _ (g3 _ a1), by omega, by omega⟩
  obtain ⟨ys, hys⟩ : ∃ ys : KA (fun y => y ∈ k.tops) → List (YE A), ∀ x, (ys x).map YE.pr = (x.val, d + 1) :: pre1 (d + 1 + 1) (kf x.val k) := ⟨fun x => mkYE A _ (hok x), fun x => mkYE_pr A _ (hok x)⟩
  have hrest2 : rest = ks.flatMap ys := by
   apply YE.inj_map
   rw [hrest, map_flatMap', pre1_kids k (d + 1) hnd]
   refine ((congrArg (fun (z : List Nat) => z.flatMap fun x => (x, d + 1) :: pre1 (d + 1 + 1) (kf x k)) hks2).symm.trans (flatMap_map' _ KA.val ks)).trans ?_
   exact flatMap_congr' fun x _ => (hys x).symm
  have hyl : ∀ x, (ys x).length ≤ 36 := fun x => by
   have h1 := congrArg List.length (hys x)
   have g4 := (kf_spec hR hnd x.ok).2.2.2.1
   rw [List.length_map, List.length_cons, pre1_len] at h1
   omega
  have hkl : ks.length ≤ 36 := by
   have h1 := congrArg List.length hks2
   rw [List.length_map] at h1
   have := tops_len k
   omega
  subst hrest2
  clear hes hrest hok he0
  have hsz := hB.size
  -- the boxes
  obtain ⟨W3, hW3⟩ : ∃ W3, W3 = ((W.alloc (.cells #[.int .i64 d] 3)).alloc (.cells #[.func (.yield l) #[] #[]] 131)).alloc (.cells #[.bool false] 4) := ⟨_, rfl⟩
  have b1 := ((Boxed.new W 3 (.int .i64 d)).alloc (.cells #[.func (.yield l) #[] #[]] 131)).alloc (.cells #[.bool false] 4)
  have b2 := (Boxed.new (W.alloc (.cells #[.int .i64 d] 3)) 131 (.func (.yield l) #[] #[])).alloc (.cells #[.bool false] 4)
  have b3 := Boxed.new ((W.alloc (.cells #[.int .i64 d] 3)).alloc (.cells #[.func (.yield l) #[] #[]] 131)) 4 (.bool false)
  simp only [World.size_alloc] at b2 b3
  have hJ3 : J pre W3 := by rw [hW3]; exact hJ.alloc _ (hJ.alloc _ (hJ.alloc _ hJ0))
  have hS3 : Stp w0 B0 W W3 := by rw [hW3]; exact (((Stp.refl w0 B0 W).alloc hsz _).alloc (by simp; omega) _).alloc (by simp; omega) _
  have hz3 : W3.heap.size = W.heap.size + 3 := by rw [hW3]; simp
  rw [← hW3] at b1 b2 b3
  obtain ⟨fn, tmps, assign, body, hy, hRd⟩ := hY 7 pre e0 W3 hJ3 (hB.trans hS3.below) (by omega)
  rw [hv, hdp, hb, pa_some] at hy
  have cD := b1.cell
  have cY := b2.cell
  have M := Aside0.mk m
  have HB := Aside0.mk hB
  have HBi := Aside0.mk hb
  have HS3 := Aside0.mk hS3
  refine callsIn_any hd (m := 8) ?_
  rw [hb, pa_some]
  refine callsIn_of_wp_marks Tryd.func118 rfl h81 ?_ hro
  simp only [Tryd.ntmps118, List.size_toArray, List.length_cons, List.length_nil, Nat.reduceAdd, Nat.reduceSub, Array.replicate_succ, Array.replicate_zero, List.push_toArray, List.append_toArray, List.nil_append, List.cons_append]
  rw [hW3] at hy cD cY
  gi_wp2
  rw [← hW3]
  refine hRd.mono ?_
  clear hRd hy cD cY hJ3 hS3
  rintro e W4 ⟨rfl, hJ4, hS4⟩
  have HJ4 := Aside0.mk hJ4
  have HS4 := Aside0.mk (HS3.out.trans hS4)
  have HK4 := Aside0.mk hS4.kb
  have HZ4 := Aside0.mk hS4.below.size
  clear hJ4 hS4
  gi_wp2_with (gi_at_call 77; refine (kids_in F _ h56 hro _ _).mono ?_; rintro e w' ⟨rfl, rfl⟩)
  have hS4 := HS4.out
  have hz4 : W3.heap.size ≤ W4.heap.size := HZ4.out
  obtain ⟨W5, hW5⟩ : ∃ W5, W5 = W4.alloc (.cells #[.pointer (some ⟨b, 0, none⟩)] 70) := ⟨_, rfl⟩
  have hz5 : W5.heap.size = W4.heap.size + 1 := by rw [hW5]; simp
  have hB05 : B0 ≤ W5.heap.size := by omega
  have hbox : W5.cell? ⟨W4.heap.size, 0, none⟩ = some (.pointer (some ⟨b, 0, none⟩)) := by rw [hW5]; exact (cell_new_f W4 _ _).1
  have hS45 : Stp w0 B0 W4 W5 := by rw [hW5]; exact (Stp.refl w0 B0 W4).alloc (by omega) _
  have hB5 : Below w0.heap.size w0 W5 := (HB.out.trans hS4.below).trans hS45.below
  have M5 := M.out.below hB5
  have c3 := M5.c3 HBi.out
  rw [hfirst] at c3
  have hL : NList A w0.heap.size W5 (pa (A k.hd)) (ks.map KA.val) := by rw [hks2]; exact (nlist_of M.out hR hAk).below hB5
  have hbl : b < w0.heap.size := M.out.lt HBi.out
  have hI0 : WalkI J (pre ++ [e0]) ys w0 W5 B0 W.heap.size l d [] W5 := ⟨by rw [List.flatMap_nil, List.append_nil, hW5]; exact hJ.alloc _ HJ4.out, ⟨hS45.kb _ _ _ (Or.inl rfl) (HK4.out _ _ _ (Or.inl rfl) b1), hS45.kb _ _ _ (Or.inr (Or.inl rfl)) (HK4.out _ _ _ (Or.inr (Or.inl rfl)) b2), hS45.kb _ _ _ (Or.inr (Or.inr (Or.inl rfl))) (HK4.out _ _ _ (Or.inr (Or.inr (Or.inl rfl))) b3)⟩, Stp.refl _ _ _⟩
  rw [← hW5]
  have HB5 := Aside0.mk hB5
  have HS45 := Aside0.mk hS45
  clear b1 b2 b3 hB5 hS45
  refine wpIn_rangeFunc_ownG hro (show 1 ≤ 8 by omega) (gf := 105) (lb := #[.pointer (some ⟨W4.heap.size, 0, none⟩)]) rfl h76 (enters_of Tryd.func105 (by kernel_rfl) rfl)
   (kids_stops F 7 h76 hro (by omega) W4.heap.size w0.heap.size b (fun y => y ∈ k.tops) A (pa (A k.hd)) ks W5 (by omega) (by omega) (by omega) hbox c3 hL) belowK_t (belowK_b (by omega)) (Below.refl _ _) (fun _ => by rfl)
   (WalkI J (pre ++ [e0]) ys w0 W5 B0 W.heap.size l d) (fun _ _ _ => False) (walkI_own hJ (by omega) (by omega) (by omega)) (fun _ _ _ _ _ hs _ _ => hs) hI0
   (fun x => { tmps := #[.pointer (some ⟨b, 0, none⟩), .int .i64 d, .func (.yield l) #[] #[], undef, .pointer (some ⟨W.heap.size, 0, none⟩), .pointer (some ⟨W.heap.size + 1, 0, none⟩), .pointer (some ⟨W.heap.size + 1 + 1, 0, none⟩), .pointer (pa (A x.val)), .func (.yield l) #[] #[], .pointer (some ⟨b, 0, none⟩), .int .i64 d, .bool true, .bool false, .pointer (some ⟨b, 0, none⟩), .func (.func 105) #[] #[.pointer (some ⟨W4.heap.size, 0, none⟩)], .pointer (pa (A x.val)), undef, undef, undef, undef, undef, undef], defers := [] }) ?assign ?body ?done ?stop
  case assign =>
   intro l2 x V K hK
   gi_wp2
   exact hK
  case body =>
   rintro l2 pre' x V hI hlt
   obtain ⟨hJv, ⟨v1, v2, v3⟩, hSv⟩ := hI
   obtain ⟨g1, g2, g3, g4, g5⟩ := kf_spec hR hnd x.ok
   have hfl := flatMap_len ys 36 pre' fun x _ => hyl x
   have IH := Aside0.mk (ih (kf x.val k) (by omega) (8 - 1 - 1 - 1) x.val (d + 1) (ys x) (pre ++ [e0] ++ pre'.flatMap ys) V g1 g5 (fun y hy => hAk y (g3 y hy)) (hAk _ (tops_ids x.ok)) g2 (hys x) hJv (HB5.out.trans hSv.below) (by have := hSv.below.size; omega)
    (by simp only [List.length_append, List.length_cons, List.length_nil]; omega) (by omega) (by omega) (by omega))
   have p1 := v1.cell
   have p2 := v2.cell
   have HV := Aside0.mk (And.intro v1 (And.intro v2 v3))
   have HSv := Aside0.mk hSv
   clear hJv v1 v2 v3 hSv g1 g2 g3 g4 g5 hfl hlt hI0 hL c3 hbox M5 hz4 hz5 hkl hyl hys hks2 hv hdp hN h36
   have hd0' : 0 ≤ d := hd0
   have hd9 : d ≤ 900 := by omega
   gi_wp2_with (gi_at_call 118; refine (CallsIn.inRound l2 IH.out).mono ?_; clear IH; rintro e W6 ⟨rfl, hJ6, hS6⟩; have HJ6 := Aside0.mk hJ6; have HS6 := Aside0.mk hS6; clear hJ6 hS6)
   have h6 := HS6.out
   obtain ⟨v1, v2, v3⟩ := HV.out
   have hJ6 := HJ6.out
   refine ⟨KeepsFrom.mono h6.from_ hB05, h6.below, ⟨?_, ⟨h6.kb _ _ _ (Or.inl rfl) v1, h6.kb _ _ _ (Or.inr (Or.inl rfl)) v2, h6.kb _ _ _ (Or.inr (Or.inr (Or.inl rfl))) v3⟩, HSv.out.trans h6⟩⟩
   rw [List.flatMap_append, List.flatMap_cons, List.flatMap_nil, List.append_nil, ← List.append_assoc]
   exact hJ6
  case done =>
   rintro D zs V hD rfl ⟨hJv, ⟨v1, v2, v3⟩, hSv⟩ hK
   have p3 := v3.cell
   have f3 := v3.frozen
   have HV3 := Aside0.mk v3
   have HSv := Aside0.mk hSv
   have HJv := Aside0.mk hJv
   clear v1 v2 v3 hSv hJv hI0 hL c3 hbox M5
   gi_wp2
   have hK' := (KeepsOthers.setCell V ⟨W.heap.size + 1 + 1, 0, none⟩ (.bool true)).same D _ hK rfl
   refine ⟨by simp, .inl ⟨_, _, rfl, run_takeDeferred hK', ?_⟩⟩
   have hc5 := cell_kept (World.cell?_setCell_same' V ⟨W.heap.size + 1 + 1, 0, none⟩ (.bool true) (by rw [p3]; rfl)) (grownBy_putObj' _ D (.deferred none)) (fun r e => by cases e; exact ⟨_, hK', rfl⟩)
   have hSW : Stp w0 B0 W V := (hS4.trans HS45.out).trans HSv.out
   refine ⟨.bool true, ?_, rfl, ?_, ?_⟩
   ·simp [results, Tryd.f118, go_sem, hc5]
   ·refine hJ.put _ ?_ hK' rfl (by omega)
    have hb := hJ.box (.bool true) HJv.out HV3.out (by omega)
    rw [List.append_assoc] at hb
    exact hb
   ·refine ⟨?_, ?_, ?_⟩
    ·exact (hSW.below.setCell (p := ⟨W.heap.size + 1 + 1, 0, none⟩) (by simp; omega) _).trans (belowK_b (w := W) hsz _ D _ _ (by omega) hK' rfl rfl)
    ·exact KeepsFrom.far (hSW.from_.trans ((KeepsOthers.setCell _ _ _).from _)) (by omega) hK' rfl _
    ·exact (hSW.kb.far (by omega) _).trans (KB.grown (grownBy_putObj' _ D _) (fun r e => by cases e; exact ⟨_, hK', rfl⟩))
  case stop =>
   rintro D c pre' V _ _ hf _
   exact hf.elim
attribute [local go_sem] Oper.semAt_some

theorem roots_kf {h : Nat → Nd} {r : Nat} : ∀ {G : Fo}, RepTop h G → G.ids.Nodup → r ∈ G.tops → Rep h r (kf r G) ∧ (h r).first = (kf r G).hd ∧ (∀ y ∈ (kf r G).ids, y ∈ G.ids) ∧ (kf r G).ids.length < G.ids.length ∧ (kf r G).ids.Nodup
 | .nil, _, _, hx => by cases hx
 | .nd j t k n, ⟨h1, h2, h3, h4⟩, hn, hx => by
  obtain ⟨n1, n2, n3, n4, n5⟩ := nodup_nd hn
  unfold kf
  by_cases e : j = r
  ·subst e
   rw [if_pos rfl]
   exact ⟨h3, by rw [h2], fun y hy => by simp [Fo.ids, hy], by simp [Fo.ids]; omega, n3⟩
  ·rw [if_neg e]
   have hx' : r ∈ n.tops := by
    simp only [Fo.tops, List.mem_cons] at hx
    exact hx.resolve_left fun e' => e e'.symm
   obtain ⟨g1, g2, g3, g4, g5⟩ := roots_kf h4 n4 hx'
   exact ⟨g1, g2, fun y hy => by simp [Fo.ids, g3 y hy], by simp [Fo.ids]; omega, g5⟩
theorem all_in (F : Fence) (n : Nat) (hf : F.fn 100) (hro : F.round = none) (p0 : Option Addr) (w : World) :
  CallsIn F n Tryd.prog 100 #[.pointer p0] w fun e w' => e = .returned (.func (.func 117) #[] #[.pointer (some ⟨w.heap.size, 0, none⟩)]) ∧ w' = w.alloc (.cells #[.pointer p0] 67) := by
 refine callsIn_of_wp Tryd.func100 rfl hf ?_ hro
 simp only [Tryd.ntmps100, List.size_toArray, List.length_cons, List.length_nil, Nat.reduceAdd, Nat.reduceSub, Array.replicate_succ, Array.replicate_zero, List.push_toArray, List.append_toArray, List.nil_append, List.cons_append]
 gi_wp2
 go_ret
 exact ⟨rfl, rfl⟩
def ahead_ {α : Type} (part : Nat → List α) (r : Nat) : List α := (List.range' 1 (r - 1)).flatMap part
theorem ahead_succ {α : Type} (part : Nat → List α) (r : Nat) (hr : 1 ≤ r) : ahead_ part (r + 1) = ahead_ part r ++ part r := by
 unfold ahead_
 rw [show r + 1 - 1 = (r - 1) + 1 by omega, List.range'_concat, List.flatMap_append]
 simp only [List.flatMap_cons, List.flatMap_nil, List.append_nil, Nat.one_mul]
 rw [show 1 + (r - 1) = r by omega]
def AllI {A : Nat → Option Nat} (J : List (YE A) → World → Prop) (part : Nat → List (YE A)) (w0 : World) (B0 : Nat) (W : World) (v : Value) (V : World) : Prop :=
 ∃ r : Nat, 1 ≤ r ∧ r ≤ 4 ∧ v = .int .i64 (r : Int) ∧ J (ahead_ part r) V ∧ Stp w0 B0 W V
def AllPost {A : Nat → Option Nat} (J : List (YE A) → World → Prop) (w0 : World) (B0 : Nat) (l : List (YE A)) (W : World) (e : Ending) (W' : World) : Prop := (∃ v, e = .returned v) ∧ J l W' ∧ Stp w0 B0 W W'
set_option maxRecDepth 100000 in
set_option maxHeartbeats 4000000 in
theorem all1_in (F : Fence) (hd : F.depth = none) (h80 : F.fn 117) (h81 : F.fn 118) (h56 : F.fn 77) (h76 : F.fn 105) (hro : F.round = none) (l N B0 q : Nat) {w0 : World} {n0 Fb : Nat} {A : Nat → Option Nat} {h : Nat → Nd} (m : Mem w0 n0 Fb A h)
  {G : Fo} (hG : RepTop h G) (hnd : G.ids.Nodup) (hroots : G.tops = [1, 2, 3]) (hA : ∀ x ∈ G.ids, A x ≠ none) (h36 : G.ids.length ≤ 36)
  (J : List (YE A) → World → Prop) (hJ : Stb B0 J)
  (hY : ∀ (q : Nat) (pre : List (YE A)) (x : YE A) (W : World), J pre W → Below w0.heap.size w0 W → pre.length < N → YieldAt F q Tryd.prog l #[.pointer (pa (A x.val)), .int .i64 x.dep] W (WalkPost J w0 B0 (pre ++ [x]) W))
  (hN : 60000 ≤ N) (es : List (YE A)) (hes : es.map YE.pr = pre1 0 G) (Bn : Nat) (W : World) (hBn : Boxed W Bn 67 (.pointer (some ⟨Fb, 0, none⟩))) (hB : Below w0.heap.size w0 W) (hB0 : B0 ≤ W.heap.size) (hJ0 : J [] W) :
  CallsIn F q Tryd.prog 117 #[.func (.yield l) #[] #[], .pointer (some ⟨Bn, 0, none⟩)] W (AllPost J w0 B0 es W) := by
 -- the roots' parts
 have hrt : ∀ r : Nat, 1 ≤ r → r ≤ 3 → r ∈ G.tops := fun r h1 h2 => by rw [hroots]; simp; omega
 obtain ⟨part, hpart⟩ : ∃ part : Nat → List (YE A), ∀ r, 1 ≤ r → r ≤ 3 → (part r).map YE.pr = (r, 0) :: pre1 (0 + 1) (kf r G) := by
  have hok : ∀ r : Nat, 1 ≤ r ∧ r ≤ 3 → ∀ p ∈ (r, (0 : Int)) :: pre1 (0 + 1) (kf r G), A p.1 ≠ none ∧ 0 ≤ p.2 ∧ p.2 ≤ 1000 := fun r hr p hp => by
   obtain ⟨g1, g2, g3, g4, g5⟩ := roots_kf hG hnd (hrt r hr.1 hr.2)
   rcases List.mem_cons.1 hp with rfl | hp
   ·exact ⟨hA _ (tops_ids (hrt r hr.1 hr.2)), by simp, by simp⟩
   ·obtain ⟨a1, a2, a3⟩ := pre1_mem hp
    exact ⟨hA _ (g3 _ a1), by omega, by omega⟩
  refine ⟨fun r => if hr : 1 ≤ r ∧ r ≤ 3 then mkYE A _ (hok r hr) else [], fun r h1 h2 => ?_⟩
  have hr : 1 ≤ r ∧ r ≤ 3 := ⟨h1, h2⟩
  simp only [dif_pos hr]
  exact mkYE_pr A _ (hok r hr)
 have hes2 : es = ahead_ part 4 := by
  apply YE.inj_map
  rw [hes, pre1_kids G 0 hnd, hroots]
  show _ = List.map YE.pr ([1, 2, 3].flatMap part)
  rw [map_flatMap']
  refine flatMap_congr' fun x hx => ?_
  have : 1 ≤ x ∧ x ≤ 3 := by simp at hx; omega
  exact (hpart x this.1 this.2).symm
 have hpl : ∀ r, 1 ≤ r → r ≤ 3 → (part r).length ≤ 36 := fun r h1 h2 => by
  have h3 := congrArg List.length (hpart r h1 h2)
  have h4 := (roots_kf hG hnd (hrt r h1 h2)).2.2.2.1
  rw [List.length_map, List.length_cons, pre1_len] at h3
  omega
 have hal : ∀ r, 1 ≤ r → r ≤ 4 → (ahead_ part r).length ≤ 36 * 3 := fun r h1 h2 => by
  unfold ahead_
  refine Nat.le_trans (flatMap_len part 36 _ fun x hx => ?_) (by rw [List.length_range']; omega)
  have := List.mem_range'.1 hx
  obtain ⟨i, hi, rfl⟩ := this
  exact hpl _ (by omega) (by omega)
 subst hes2
 have M := Aside0.mk m
 have HB := Aside0.mk hB
 have HBn := Aside0.mk hBn
 have HJ0 := Aside0.mk hJ0
 have cB := hBn.cell
 clear hes hB hBn hJ0
 refine callsIn_any hd (m := 8) ?_
 refine callsIn_of_wp Tryd.func117 rfl h80 ?_ hro
 simp only [Tryd.ntmps117, List.size_toArray, List.length_cons, List.length_nil, Nat.reduceAdd, Nat.reduceSub, Array.replicate_succ, Array.replicate_zero, List.push_toArray, List.append_toArray, List.nil_append, List.cons_append]
 gi_wp2
 gi_loopw [3] (fun v V => AllI J part w0 B0 W v V) (fun v _ => 4 - (intOf v).toNat)
 case atStart => exact ⟨1, by omega, by omega, rfl, HJ0.out, Stp.refl _ _ _⟩
 case round =>
  obtain ⟨r, hr1, hr4, rfl, hJr, hSr⟩ := hrel
  have cB := (hSr.kb _ _ _ (Or.inr (Or.inr (Or.inr (Or.inr rfl)))) HBn.out).cell
  by_cases hr3 : r ≤ 3
  ·have hd1 : decide (r ≤ 3) = true := decide_eq_true hr3
   have hd2 : decide ((r : Int) ≤ 3) = true := decide_eq_true (by omega)
   have cF := (M.out.below (HB.out.trans hSr.below)).cF r (by omega)
   obtain ⟨g1, g2, g3, g4, g5⟩ := roots_kf hG hnd (hrt r hr1 hr3)
   have IH := Aside0.mk (wlk_in_ F hd h81 h56 h76 hro l N B0 m J hJ hY 40 (kf r G) (by omega) (8 - 1) r 0 (part r) (ahead_ part r) _ g1 g5 (fun y hy => hA y (g3 y hy)) (hA _ (tops_ids (hrt r hr1 hr3))) g2 (hpart r hr1 hr3) hJr (HB.out.trans hSr.below) (by have := hSr.below.size; omega)
    (by have := hal r hr1 hr4; omega) (by omega) (by omega) (by omega))
   have hi0 : 0 ≤ (r : Int) := by omega
   have hi37 : (r : Int) < 37 := by omega
   have HS := Aside0.mk hSr
   have HR := Aside0.mk (And.intro hr1 hr3)
   have HAS := Aside0.mk (ahead_succ part r hr1)
   clear g1 g2 g3 g4 g5 hJr hSr
   gi_wp2_with (gi_at_call 118; refine (IH.out).mono ?_; clear IH; rintro e W6 ⟨rfl, hJ6, hS6⟩; have HJ6 := Aside0.mk hJ6; have HS6 := Aside0.mk hS6; clear hJ6 hS6)
   refine ⟨⟨r + 1, by have := HR.out; omega, by have := HR.out; omega, by simp, by rw [HAS.out]; exact HJ6.out, HS.out.trans HS6.out⟩, ?_⟩
   have := HR.out
   simp [intOf]
   omega
  ·have hd1 : decide (r ≤ 3) = false := decide_eq_false hr3
   have hd2 : decide ((r : Int) ≤ 3) = false := decide_eq_false (by omega)
   obtain rfl : r = 4 := by omega
   gi_wp2
   go_end0
   exact ⟨⟨_, rfl⟩, hJr, hSr⟩
#print axioms all1_in
def goesOn {α : Type} (w0 : World) (B : Nat) (I : List α → World → Prop) (xs : List α) (W : World) : Exit → Act → World → Prop
 | .normal, _, W' => I xs W' ∧ Stp w0 B W W'
 | _, _, _ => False
theorem stp_put {w0 U : World} {B : Nat} {l : Nat} {o : Obj} (o' : Obj) (hl : U.heap[l]? = some o) (ho : o.isCells = false) (h0 : w0.heap.size ≤ l) (hB : l < B) : Stp w0 B U (U.putObj l o') :=
 ⟨(Below.refl _ _).grown (grownBy_putObj' U l o') (by have := (Array.getElem?_eq_some_iff.1 hl).1; omega) (fun k e => by cases e; exact h0), KeepsFrom.of_grownBy (grownBy_putObj' U l o') (fun j e => by cases e; exact hB), KB.grown (grownBy_putObj' U l o') (fun r e => by cases e; exact ⟨o, hl, ho⟩)⟩
theorem Stp.mono {w0 V W : World} {B B' : Nat} (h : Stp w0 B V W) (hB : B ≤ B') : Stp w0 B' V W := ⟨h.below, KeepsFrom.mono h.from_ hB, h.kb⟩
theorem Stb.mono {β : Type} {B B' : Nat} {J : β → World → Prop} (h : Stb B J) (hB : B ≤ B') : Stb B' J := fun s V W row hs hg hr => h s V W row hs hg fun r e => ⟨Nat.le_trans hB (hr r e).1, (hr r e).2⟩
theorem stb_obj {β : Type} {B g : Nat} {o : Obj} (hg : g < B) : Stb B (fun (_ : β) W => W.heap[g]? = some o) := fun s V W row hs hgr hr =>
 (hgr.block g (Array.getElem?_eq_some_iff.1 hs).1 (fun e => by have := (hr g e.symm).1; omega)).trans hs
theorem Stb.and {β : Type} {B : Nat} {J J' : β → World → Prop} (h : Stb B J) (h' : Stb B J') : Stb B (fun s W => J s W ∧ J' s W) := fun s V W row hs hg hr => ⟨h s V W row hs.1 hg hr, h' s V W row hs.2 hg hr⟩
theorem range_all {α : Type} {F : Fence} {n : Nat} {P : Program} {g : Operand} {ps : Array Tmp} {assign body : Code} {Q : Exit → Act → World → Prop} {a : Act} {w w0 : World}
  (hd : F.depth = none) (hro : F.round = none) {gf : Nat} {lb : Array Value} (hg : a.eval g = .func (.func gf) #[] lb) (hFg : F.fn gf) (eg : ∀ args w, (callFunc gf args).run P w = .ok (.enter gf args) w)
  {encs : α → Array Value} (hps : ∀ x, (encs x).size = ps.size) (N : Nat) (xs : List α) (hw0 : w0.heap.size ≤ w.heap.size)
  (hseq : ∀ (l : Nat) (J : List α → World → Prop) (W : World), Stp w0 W.heap.size w W → Stb W.heap.size J →
   (∀ (q : Nat) (pre : List α) (x : α) (W1 : World), J pre W1 → Below w0.heap.size w0 W1 → pre.length < N → YieldAt F q P l (encs x) W1 fun e W' => e = .returned (.bool true) ∧ J (pre ++ [x]) W' ∧ Stp w0 W.heap.size W1 W') → J [] W →
   CallsIn F (n - 1) P gf (#[.func (.yield l) #[] #[]] ++ lb) W fun e W' => (∃ v, e = .returned v) ∧ J xs W')
  (I : List α → World → Prop) (hI : Stb w.heap.size I) (h0 : I [] w) (a₁ : α → Act)
  (hassign : ∀ (l : Nat) (x : α) (W : World) (K : Act → World → Prop), K (a₁ x) W →
   assign.wpIn (F.inRound l) (n - 1 - 1) P (Exit.then K (fun _ _ _ => False)) { tmps := (ps.zip (encs x)).foldl (fun t (p, v) => t.setIfInBounds p v) a.tmps, defers := [] } W)
  (hbody : ∀ (l : Nat) (pre : List α) (x : α) (W : World), I pre W → Below w0.heap.size w0 W → pre.length < N → body.wpIn (F.inRound l) (n - 1 - 1) P (goesOn w0 w.heap.size I (pre ++ [x]) W) (a₁ x) W)
  (hdone : ∀ (D : Nat) (W : World), w.heap.size ≤ D → I xs W → W.heap[D]? = some (.deferred (some [])) → Q .normal { a with defers := { target := .collected D, args := #[] } :: a.defers } W) :
  (Code.rangeFunc g ps assign body).wpIn F n P Q a w := by
 refine wpIn_rangeFunc fun fn hfn => ?_
 rw [hro]
 have hdd : ∀ k : Nat, (F.depth.isSome = true → 1 ≤ k) := fun k h => by rw [hd] at h; cases h
 let rec_ : LoopState → Option Code → Loop := fun st pe => { state := st, pending := pe, fn := fn, tmps := a.tmps, params := ps, assign := assign, body := body, defers := w.heap.size }
 obtain ⟨rc, hrc⟩ : ∃ rc : LoopState → Option Code → Loop, rc = rec_ := ⟨_, rfl⟩
 obtain ⟨W1, hW1⟩ : ∃ W1, W1 = (w.alloc (.deferred (some []))).alloc (.loop (rc .ready none)) := ⟨_, rfl⟩
 have hz1 : W1.heap.size = w.heap.size + 2 := by rw [hW1]; simp
 have hL1 : W1.heap[w.heap.size + 1]? = some (.loop (rc .ready none)) := by
  have := World.alloc_heap_new (w.alloc (.deferred (some []))) (.loop (rc .ready none))
  rw [World.size_alloc] at this
  rw [hW1]; exact this
 have hK1 : W1.heap[w.heap.size]? = some (.deferred (some [])) := by
  rw [hW1]; exact (Below.heap_alloc _ _ _ (by simp)).trans (World.alloc_heap_new w _)
 have hS1 : Stp w0 W1.heap.size w W1 := by rw [hW1]; exact ((Stp.refl w0 _ w).alloc hw0 _).alloc (by simp; omega) _
 have hI1 : I [] W1 := by rw [hW1]; exact hI.alloc _ (hI.alloc _ h0)
 refine ⟨w.heap.size + 1, [{ target := .collected w.heap.size, args := #[] }], W1, { target := .fn (.func gf) lb, args := #[.func (.yield (w.heap.size + 1)) #[] #[]] }, W1, gf,
  #[.func (.yield (w.heap.size + 1)) #[] #[]] ++ lb, W1, ?_, ?_, ?_, ?_, hdd n, ?_⟩
 ·rw [hW1, hrc]; exact run_enterLoop_outer _ _ _ _ _
 ·simp only [resolve, hg]
  simp [go_sem]
 ·intro f' hf'; simp [Target.leads] at hf'; subst hf'; exact hFg
 ·simp [invoke, go_sem, eg]
 ·refine (hseq (w.heap.size + 1) (fun pre W => I pre W ∧ (W.heap[w.heap.size + 1]? = some (.loop (rc .ready none)) ∧ W.heap[w.heap.size]? = some (.deferred (some [])))) W1 hS1
   ((hI.mono (by omega)).and ((stb_obj (by omega)).and (stb_obj (by omega)))) ?_ ⟨hI1, hL1, hK1⟩).mono ?_
  ·rintro q pre x W ⟨hi, hl, hk⟩ hBW hlen
   have hlt : w.heap.size + 1 < W.heap.size := (Array.getElem?_eq_some_iff.1 hl).1
   have hy := run_yield (P := P) (args := encs x) hl (by rw [hrc]; exact hps x)
   rw [hrc] at hy
   refine ⟨fn, _, assign, body, hy, roundIn_any hd (m := n - 1 - 1) (roundIn_of_wpIn hfn (hassign _ x W _ ⟨_, run_beginRound hl (by rw [hrc]), ?_⟩))⟩
   obtain ⟨W2, hW2⟩ : ∃ W2, W2 = W.putObj (w.heap.size + 1) (.loop { rc .ready none with state := .busy }) := ⟨_, rfl⟩
   have hl2 : W2.heap[w.heap.size + 1]? = some (.loop { rc .ready none with state := .busy }) := by rw [hW2]; exact World.putObj_heap_same hlt
   have hk2 : W2.heap[w.heap.size]? = some (.deferred (some [])) := by rw [hW2]; exact (World.putObj_heap_other (by omega)).trans hk
   have hs2 : Stp w0 W1.heap.size W W2 := by rw [hW2]; exact stp_put _ hl rfl (by omega) (by omega)
   have hi2 : I pre W2 := by rw [hW2]; exact hI.put _ hi hl rfl (by omega)
   suffices key : body.wpIn (F.inRound (w.heap.size + 1)) (n - 1 - 1) P (roundPost P (w.heap.size + 1) fun e W' => e = .returned (.bool true) ∧ (I (pre ++ [x]) W' ∧ (W'.heap[w.heap.size + 1]? = some (.loop (rc .ready none)) ∧ W'.heap[w.heap.size]? = some (.deferred (some [])))) ∧ Stp w0 W1.heap.size W W') (a₁ x) W2 by
    rw [hW2, hrc] at key
    rw [hrc]
    exact key
   refine wpIn_mono (hbody _ pre x W2 hi2 (hBW.trans hs2.below) hlen) ?_
   rintro e a3 W3 hp
   cases e with
   | normal =>
    obtain ⟨hi3, hs3⟩ := hp
    have hl3 := hs3.from_.same _ _ (by omega) hl2 rfl
    have hk3 := hs3.from_.same _ _ (by omega) hk2 rfl
    have hr := run_endRound (P := P) (jump := none) hl3
    have hlt3 := (Array.getElem?_eq_some_iff.1 hl3).1
    refine ⟨_, _, (by rw [hrc] at hr; exact hr), rfl, ⟨hI.put _ hi3 hl3 rfl (by omega), ?_, (World.putObj_heap_other (by omega)).trans hk3⟩, (hs2.trans (hs3.mono (by omega))).trans (stp_put _ hl3 rfl (by omega) (by omega))⟩
    rw [hrc]
    exact World.putObj_heap_same hlt3
   | ret => exact hp.elim
   | exit id => exact hp.elim
   | goto t => exact hp.elim
   | panic ch => exact hp.elim
   | outgrown => exact hp.elim
  ·rintro e W2 ⟨⟨v, rfl⟩, hi, hl, hk⟩
   refine ⟨none, _, by have := run_endLoop (P := P) hl (by rw [hrc]; simp [rec_]); rw [hrc] at this; exact this, hdone _ _ (Nat.le_refl _) (hI.put _ hi hl rfl (by omega)) ((World.putObj_heap_other (by omega)).trans hk)⟩
theorem rows_wide {n : Nat} {P : Program} {row : String} {args : Array Value} {w : World} {R : Value → World → Prop} (h : Rows P row args w R) : RowsIn Fence.wide n P row args w R := fun c cs _ => by
 obtain ⟨v, w', r, s⟩ := h c cs
 exact ⟨v, w', r, stepsIn_wide.2 s⟩
theorem ops_round {P : Program} {ops : Array Oper} {Q : Exit → Act → World → Prop} (l n : Nat) (hQ : ¬ LetsOut Q) (hd : ∀ (i : Nat) (o : Oper), ops[i]? = some o → ∀ c, o.op ≠ .defer c) :
  ∀ (is : List Nat) (a : Act) (w : World), wpOps P ops Q is a w → wpOpsIn (Fence.wide.inRound l) n P ops Q is a w
 | [], a, w, h => h
 | i :: rest, a, w, h => by
  unfold wpOps at h
  unfold wpOpsIn
  cases ho : ops[i]? with
  | none =>
   rw [ho] at h
   exact ops_round l n hQ hd rest a w h
  | some o =>
   rw [ho] at h
   simp only at h ⊢
   by_cases hw : Region.wanted o (yielded ops a.tmps) = true
   ·rw [if_pos hw] at h ⊢
    have h := h.resolve_right fun e => hQ e.2
    unfold Oper.wp at h
    refine ⟨fun _ _ => trivial, ?_⟩
    rw [show (Fence.wide.inRound l).round = some l from rfl, Oper.semAt_eq (some l) _ _ (hd i o ho)]
    generalize (execOp a.eval o).run P w = r at h
    cases r with
    | ok x w' =>
     cases x with
     | value v => exact ops_round l n hQ hd rest _ _ h
     | skip => exact ops_round l n hQ hd rest _ _ h
     | defer d => exact ops_round l n hQ hd rest _ _ h
     | enter f args =>
      refine ⟨fun e => by simp [Fence.wide] at e, CallsIn.inRound l (callsIn_wide.2 (Calls.mono h fun e w'' he => ?_))⟩
      cases e with
      | returned v => exact ops_round l n hQ hd rest _ _ he
      | panicked c => exact he
      | outgrown => exact he
     | row r args => exact ⟨fun e => by simp [Fence.wide] at e, rows_wide (n := n - 1) (Rows.mono h fun v w'' he => ops_round l n hQ hd rest _ _ he)⟩
     | round => exact h.elim
     | _ => first | exact h.elim | exact h
    | halt x w' => cases x <;> first | exact h.elim | exact h
   ·rw [if_neg hw] at h ⊢
    exact ⟨fun _ _ => trivial, ops_round l n hQ hd rest _ _ h⟩
theorem startR_ {P : Program} {ops : Array Oper} {Q : Exit → Act → World → Prop} {S : World → Prop} {ds : List Nat} {id n k lp : Nat} {a : Act} {w : World} (l : Array Bool) (hQ : ¬ LetsOut Q) (hd : ∀ (i : Nat) (o : Oper), ops[i]? = some o → ∀ c, o.op ≠ .defer c)
  (hm : P.follows .mixedOrders = true) (hn : ops.size = n) (hl : Array.replicate n false = l) (hS : S w.drew) (h : S w.drew → wpAnyLast P .any ops Q S ds n l a w.drew) : (Code.region id ops true).wpIn (Fence.wide.inRound lp) k P Q a w :=
 wpIn_region_draw fun t => by
  subst hn
  subst hl
  have := wpAny_sound ops.size t (Array.replicate ops.size false) a w.drew (wpAny_of_last _ _ _ _ (h hS))
  simp only [Region.schedule, hm, Bool.true_or, if_true]
  exact ops_round lp k hQ hd _ _ _ this
attribute [local go_sem] Oper.semAt_some

def onN (K : Act → World → Prop) (Q : Exit → Act → World → Prop) : Exit → Act → World → Prop
 | .normal, a, w => K a w
 | .panic c, a, w => Q (.panic c) a w
 | .outgrown, a, w => Q .outgrown a w
 | .ret, a, w => Q .ret a w
 | .exit i, a, w => Q (.exit i) a w
 | .goto t, a, w => Q (.goto t) a w
theorem upon_on {P : Program} {o : Oper} {a : Act} {K : Act → World → Prop} {Q : Exit → Act → World → Prop} {r : Result Next} (h : o.upon P a (onN K Q .normal) (onN K Q) r) : o.upon P a K Q r := by
 cases r with
 | ok x w' => cases x <;> exact h
 | halt x w' => cases x <;> exact h
theorem step_of_list {P : Program} {ops : Array Oper} {Q : Exit → Act → World → Prop} {K : Act → World → Prop} {o : Oper} {a : Act} {w : World} (hQ : ¬ LetsOut Q) (h : wpList P ops (onN K Q) [o] a w) :
  if Region.wanted o (yielded ops a.tmps) = true then Oper.wp P o a w K Q else K (a.put o.dst undef) w := by
 unfold wpList at h
 by_cases hw : Region.wanted o (yielded ops a.tmps) = true
 ·rw [if_pos hw] at h ⊢
  exact upon_on (h.resolve_right fun e => hQ e.2)
 ·rw [if_neg hw] at h ⊢
  exact h
theorem step_skip {P : Program} {ops : Array Oper} {Q : Exit → Act → World → Prop} {K : Act → World → Prop} {o : Oper} {a : Act} {w w1 : World} (hw : Region.wanted o (yielded ops a.tmps) = true) (hrun : (execOp a.eval o).run P w = .ok .skip w1) (h : K (a.put o.dst undef) w1) :
  if Region.wanted o (yielded ops a.tmps) = true then Oper.wp P o a w K Q else K (a.put o.dst undef) w := by
 rw [if_pos hw]
 unfold Oper.wp
 rw [hrun]
 exact h
def noDefer (o : Oper) : Bool := match o.op with | .defer _ => false | _ => true
theorem noDefer_of {ops : Array Oper} (h : ops.toList.all noDefer = true) : ∀ (i : Nat) (o : Oper), ops[i]? = some o → ∀ c, o.op ≠ .defer c := fun i o ho c e => by
 have h1 : o ∈ ops.toList := Array.mem_toList_iff.2 (Array.mem_of_getElem? ho)
 have h2 := List.all_eq_true.1 h o h1
 unfold noDefer at h2
 rw [e] at h2
 cases h2
def rowsOf {A : Nat → Option Nat} (h : Nat → Nd) (l : List (YE A)) : List S37 := l.map fun e => ⟨(e.val : Int), e.dep, (h e.val).t⟩
def RowsI {A : Nat → Option Nat} (h : Nat → Nd) (w : World) (g : Nat) (pre : List (YE A)) (V : World) : Prop :=
 (∃ v, Boxed V g 23 v ∧ Kd.R k37 37 V w.heap.size (fun _ => True) v (rowsOf h pre)) ∧ Below w.heap.size w V
theorem stb_below {β : Type} {B : Nat} {w : World} (h : w.heap.size ≤ B) : Stb B (fun (_ : β) V => Below w.heap.size w V) := fun s V W row hs hg hr =>
 hs.grown hg hs.size (fun k e => Nat.le_trans h (hr k e).1)
theorem rowsI_stb {A : Nat → Option Nat} {h : Nat → Nd} {w : World} {g B : Nat} (hB : w.heap.size ≤ B) : Stb B (RowsI (A := A) h w g) := fun s V W row hs hg hr => by
 obtain ⟨⟨v, hv, hR⟩, hb⟩ := hs
 refine ⟨⟨v, hv.kept hg fun e => ?_, Kd.R_mono (Kd.R_step (Kd.R_bound hR) fun k hk hlt => hg.block k hlt fun e => ?_) (fun _ _ => trivial)⟩, stb_below (β := Unit) hB () V W row hb hg hr⟩
 ·obtain ⟨_, o, h1, h2⟩ := hr g e.symm
  have h3 : V.heap[g]? = some (.cells #[v] 23 (0, 0)) := hv
  rw [h3] at h1
  rcases h2 with h2 | ⟨u, h2⟩
  ·rw [← Option.some.inj h1] at h2; cases h2
  ·rw [← Option.some.inj h1] at h2; simp at h2
 ·obtain ⟨_, o, h1, h2⟩ := hr k e.symm
  obtain ⟨_, _, _, q, hq, cells, h3⟩ := hk
  rw [h3] at h1
  have hq : q = 37 := by
   rcases List.mem_cons.1 hq with e | e
   ·exact e
   ·exact absurd e (by simp [k37, Kd.iso, Kd.pair, Kd.int, Kd.string, Kd.scalar])
  subst hq
  rcases h2 with h2 | ⟨u, h2⟩
  ·rw [← Option.some.inj h1] at h2; cases h2
  ·rw [← Option.some.inj h1] at h2; simp at h2
theorem letsOut_goes {α : Type} {w0 : World} {B id : Nat} {I : List α → World → Prop} {xs : List α} {W : World} : ¬ LetsOut (Exit.inBlock id (goesOn w0 B I xs W)) := fun ⟨_, _, h⟩ => h
theorem fl_pre {h : Nat → Nd} : ∀ {F : Fo} {up d : Nat}, Rep h up F → F.fl d = (pre1 d F).map fun p => ⟨(p.1 : Int), p.2, (h p.1).t⟩
 | .nil, _, _, _ => rfl
 | .nd i t k n, up, d, ⟨h1, h2, h3, h4⟩ => by
  have e := fl_pre (d := d + 1) h3
  rw [show ((d + 1 : Nat) : Int) = (d : Int) + 1 from rfl] at e
  simp only [Fo.fl, pre1, List.map_cons, List.map_append]
  rw [e, fl_pre h4, h2]
theorem fl_top {h : Nat → Nd} : ∀ {F : Fo} {d : Nat}, RepTop h F → F.fl d = (pre1 d F).map fun p => ⟨(p.1 : Int), p.2, (h p.1).t⟩
 | .nil, _, _ => rfl
 | .nd i t k n, d, ⟨h1, h2, h3, h4⟩ => by
  have e := fl_pre (d := d + 1) h3
  rw [show ((d + 1 : Nat) : Int) = (d : Int) + 1 from rfl] at e
  simp only [Fo.fl, pre1, List.map_cons, List.map_append]
  rw [e, fl_top h4, h2]
theorem stp_app {w V w3 : World} {B g : Nat} {v : Value} {ok : Nat → Prop} {l : List S37} (hR : Kd.R k37 37 V w.heap.size ok v l) (hbox : Boxed V g 23 v) (hg : V.drew.grownBy w3 v.ownBlock) (hV : w.heap.size ≤ V.heap.size) (hgb : w.heap.size ≤ g) (u : Value) : Stp w B V (w3.setCell ⟨g, 0, none⟩ u) := by
 have hcells : ∀ k, some k = v.ownBlock → ∃ cells, V.heap[k]? = some (.cells cells 37 (0, 0)) := fun k e => by
  obtain ⟨_, hlt, q, hq, cells, hc⟩ := ((Kd.R_bound hR).1 k e.symm).2
  have hq : q = 37 := by
   rcases List.mem_cons.1 hq with e | e
   ·exact e
   ·exact absurd e (by simp [k37, Kd.iso, Kd.pair, Kd.int, Kd.string, Kd.scalar])
  subst hq
  exact ⟨cells, hc⟩
 have h1 : Below w.heap.size V w3 := ((Below.refl w.heap.size V).drew).grown hg hV (fun k e => Kd.R_base hR k e)
 refine ⟨h1.setCell (p := ⟨g, 0, none⟩) hgb _, ?_, ?_⟩
 ·refine KeepsFrom.trans ⟨hg.size, fun k o _ hk ho => (hg.block k (Array.getElem?_eq_some_iff.1 hk).1 fun e => ?_).trans hk⟩ ((KeepsOthers.setCell w3 ⟨g, 0, none⟩ u).from B)
  obtain ⟨cells, hc⟩ := hcells k e
  rw [show V.heap[k]? = some o from hk] at hc
  rw [Option.some.inj hc] at ho
  cases ho
 ·intro b t x ht hb
  have hb2 : V.heap[b]? = some (.cells #[x] t (0, 0)) := hb
  have hne : t ≠ 37 ∧ t ≠ 23 := by rcases ht with rfl | rfl | rfl | rfl | rfl <;> decide
  have hb3 : Boxed w3 b t x := Boxed.kept (W := V.drew) hb hg fun e => by
   obtain ⟨cells, hc⟩ := hcells b e
   rw [hb2] at hc
   simp at hc
   exact hne.1 hc.2
  refine hb3.other (fun e => ?_) u
  subst e
  rw [show V.heap[b]? = some (.cells #[v] 23 (0, 0)) from hbox] at hb2
  simp at hb2
  exact hne.2 hb2.2.symm
set_option maxRecDepth 100000 in
set_option maxHeartbeats 4000000 in
theorem rows_any {w : World} {n0 Fb : Nat} {A : Nat → Option Nat} {h : Nat → Nd} (m : Mem w n0 Fb A h) {G : Fo} (hG : RepTop h G) (hnd : G.ids.Nodup) (hroots : G.tops = [1, 2, 3]) (hA : ∀ x ∈ G.ids, A x ≠ none) (h36 : G.ids.length ≤ 36) :
  Calls Tryd.prog 65 #[.pointer (some ⟨Fb, 0, none⟩)] w fun e w' => ∃ v : Value, e = .returned v ∧ Kd.R k37 37 w' w.heap.size (fun _ => True) v (G.fl 0) ∧ Below w.heap.size w w' := by
 obtain ⟨es, hes⟩ : ∃ es : List (YE A), es.map YE.pr = pre1 0 G := by
  have hok : ∀ p ∈ pre1 0 G, A p.1 ≠ none ∧ 0 ≤ p.2 ∧ p.2 ≤ 1000 := fun p hp => by
   obtain ⟨a1, a2, a3⟩ := pre1_mem hp
   exact ⟨hA _ a1, by omega, by omega⟩
  exact ⟨mkYE A _ hok, mkYE_pr A _ hok⟩
 have hfl : rowsOf h es = G.fl 0 := by
  rw [fl_top hG]
  show _ = (pre1 ((0 : Nat) : Int) G).map _
  rw [show ((0 : Nat) : Int) = 0 from rfl, ← hes, List.map_map]
  rfl
 refine (callsIn_wide (n := 8)).1 ?_
 refine callsIn_of_wp_marks Tryd.func65 rfl trivial ?_ rfl
 simp only [Tryd.ntmps65, List.size_toArray, List.length_cons, List.length_nil, Nat.reduceAdd, Nat.reduceSub, Array.replicate_succ, Array.replicate_zero, List.push_toArray, List.append_toArray, List.nil_append, List.cons_append]
 gi_wp2_with (refine ⟨trivial, ?_⟩; gi_at_call 100; refine (all_in Fence.wide _ trivial rfl _ _).mono ?_; rintro e w' ⟨rfl, rfl⟩)
 obtain ⟨w2, hw2⟩ : ∃ w2, w2 = ((w.alloc (.cells #[] 37)).alloc (.cells #[.slice (some ⟨w.heap.size, 0, none⟩) 0 0] 23)).alloc (.cells #[.pointer (some ⟨Fb, 0, none⟩)] 67) := ⟨_, rfl⟩
 have bT := (Boxed.new (w.alloc (.cells #[] 37)) 23 (.slice (some ⟨w.heap.size, 0, none⟩) 0 0)).alloc (.cells #[.pointer (some ⟨Fb, 0, none⟩)] 67)
 have bF := Boxed.new ((w.alloc (.cells #[] 37)).alloc (.cells #[.slice (some ⟨w.heap.size, 0, none⟩) 0 0] 23)) 67 (.pointer (some ⟨Fb, 0, none⟩))
 simp only [World.size_alloc] at bT bF
 have hz2 : w2.heap.size = w.heap.size + 3 := by rw [hw2]; simp
 have hB2 : Below w.heap.size w w2 := by rw [hw2]; exact ((((Below.refl _ w).alloc (Nat.le_refl _) _).alloc (by simp) _).alloc (by simp; omega) _)
 have hR2 : Kd.R k37 37 w2 w.heap.size (fun _ => True) (.slice (some ⟨w.heap.size, 0, none⟩) 0 0) (rowsOf h ([] : List (YE A))) := by
  rw [hw2]
  refine Kd.R_alloc (Kd.R_alloc ⟨fun _ _ => trivial, [], ?_, Reps.none _ _⟩ _) _
  have h0 : (w.alloc (.cells #[] 37)).ownsRow w.heap.size 37 3 (.slice (some ⟨w.heap.size, 0, none⟩) 0 0) 0 [] := by
   simpa using World.ownsRow_lit (base := w.heap.size) (e := 37) (size := 3) w #[] 0 (Nat.le_refl _) (by simp [maxLen]) (by simp)
  exact h0
 rw [← hw2] at bT bF ⊢
 clear hw2
 refine range_all (w0 := w) rfl rfl (gf := 117) (lb := #[.pointer (some ⟨w.heap.size + 1 + 1, 0, none⟩)]) rfl trivial (enters_of Tryd.func117 (by kernel_rfl) rfl)
  (encs := fun x : YE A => #[.pointer (pa (A x.val)), .int .i64 x.dep]) (fun _ => by rfl) 60000 es (by omega)
  (fun l J W hSW hJ hY hJ0 => (all1_in Fence.wide rfl trivial trivial trivial trivial rfl l 60000 W.heap.size _ m hG hnd hroots hA h36 J hJ hY (Nat.le_refl _) es hes (w.heap.size + 1 + 1) W (hSW.kb _ _ _ (Or.inr (Or.inr (Or.inr (Or.inr rfl)))) bF) (hB2.trans hSW.below) (Nat.le_refl _) hJ0).mono fun e W' hp => ⟨hp.1, hp.2.1⟩)
  (RowsI h w (w.heap.size + 1)) (rowsI_stb (by omega)) ⟨⟨_, bT, hR2⟩, hB2⟩
  (fun x => { tmps := #[.pointer (some ⟨Fb, 0, none⟩), undef, .slice none 0 0, .pointer (some ⟨w.heap.size + 1, 0, none⟩), .pointer (pa (A x.val)), .int .i64 x.dep, .slice (some ⟨w.heap.size, 0, none⟩) 0 0, .pointer (some ⟨Fb, 0, none⟩), .func (.func 117) #[] #[.pointer (some ⟨w.heap.size + 1 + 1, 0, none⟩)], .pointer (pa (A x.val)), .int .i64 x.dep, undef, undef, undef, undef, undef, undef, undef, undef, undef, undef, undef, undef, undef, undef], defers := [] }) ?assign ?body ?done
 case assign =>
  intro l x W K hK
  gi_wp2
  exact hK
 case body =>
  rintro l pre x V ⟨⟨v, hbox, hR⟩, hBw⟩ hBV hlt
  obtain ⟨c, hc⟩ := Option.ne_none_iff_exists'.1 x.ok
  have MV := m.below hBV
  have q0 := MV.c0 hc
  have q1 := MV.c1 hc
  have qb := hbox.cell
  have qf := hbox.frozen
  have hlen : (rowsOf h pre).length < 60000 := by unfold rowsOf; rw [List.length_map]; exact hlt
  rw [hc, pa_some]
  refine wpIn_block ?_
  refine startR_ (n := 14) (S := fun w' => w'.cell? ⟨w.heap.size + 1, 0, none⟩ = some v ∧ w'.cell? ⟨c, 0, none⟩ = some (.int .i64 (x.val : Int)) ∧ w'.cell? ⟨c, 1, none⟩ = some (.string (h x.val).t)) (ds := [12, 13]) #[false, false, false, false, false, false, false, false, false, false, false, false, false, false] letsOut_goes (noDefer_of (by kernel_rfl)) (by kernel_rfl) rfl rfl ⟨qb, q0, q1⟩ (fun hHeld => ?_)
  clear q0 q1
  refine take_ (i := 0) (N := some 11) (v := ?_) (a' := ?_) #[true, false, false, false, false, false, false, false, false, false, false, false, false, false] rfl rfl (by kernel_rfl) (fun _ _ _ h => h) (Or.inl ⟨by rfl, ?_⟩) hHeld ?_ ?_
  rotate_left
  ·rintro w' ⟨s0, s1, s2⟩
   go_simp
   with_reducible rfl
  rotate_left
  ·simp only [Act.put, List.setIfInBounds_toArray, List.set_cons_zero, List.set_cons_succ, i64_w, i32_w]
   rfl
  refine pure_ (i := 1) (N := some 12) (v := ?_) (a' := ?_) #[true, true, false, false, false, false, false, false, false, false, false, false, false, false] rfl rfl (by kernel_rfl) (fun _ _ _ h => h) (Or.inl ⟨by rfl, ?_⟩) ?_ ?_
  rotate_left
  ·intro w'
   go_simp
   with_reducible rfl
  rotate_left
  ·simp only [Act.put, List.setIfInBounds_toArray, List.set_cons_zero, List.set_cons_succ, i64_w, i32_w]
   rfl
  refine pure_ (i := 2) (N := some 13) (v := ?_) (a' := ?_) #[true, true, true, false, false, false, false, false, false, false, false, false, false, false] rfl rfl (by kernel_rfl) (fun _ _ _ h => h) (Or.inl ⟨by rfl, ?_⟩) ?_ ?_
  rotate_left
  ·intro w'
   go_simp
   with_reducible rfl
  rotate_left
  ·simp only [Act.put, List.setIfInBounds_toArray, List.set_cons_zero, List.set_cons_succ, i64_w, i32_w]
   rfl
  refine pure_ (i := 3) (N := some 14) (v := ?_) (a' := ?_) #[true, true, true, true, false, false, false, false, false, false, false, false, false, false] rfl rfl (by kernel_rfl) (fun _ _ _ h => h) (Or.inl ⟨by rfl, ?_⟩) ?_ ?_
  rotate_left
  ·intro w'
   go_simp
   with_reducible rfl
  rotate_left
  ·simp only [Act.put, List.setIfInBounds_toArray, List.set_cons_zero, List.set_cons_succ, i64_w, i32_w]
   rfl
  refine take_ (i := 4) (N := some 15) (v := ?_) (a' := ?_) #[true, true, true, true, true, false, false, false, false, false, false, false, false, false] rfl rfl (by kernel_rfl) (fun _ _ _ h => h) (Or.inl ⟨by rfl, ?_⟩) hHeld ?_ ?_
  rotate_left
  ·rintro w' ⟨s0, s1, s2⟩
   go_simp
   with_reducible rfl
  rotate_left
  ·simp only [Act.put, List.setIfInBounds_toArray, List.set_cons_zero, List.set_cons_succ, i64_w, i32_w]
   rfl
  refine pure_ (i := 5) (N := some 16) (v := ?_) (a' := ?_) #[true, true, true, true, true, true, false, false, false, false, false, false, false, false] rfl rfl (by kernel_rfl) (fun _ _ _ h => h) (Or.inl ⟨by rfl, ?_⟩) ?_ ?_
  rotate_left
  ·intro w'
   go_simp
   with_reducible rfl
  rotate_left
  ·simp only [Act.put, List.setIfInBounds_toArray, List.set_cons_zero, List.set_cons_succ, i64_w, i32_w]
   rfl
  refine pure_ (i := 6) (N := some 17) (v := ?_) (a' := ?_) #[true, true, true, true, true, true, true, false, false, false, false, false, false, false] rfl rfl (by kernel_rfl) (fun _ _ _ h => h) (Or.inl ⟨by rfl, ?_⟩) ?_ ?_
  rotate_left
  ·intro w'
   go_simp
   with_reducible rfl
  rotate_left
  ·simp only [Act.put, List.setIfInBounds_toArray, List.set_cons_zero, List.set_cons_succ, i64_w, i32_w]
   rfl
  refine pure_ (i := 7) (N := some 18) (v := ?_) (a' := ?_) #[true, true, true, true, true, true, true, true, false, false, false, false, false, false] rfl rfl (by kernel_rfl) (fun _ _ _ h => h) (Or.inl ⟨by rfl, ?_⟩) ?_ ?_
  rotate_left
  ·intro w'
   go_simp
   with_reducible rfl
  rotate_left
  ·simp only [Act.put, List.setIfInBounds_toArray, List.set_cons_zero, List.set_cons_succ, i64_w, i32_w]
   rfl
  refine pure_ (i := 8) (N := some 19) (v := ?_) (a' := ?_) #[true, true, true, true, true, true, true, true, true, false, false, false, false, false] rfl rfl (by kernel_rfl) (fun _ _ _ h => h) (Or.inl ⟨by rfl, ?_⟩) ?_ ?_
  rotate_left
  ·intro w'
   go_simp
   with_reducible rfl
  rotate_left
  ·simp only [Act.put, List.setIfInBounds_toArray, List.set_cons_zero, List.set_cons_succ, i64_w, i32_w]
   rfl
  refine take_ (i := 9) (N := some 20) (v := ?_) (a' := ?_) #[true, true, true, true, true, true, true, true, true, true, false, false, false, false] rfl rfl (by kernel_rfl) (fun _ _ _ h => h) (Or.inl ⟨by rfl, ?_⟩) hHeld ?_ ?_
  rotate_left
  ·rintro w' ⟨s0, s1, s2⟩
   go_simp
   with_reducible rfl
  rotate_left
  ·simp only [Act.put, List.setIfInBounds_toArray, List.set_cons_zero, List.set_cons_succ, i64_w, i32_w]
   rfl
  refine pure_ (i := 10) (N := some 21) (v := ?_) (a' := ?_) #[true, true, true, true, true, true, true, true, true, true, true, false, false, false] rfl rfl (by kernel_rfl) (fun _ _ _ h => h) (Or.inl ⟨by rfl, ?_⟩) ?_ ?_
  rotate_left
  ·intro w'
   go_simp
   with_reducible rfl
  rotate_left
  ·simp only [Act.put, List.setIfInBounds_toArray, List.set_cons_zero, List.set_cons_succ, i64_w, i32_w]
   rfl
  refine one_ (i := 11) (N := some 22) #[true, true, true, true, true, true, true, true, true, true, true, true, false, false] rfl rfl (by kernel_rfl) (by decide) (fun K hK => ?_)
  refine event_step (v := .slice (some ⟨V.heap.size, 0, none⟩) 1 1) (w1 := V.drew.alloc (.cells #[.int .i64 (x.val : Int), .int .i64 x.dep, .string (h x.val).t] 37)) (by rfl) (by first | (go_simp; done) | (go_simp; rfl)) ?_
  refine hK.out _ _ ⟨cell_alloc_f _ hHeld.1, cell_alloc_f _ hHeld.2.1, cell_alloc_f _ hHeld.2.2⟩ (fun _ => ?_)
  clear hK K
  refine no_ 22 ?_
  refine last_ (i := 12) (N := some 23) #[true, true, true, true, true, true, true, true, true, true, true, true, true, false] rfl rfl (by kernel_rfl) (by decide) (fun K hK => ?_)
  refine step_of_list letsOut_goes ?_
  have hBd : Below w.heap.size w V.drew := hBw.drew
  refine Kd.R_append k37 (W := V.drew) (w0 := w) w.heap.size rfl (.tmp 11) (.tmp 22) 23 37 (.agg #[(.int .i64 0), (.int .i64 0), (.string ⟨#[]⟩)]) 32 rfl Tryd.underlying23 info37 rfl (by decide) (by omega) v (rowsOf h pre) ⟨(x.val : Int), x.dep, (h x.val).t⟩ [.int .i64 (x.val : Int), .int .i64 x.dep, .string (h x.val).t] (fun _ => True) (fun _ => False) rfl rfl (k37_mkM _ _ _ ⟨(x.val : Int), x.dep, (h x.val).t⟩) (fun _ hk => hk.elim) (fun _ _ => trivial) (Kd.R_drew hR) hBd hBd.size (by omega) ?_
  intro v1 w3 hR3 hB3 hg3 hat3
  refine hK.out _ _ ?_
  clear hK K
  have hb3 : Boxed w3 (w.heap.size + 1) 23 v := Boxed.kept (W := V.drew) hbox hg3 (Kd.R_ne hR (show V.heap[w.heap.size + 1]? = some (.cells #[v] 23 (0, 0)) from hbox) (by decide))
  obtain ⟨A3, k3, rfl⟩ := Kd.R_slice hR3
  have s1 := hb3.cell
  have s2 := hb3.frozen
  refine no_ 23 ?_
  refine last_ (i := 13) (N := none) #[true, true, true, true, true, true, true, true, true, true, true, true, true, true] rfl rfl (by kernel_rfl) (by decide) (fun K hK => ?_)
  refine step_skip (w1 := w3.setCell ⟨w.heap.size + 1, 0, none⟩ (.slice A3 (rowsOf h pre ++ [(⟨(x.val : Int), x.dep, (h x.val).t⟩ : S37)]).length k3)) (by rfl) (by first | (go_simp; done) | (go_simp; rfl)) ?_
  refine hK.out _ _ ?_
  clear hK K
  refine done_ (by kernel_rfl) ?_
  have hro : rowsOf h (pre ++ [x]) = rowsOf h pre ++ [(⟨(x.val : Int), x.dep, (h x.val).t⟩ : S37)] := by unfold rowsOf; rw [List.map_append]; rfl
  refine ⟨⟨⟨_, hb3.set _, ?_⟩, hB3.setCell (p := ⟨w.heap.size + 1, 0, none⟩) (by simp) _⟩, stp_app hR hbox hg3 hBw.size (by simp) _⟩
  rw [hro]
  exact Kd.R_mono (Kd.R_far (p := ⟨w.heap.size + 1, 0, none⟩) (Kd.R_types hR3 hb3 (by decide)) (fun k hk => hk.2) _) (fun _ _ => trivial)
 case done =>
  rintro D V hD ⟨⟨v, hbox, hR⟩, hBw⟩ hK
  have cT := hbox.cell
  have HR := Aside0.mk hR
  have HB := Aside0.mk hBw
  clear hbox hR hBw
  gi_wp2
  refine ⟨by simp, .inl ⟨_, _, rfl, run_takeDeferred hK, ?_⟩⟩
  refine ⟨_, results_tmp rfl _ _ _, _, rfl, ?_, HB.out.trans (belowK_b (w := w) (Nat.le_refl _) V D _ _ (by omega) hK rfl rfl)⟩
  rw [← hfl]
  refine Kd.R_mono (Kd.R_step (Kd.R_bound HR.out) fun k hk hlt => World.putObj_heap_other ?_) (fun _ _ => trivial)
  rintro rfl
  obtain ⟨_, _, _, q, hq, cells, h3⟩ := hk
  rw [h3] at hK
  cases hK
end Go.Proofs.YtlkheeegkifblaaDoor.P
namespace Go.Proofs.YtlkheeegkifblaaDoor.P
open Go.RowKit Go.Proofs.YtlkheeegkifblaaDoorW.PrintWords Go.Proofs.YtlkheeegkifblaaDoorW.PrintLast Go.Proofs.YtlkheeegkifblaaDoorW.PrintMore Go.Proofs.YtlkheeegkifblaaDoor.PL Go.Proofs.YtlkheeegkifblaaDoor.FP
theorem made_num {a : Int} (h : madeB a = true) : ∃ i : Nat, a = (i : Int) ∧ 4 ≤ i ∧ i < 37 := by
 obtain ⟨h0, h1⟩ := made_small a h
 obtain ⟨i, rfl⟩ := Int.eq_ofNat_of_zero_le h0
 refine ⟨i, rfl, ?_, by omega⟩
 rcases Nat.lt_or_ge i 4 with g | g
 ·exfalso
  have : i = 0 ∨ i = 1 ∨ i = 2 ∨ i = 3 := by omega
  rcases this with rfl | rfl | rfl | rfl <;> exact absurd h (by decide)
 ·exact g
theorem apply_any {w : World} {n0 F : Nat} {A : Nat → Option Nat} {h : Nat → Nd} {G : Fo} (t : At w n0 F A h G) (hn0 : n0 ≤ w.heap.size) (kd id up at_ : Int) (s : ByteArray) (hk : kd = 1 ∨ kd = 2 ∨ kd = 3) (hm : madeB id = true) :
  Calls Tryd.prog 64 #[.pointer (some ⟨F, 0, none⟩), ChV kd id up at_ s] w (ApplyPost w n0 F (doF G kd id up at_ s)) := by
 obtain ⟨i, rfl, h4, h37⟩ := made_num hm
 have hi0 : i ≠ 0 := by omega
 have hit : i ∉ G.tops := by rw [t.tops]; simp; omega
 have hcase : fndF G (i : Int) = 0 ∨ fndF G (i : Int) = i := by unfold fndF; split <;> simp
 rcases hk with rfl | rfl | rfl
 ·unfold ChV doF
  rw [if_pos rfl, if_neg (by decide), if_pos rfl]
  by_cases h1 : fndF G (i : Int) = 0
  ·rw [if_pos h1]
   exact apply_make_yes t hn0 i up at_ s h1 hi0 h37
  ·rw [if_neg h1]
   exact apply_make_no t hn0 _ up at_ s h1
 ·unfold ChV doF
  rw [if_neg (by decide), if_pos rfl, if_pos rfl]
  by_cases h1 : fndF G (i : Int) = 0
  ·rw [if_pos h1]; exact apply_text_no t hn0 _ s h1
  ·rw [if_neg h1]; exact apply_text_yes t hn0 _ s _ rfl h1
 ·unfold ChV doF
  rw [if_neg (by decide), if_neg (by decide), if_neg (by decide), if_neg (by decide)]
  by_cases h1 : fndF G (i : Int) = 0
  ·rw [if_pos h1]; exact apply_move_no t hn0 _ up at_ (fun g => g.1 h1)
  ·rw [if_neg h1]
   have h2 := hcase.resolve_left h1
   by_cases hu : under (fndF G (i : Int)) (fndF G up) G
   ·rw [if_pos hu]; exact apply_move_no t hn0 _ up at_ (fun g => g.2 hu)
   ·rw [if_neg hu]
    rw [h2] at hu ⊢
    exact apply_move_yes t hn0 i up at_ h2 hi0 hit hu
theorem At.len {w : World} {n0 F : Nat} {A : Nat → Option Nat} {h : Nat → Nd} {G : Fo} (t : At w n0 F A h G) : G.ids.length ≤ 36 := by
 have := nodup_len 37 (0 :: G.ids) (List.nodup_cons.2 ⟨fun g => t.rep.ne0 0 g rfl, t.nd⟩) fun x hx => by
  rcases List.mem_cons.1 hx with rfl | hx
  ·omega
  ·obtain ⟨b, hb⟩ := t.ok hx; exact t.m.rng x b hb
 simp only [List.length_cons] at this
 omega
def impl_OpDo.f (k : Nat) (l0 : List S37) (a0 a1 a2 a3 : Int) (a4 : ByteArray) : Option (List S37) :=
 (impl_changeOf.f k a0 a1 a2 a3 a4).bind fun ok => some (if ok = true then (if treeB l0 = true then (doF (toFo l0) a0 a1 a2 a3 a4).fl 0 else []) else [])
theorem impl_OpDo.mono (l0 : List S37) (a0 a1 a2 a3 : Int) (a4 : ByteArray) (k : Nat) : LeO (impl_OpDo.f k l0 a0 a1 a2 a3 a4) (impl_OpDo.f (k + 1) l0 a0 a1 a2 a3 a4) := by
 unfold impl_OpDo.f
 exact LeO.bind (impl_changeOf.mono _ _ _ _ _ _) (fun _ => LeO.refl _)
theorem changeOf_yes {k : Nat} {a0 a1 a2 a3 : Int} {a4 : ByteArray} (h : impl_changeOf.f k a0 a1 a2 a3 a4 = some true) : (a0 = 1 ∨ a0 = 2 ∨ a0 = 3) ∧ madeB a1 = true := by
 unfold impl_changeOf.f at h
 rw [isMade_f] at h
 simp only [Option.bind_some] at h
 cases hm : madeB a1 with
 | false => rw [hm] at h; simp at h
 | true =>
  refine ⟨?_, rfl⟩
  rw [hm, if_pos rfl] at h
  by_cases h1 : a0 = 1
  ·exact Or.inl h1
  ·by_cases h2 : a0 = 2
   ·exact Or.inr (Or.inl h2)
   ·by_cases h3 : a0 = 3
    ·exact Or.inr (Or.inr h3)
    ·rw [if_neg h1, if_neg h2, if_neg h3] at h; simp at h
def OpDoPost (w : World) (r : List S37) (e : Ending) (w' : World) : Prop := ∃ v0_ : Value, e = .returned v0_ ∧ Kd.R k37 37 w' w.heap.size (fun _ => True) v0_ r ∧ Below w.heap.size w w'
set_option maxHeartbeats 1000000 in
set_option maxRecDepth 100000 in
theorem opDo_notree (k : Nat) (A0 : Option Addr) (c0 : Nat) (l0 : List S37) (a0 a1 a2 a3 : Int) (a4 : ByteArray) (ok : Bool) (w : World) (hr0 : Kd.C k37 w A0 l0.length l0) (hc0 : l0.length ≤ c0) (hok : impl_changeOf.f k a0 a1 a2 a3 a4 = some ok) (ht : treeB l0 = false) (hG : Glob w) :
  Calls Tryd.prog 23 #[.slice A0 l0.length c0, .agg #[.int .i64 a0, .int .i64 a1, .int .i64 a2, .int .i64 a3, .string a4]] w (OpDoPost w []) := by
 have HR := Aside0.mk hr0
 have HC := Aside0.mk hc0
 have HO := Aside0.mk hok
 have HT := Aside0.mk ht
 have HG := Aside0.mk hG
 have hu := Tryd.underlying27
 clear hr0 hc0 hok ht hG
 go_enter Tryd.func23, Tryd.ntmps23
 go_wp2_with (first
  | (go_at_call 63; (with_reducible refine (impl_changeOf.calls k a0 a1 a2 a3 a4 ok _ HO.out (HG.out.below (below_box0 w _))).mono ?_); rintro en W1 ⟨v1, rfl, _, hb⟩; have HB1 := Aside0.mk ((below_box0 w _).trans (hb.mono (by simp))); clear hb)
  | (go_at_call 60; (with_reducible refine (plant_no A0 c0 l0 _ (Kd.C_below HR.out HB1.out) HC.out HT.out (HG.out.below HB1.out)).mono ?_); rintro en W2 ⟨rfl, hb⟩; have HB2 := Aside0.mk (below_step HB1.out hb); clear hb))
 cases ok
 all_goals go_wp2
 all_goals go_ret
 all_goals exact ⟨_, rfl, Kd.R_nil _ _ _ _ _, HB2.out⟩
set_option maxHeartbeats 1000000 in
set_option maxRecDepth 100000 in
theorem opDo_noop (k : Nat) (A0 : Option Addr) (c0 : Nat) (l0 : List S37) (a0 a1 a2 a3 : Int) (a4 : ByteArray) (w : World) (hr0 : Kd.C k37 w A0 l0.length l0) (hc0 : l0.length ≤ c0) (hok : impl_changeOf.f k a0 a1 a2 a3 a4 = some false) (ht : treeB l0 = true) (hG : Glob w) :
  Calls Tryd.prog 23 #[.slice A0 l0.length c0, .agg #[.int .i64 a0, .int .i64 a1, .int .i64 a2, .int .i64 a3, .string a4]] w (OpDoPost w []) := by
 have HR := Aside0.mk hr0
 have HC := Aside0.mk hc0
 have HO := Aside0.mk hok
 have HT := Aside0.mk ht
 have HG := Aside0.mk hG
 have hu := Tryd.underlying27
 clear hr0 hc0 hok ht hG
 go_enter Tryd.func23, Tryd.ntmps23
 go_wp2_with (first
  | (go_at_call 63; (with_reducible refine (impl_changeOf.calls k a0 a1 a2 a3 a4 false _ HO.out (HG.out.below (below_box0 w _))).mono ?_); rintro en W1 ⟨v1, rfl, _, hb⟩; have HB1 := Aside0.mk ((below_box0 w _).trans (hb.mono (by simp))); clear hb)
  | (go_at_call 60; (with_reducible refine (plant_yes A0 c0 l0 _ (Kd.C_below HR.out HB1.out) HC.out HT.out (HG.out.below HB1.out)).mono ?_); rintro en W2 ⟨Fb, G, A, h, rfl, _, _, _, _, _, _, hb⟩; have HB2 := Aside0.mk (below_step HB1.out hb); clear hb))
 go_ret
 exact ⟨_, rfl, Kd.R_nil _ _ _ _ _, HB2.out⟩
set_option maxHeartbeats 1000000 in
set_option maxRecDepth 100000 in
theorem opDo_yes (k : Nat) (A0 : Option Addr) (c0 : Nat) (l0 : List S37) (a0 a1 a2 a3 : Int) (a4 : ByteArray) (w : World) (hr0 : Kd.C k37 w A0 l0.length l0) (hc0 : l0.length ≤ c0) (hok : impl_changeOf.f k a0 a1 a2 a3 a4 = some true) (ht : treeB l0 = true) (hG : Glob w) :
  Calls Tryd.prog 23 #[.slice A0 l0.length c0, .agg #[.int .i64 a0, .int .i64 a1, .int .i64 a2, .int .i64 a3, .string a4]] w (OpDoPost w ((doF (toFo l0) a0 a1 a2 a3 a4).fl 0)) := by
 have HR := Aside0.mk hr0
 have HC := Aside0.mk hc0
 have HO := Aside0.mk hok
 have HT := Aside0.mk ht
 have HG := Aside0.mk hG
 have HY := Aside0.mk (changeOf_yes hok)
 have hu := Tryd.underlying27
 clear hr0 hc0 hok ht hG
 go_enter Tryd.func23, Tryd.ntmps23
 go_wp2_with (first
  | (go_at_call 63; (with_reducible refine (impl_changeOf.calls k a0 a1 a2 a3 a4 true _ HO.out (HG.out.below (below_box0 w _))).mono ?_); rintro en W1 ⟨v1, rfl, hv, hb⟩; obtain rfl := hv rfl; have HB1 := Aside0.mk ((below_box0 w _).trans (hb.mono (by simp))); clear hb hv)
  | (go_at_call 60; (with_reducible refine (plant_yes A0 c0 l0 _ (Kd.C_below HR.out HB1.out) HC.out HT.out (HG.out.below HB1.out)).mono ?_); rintro en W2 ⟨Fb, G, A, h, rfl, p1, p2, p3, p4, p5, p6, hb⟩; have HB2 := Aside0.mk (below_step HB1.out hb); have HAT := Aside0.mk (show At W2 W1.heap.size Fb A h G from ⟨p1, p2, p3, p4, p5⟩); have HTO := Aside0.mk (toFo_of HT.out p6); have HS := Aside0.mk hb.size; clear hb p1 p2 p3 p4 p5 p6)
  | (go_at_call 64; (with_reducible refine (apply_any HAT.out HS.out a0 a1 a2 a3 a4 HY.out.1 HY.out.2).mono ?_); rintro en W3 ⟨⟨v3, rfl⟩, ⟨A3, h3, t3⟩, hb⟩; have HB3 := Aside0.mk (HB2.out.trans (hb.mono HB1.out.size)); have HT3 := Aside0.mk t3; clear hb t3)
  | (go_at_call 65; (with_reducible refine (rows_any HT3.out.m HT3.out.rep HT3.out.nd HT3.out.tops (fun x hx => (HT3.out.dom x).2 hx) HT3.out.len).mono ?_); rintro en W4 ⟨v4, rfl, ho, hb⟩; have HB4 := Aside0.mk (below_step HB3.out hb); have HO4 := Aside0.mk (Kd.R_lower ho HB3.out.size); clear hb ho))
 go_ret
 rw [HTO.out]
 exact ⟨_, rfl, HO4.out, HB4.out⟩
theorem impl_OpDo.calls (k : Nat) (A0 : Option Addr) (c0 : Nat) (l0 : List S37) (a0 a1 a2 a3 : Int) (a4 : ByteArray) (r : List S37) (w : World) (hr0 : Kd.C k37 w A0 l0.length l0) (hc0 : l0.length ≤ c0) (h : impl_OpDo.f k l0 a0 a1 a2 a3 a4 = some r) (hG : Glob w) :
  Calls Tryd.prog 23 #[.slice A0 l0.length c0, .agg #[.int .i64 a0, .int .i64 a1, .int .i64 a2, .int .i64 a3, .string a4]] w fun e w' => ∃ v0_ : Value, e = .returned v0_ ∧ Kd.R k37 37 w' w.heap.size (fun _ => True) v0_ r ∧ Below w.heap.size w w' := by
 unfold impl_OpDo.f at h
 obtain ⟨ok, hok, h⟩ := Option.bind_eq_some_iff.1 h
 cases ht : treeB l0 with
 | false =>
  have hr : r = [] := by rw [ht] at h; cases ok <;> simpa using h.symm
  subst hr
  exact opDo_notree k A0 c0 l0 a0 a1 a2 a3 a4 ok w hr0 hc0 hok ht hG
 | true =>
  rw [ht] at h
  cases ok with
  | false =>
   have hr : r = [] := by simpa using h.symm
   subst hr
   exact opDo_noop k A0 c0 l0 a0 a1 a2 a3 a4 w hr0 hc0 hok ht hG
  | true =>
   simp only [if_true, Option.some.injEq] at h
   subst h
   exact opDo_yes k A0 c0 l0 a0 a1 a2 a3 a4 w hr0 hc0 hok ht hG
end Go.Proofs.YtlkheeegkifblaaDoor.P
